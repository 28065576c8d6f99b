/-
  Sums.
-/
import Derived.Test.YthaedhabookjeaaFx31
import Derived.Test.YthaedhabookjeaaAb16
set_option linter.unusedVariables false
set_option linter.unusedSimpArgs false
namespace Go.Fx
open Go Go.Ab Go.Proofs

/-- Values that lie in a row of cells. -/
def vlsN : Nat → List Value → Option (List Vl)
  | 0, _ => some []
  | n + 1, .int .i64 a :: .string s :: r => match vlsN n r with | some l => some (⟨a, s⟩ :: l) | none => none
  | _, _ => none
def vlsA (c : List Value) (off n : Nat) : List Vl := (vlsN n (c.drop off)).getD []
def vlsOK (c : List Value) (off n : Nat) : Bool := (vlsN n (c.drop off)).isSome && plainL c
/-- The sum, one after the other: the error, the sum, the place. -/
def sumGo (t : Ty) : List Vl → Int → Int → Int × Int × Int
  | [], s, i => (0, s, i)
  | v :: r, s, i => if fits v t ≠ 0 then (fits v t, s, i) else sumGo t r (s + v.n) (i + 1)
def suE (l : List Vl) (t : Ty) : Int := if check t ≠ 0 then check t else (sumGo t l 0 0).1
def suN (l : List Vl) (t : Ty) : Int := if suE l t ≠ 0 then 0 else cutN (sumGo t l 0 0).2.1 (totT t)
def suC (l : List Vl) (t : Ty) : Int := if suE l t ≠ 0 then 0 else cutC (sumGo t l 0 0).2.1 (totT t) 2
abbrev suR (l : List Vl) (t : Ty) : Value := tup [vv ⟨suN l t, e0⟩, I (suC l t), I (suE l t)]
abbrev sl0 (off n cap : Nat) : Value := .slice (some ⟨0, off, some 1⟩) n cap

theorem vlsN_at : ∀ (n : Nat) (c : List Value) (l : List Vl), vlsN n c = some l → l.length = n ∧ ∀ i v, l[i]? = some v → c[2 * i]? = some (.int .i64 v.n) ∧ c[2 * i + 1]? = some (.string v.s)
  | 0, c, l, h => by
    simp only [vlsN, Option.some.injEq] at h
    subst h
    exact ⟨rfl, fun i v h => by simp at h⟩
  | n + 1, c, l, h => by
    unfold vlsN at h
    split at h
    · rename_i hm; cases hm
    · rename_i m a s r hm
      cases hm
      split at h
      · rename_i l' hl
        cases h
        obtain ⟨h1, h2⟩ := vlsN_at n r l' hl
        refine ⟨by simp [h1], fun i v hv => ?_⟩
        cases i with
        | zero =>
          simp only [List.getElem?_cons_zero, Option.some.injEq] at hv
          subst hv
          exact ⟨rfl, rfl⟩
        | succ i =>
          obtain ⟨q1, q2⟩ := h2 i v (by simpa using hv)
          rw [show 2 * (i + 1) = 2 * i + 1 + 1 by omega]
          exact ⟨by simpa using q1, by simpa using q2⟩
      · cases h
    · cases h
theorem vls_at {c : List Value} {off n : Nat} (h : vlsOK c off n = true) : (vlsA c off n).length = n ∧ plainL c = true ∧ ∀ (i : Nat), i < n → ∃ v, (vlsA c off n)[i]? = some v ∧
    isIntAt .i64 c (off + i * 2) = true ∧ isStrAt c (off + i * 2 + 1) = true ∧ intAt c (off + i * 2) = v.n ∧ strAt c (off + i * 2 + 1) = v.s := by
  simp only [vlsOK, Bool.and_eq_true] at h
  obtain ⟨h1, h2⟩ := h
  cases hv : vlsN n (c.drop off) with
  | none => rw [hv] at h1; cases h1
  | some l =>
    have e : vlsA c off n = l := by simp [vlsA, hv]
    rw [e]
    obtain ⟨h3, h4⟩ := vlsN_at n _ l hv
    refine ⟨h3, h2, fun i hi => ?_⟩
    have hi' : i < l.length := by omega
    refine ⟨l[i], List.getElem?_eq_getElem hi', ?_⟩
    obtain ⟨q1, q2⟩ := h4 i l[i] (List.getElem?_eq_getElem hi')
    rw [List.getElem?_drop] at q1 q2
    rw [show off + 2 * i = off + i * 2 by omega] at q1
    rw [show off + (2 * i + 1) = off + i * 2 + 1 by omega] at q2
    exact ⟨by simp [isIntAt, q1], by simp [isStrAt, q2], by simp [intAt, q1], by simp [strAt, q2]⟩
theorem sumGo_rng (t : Ty) (ht : Valid t) : ∀ (l : List Vl) (s i : Int), s - 2147483648 * l.length ≤ (sumGo t l s i).2.1 ∧ (sumGo t l s i).2.1 ≤ s + 2147483648 * l.length
  | [], s, i => by simp [sumGo]
  | v :: r, s, i => by
    unfold sumGo
    split
    · simp only [List.length_cons]; omega
    · rename_i h
      have h : Gd v t := gd_iff.1 (by simpa using h)
      have g := gd_rng h
      have b := bnd_range ht
      have ih := sumGo_rng t ht r (s + v.n) (i + 1)
      simp only [List.length_cons]
      omega
theorem drop_at {l : List Vl} {i : Nat} {v : Vl} (h : l[i]? = some v) : l.drop i = v :: l.drop (i + 1) := by
  have hlt := (List.getElem?_eq_some_iff.1 h).1
  have := List.drop_eq_getElem_cons hlt
  rw [(List.getElem?_eq_some_iff.1 h).2] at this
  exact this
theorem ids_view {n : Nat} {c : List Value} (h : plainL c = true) : idsLt n c = true := by simp [idsLt, ids_plainL h]

theorem totT_ok {t : Ty} (h : Valid t) : Valid (totT t) := by
  have r := valid_r h
  have m := most_r t.k
  have hp : t.p ≤ most t.k := h.2.2.1
  rw [totT, if_pos h]
  exact ⟨h.1, by simp only; omega, by simp only; omega, by simp only; omega, by simp only; omega, fun k => h.2.2.2.2.2.1 k, rfl, e0_nil⟩
theorem view51 {k off' n' : Nat} {A A' : List Value} {c c' : List Value} {ty ty' : Nat} {b b' d d' f f' : List Value} {x : Bool} (hp : (vlsOK c' off' n' && x) = true)
    (h : (idsLt k A && idsLtB k [some ⟨c, ty, false⟩, some ⟨b, 23, true⟩, some ⟨d, 25, true⟩, some ⟨f, 23, true⟩]) = true) (hA : idsLt k A = idsLt k A') (hb : idsLt k b = idsLt k b') (hd : idsLt k d = idsLt k d') (hf : idsLt k f = idsLt k f') :
    (idsLt k A' && idsLtB k [some ⟨c', ty', false⟩, some ⟨b', 23, true⟩, some ⟨d', 25, true⟩, some ⟨f', 23, true⟩]) = true := by
  simp only [Bool.and_eq_true, idsLtB] at hp h ⊢
  rw [← hA, ← hb, ← hd, ← hf]
  exact ⟨h.1, ids_view (vls_at hp.1).2.1, h.2.2⟩
theorem viewL_none2 : viewL [none, none] = fun _ => none := by
  funext k
  match k with
  | 0 => rfl
  | 1 => rfl
  | k + 2 => rfl

def V51_0 : List Value × Nat × Nat × Nat × Nat × Int × Int × Int × Bool × ByteArray × Int × ByteArray × Int × Int × Int × Bool × ByteArray × Int × Int × Int × Int × Int → List Value := fun (c, ty, off, n, cap, tk, tp, tq, tv, ts, rn, rs, uk, up, uq, uv, us, z, y, s, m, i) => [.pointer (some ⟨2, 0, some 0⟩), .pointer (some ⟨3, 0, some 0⟩), I z, I y, .pointer (some ⟨11, 0, some 0⟩), I s, .slice (some ⟨0, off, some 1⟩) n cap, I m, I i]
def B51_0 : List Value × Nat × Nat × Nat × Nat × Int × Int × Int × Bool × ByteArray × Int × ByteArray × Int × Int × Int × Bool × ByteArray × Int × Int × Int × Int × Int → List (Option Blk) := fun (c, ty, off, n, cap, tk, tp, tq, tv, ts, rn, rs, uk, up, uq, uv, us, z, y, s, m, i) => [some ⟨c, ty, false⟩, some ⟨[I tk, I tp, I tq, B tv, .string ts], 23, true⟩, some ⟨[I rn, .string rs], 25, true⟩, some ⟨[I uk, I up, I uq, B uv, .string us], 23, true⟩]
def S51_0 : LSpec (List Value × Nat × Nat × Nat × Nat × Int × Int × Int × Bool × ByteArray × Int × ByteArray × Int × Int × Int × Bool × ByteArray × Int × Int × Int × Int × Int) where
  live := [3, 4, 5, 6, 7, 9, 24, 25, 26]
  mid := [0, 2, 3, 11]
  n := 60
  dec vs bs := match vs, bs with | [.pointer (some ⟨2, 0, some 0⟩), .pointer (some ⟨3, 0, some 0⟩), .int .i64 z, .int .i64 y, .pointer (some ⟨11, 0, some 0⟩), .int .i64 s, .slice (some ⟨0, off, some 1⟩) n cap, .int .i64 m, .int .i64 i], [some ⟨c, ty, false⟩, some ⟨[.int .i64 tk, .int .i64 tp, .int .i64 tq, .bool tv, .string ts], 23, true⟩, some ⟨[.int .i64 rn, .string rs], 25, true⟩, some ⟨[.int .i64 uk, .int .i64 up, .int .i64 uq, .bool uv, .string us], 23, true⟩] => some (c, ty, off, n, cap, tk, tp, tq, tv, ts, rn, rs, uk, up, uq, uv, us, z, y, s, m, i) | _, _ => none
  pre := fun (c, ty, off, n, cap, tk, tp, tq, tv, ts, rn, rs, uk, up, uq, uv, us, z, y, s, m, i) => vlsOK c off n && decide (n ≤ 1000 ∧ m = n ∧ 0 ≤ i ∧ i ≤ n ∧ Valid ⟨tk, tp, tq, tv, ts⟩ ∧ -2147483648 * i ≤ s ∧ s ≤ 2147483648 * i)
  fin := fun (c, ty, off, n, cap, tk, tp, tq, tv, ts, rn, rs, uk, up, uq, uv, us, z, y, s, m, i) Z => (bif (sumGo ⟨tk, tp, tq, tv, ts⟩ ((vlsA c off n).drop i.toNat) s i).1 != 0 then Z .ret [.pointer (some ⟨2, 0, some 0⟩), .pointer (some ⟨3, 0, some 0⟩), I 0, I (sumGo ⟨tk, tp, tq, tv, ts⟩ ((vlsA c off n).drop i.toNat) s i).1, .pointer (some ⟨11, 0, some 0⟩), I (sumGo ⟨tk, tp, tq, tv, ts⟩ ((vlsA c off n).drop i.toNat) s i).2.1, .slice (some ⟨0, off, some 1⟩) n cap, I m, I (sumGo ⟨tk, tp, tq, tv, ts⟩ ((vlsA c off n).drop i.toNat) s i).2.2] [some ⟨c, ty, false⟩, some ⟨[I tk, I tp, I tq, B tv, .string ts], 23, true⟩, some ⟨[I 0, .string ⟨#[]⟩], 25, true⟩, some ⟨[I uk, I up, I uq, B uv, .string us], 23, true⟩] else Z (.exit 0) [.pointer (some ⟨2, 0, some 0⟩), .pointer (some ⟨3, 0, some 0⟩), I z, I y, .pointer (some ⟨11, 0, some 0⟩), I (sumGo ⟨tk, tp, tq, tv, ts⟩ ((vlsA c off n).drop i.toNat) s i).2.1, .slice (some ⟨0, off, some 1⟩) n cap, I m, I n] [some ⟨c, ty, false⟩, some ⟨[I tk, I tp, I tq, B tv, .string ts], 23, true⟩, some ⟨[I rn, .string rs], 25, true⟩, some ⟨[I uk, I up, I uq, B uv, .string us], 23, true⟩])
theorem r51_0 (c : List Value) (ty : Nat) (off : Nat) (n : Nat) (cap : Nat) (tk : Int) (tp : Int) (tq : Int) (tv : Bool) (ts : ByteArray) (rn : Int) (rs : ByteArray) (uk : Int) (up : Int) (uq : Int) (uv : Bool) (us : ByteArray) (z : Int) (y : Int) (s : Int) (m : Int) (i : Int) (jk : Tmps) (R : Exit → List Value → List (Option Blk) → Prop) : (codeQ Try.prog G19 noL Try.f51.ntmps (loopOf Try.f51 0) (tl S51_0.live (V51_0 (c, ty, off, n, cap, tk, tp, tq, tv, ts, rn, rs, uk, up, uq, uv, us, z, y, s, m, i)) jk) (ml S51_0.mid (B51_0 (c, ty, off, n, cap, tk, tp, tq, tv, ts, rn, rs, uk, up, uq, uv, us, z, y, s, m, i))) S51_0.n fun e t' m' _ => R e (List.map t' S51_0.live) (List.map m' S51_0.mid)) = (
    bif decide (i < m) then
      bif decide (0 ≤ i ∧ i < ↑n) then
        bif isIntAt IntKind.i64 c (off + Int.toNat i * 2) && (isStrAt c (off + Int.toNat i * 2 + 1) && true) then
          bif fits (Vl.mk (intAt c (off + Int.toNat i * 2)) (strAt c (off + Int.toNat i * 2 + 1))) (Ty.mk tk tp tq tv ts) != 0 then
            R Exit.ret
              [Value.pointer (some (Addr.mk 2 0 (some 0))), Value.pointer (some (Addr.mk 3 0 (some 0))), Value.int IntKind.i64 0,
                Value.int IntKind.i64 (fits (Vl.mk (intAt c (off + Int.toNat i * 2)) (strAt c (off + Int.toNat i * 2 + 1))) (Ty.mk tk tp tq tv ts)),
                Value.pointer (some (Addr.mk 11 0 (some 0))), Value.int IntKind.i64 s, Value.slice (some (Addr.mk 0 off (some 1))) n cap, Value.int IntKind.i64 m,
                Value.int IntKind.i64 i]
              [some (Blk.mk c ty false), some (Blk.mk [Value.int IntKind.i64 tk, Value.int IntKind.i64 tp, Value.int IntKind.i64 tq, Value.bool tv, Value.string ts] 23 true),
                some (Blk.mk [Value.int IntKind.i64 0, Value.string (ByteArray.mk #[])] 25 true),
                some (Blk.mk [Value.int IntKind.i64 uk, Value.int IntKind.i64 up, Value.int IntKind.i64 uq, Value.bool uv, Value.string us] 23 true)]
          else
            R Exit.normal
              [Value.pointer (some (Addr.mk 2 0 (some 0))), Value.pointer (some (Addr.mk 3 0 (some 0))), Value.int IntKind.i64 z, Value.int IntKind.i64 y,
                Value.pointer (some (Addr.mk 11 0 (some 0))), Value.int IntKind.i64 (IntKind.wrap IntKind.i64 (s + intAt c (off + Int.toNat i * 2))),
                Value.slice (some (Addr.mk 0 off (some 1))) n cap, Value.int IntKind.i64 m, Value.int IntKind.i64 (IntKind.wrap IntKind.i64 (i + 1))]
              [some (Blk.mk c ty false), some (Blk.mk [Value.int IntKind.i64 tk, Value.int IntKind.i64 tp, Value.int IntKind.i64 tq, Value.bool tv, Value.string ts] 23 true),
                some (Blk.mk [Value.int IntKind.i64 rn, Value.string rs] 25 true),
                some (Blk.mk [Value.int IntKind.i64 uk, Value.int IntKind.i64 up, Value.int IntKind.i64 uq, Value.bool uv, Value.string us] 23 true)]
        else False
      else False
    else
      R (Exit.exit 0)
        [Value.pointer (some (Addr.mk 2 0 (some 0))), Value.pointer (some (Addr.mk 3 0 (some 0))), Value.int IntKind.i64 z, Value.int IntKind.i64 y,
          Value.pointer (some (Addr.mk 11 0 (some 0))), Value.int IntKind.i64 s, Value.slice (some (Addr.mk 0 off (some 1))) n cap, Value.int IntKind.i64 m, Value.int IntKind.i64 i]
        [some (Blk.mk c ty false), some (Blk.mk [Value.int IntKind.i64 tk, Value.int IntKind.i64 tp, Value.int IntKind.i64 tq, Value.bool tv, Value.string ts] 23 true),
          some (Blk.mk [Value.int IntKind.i64 rn, Value.string rs] 25 true),
          some (Blk.mk [Value.int IntKind.i64 uk, Value.int IntKind.i64 up, Value.int IntKind.i64 uq, Value.bool uv, Value.string us] 23 true)]) := by kernel_rfl
theorem l51_0 : ∀ t m n K, S51_0.hQ t m n K → Ab.Sem Try.prog Try.f51.ntmps (.loop (loopOf Try.f51 0)) t m n K := by
  refine loop_specV ok_G19 hmix (by kernel_rfl) (lok_none _) S51_0 V51_0 B51_0 (fun (c, ty, off, n, cap, tk, tp, tq, tv, ts, rn, rs, uk, up, uq, uv, us, z, y, s, m, i) => (n - i).toNat) ?_ ?_ ?_
  · intro vs bs s h
    simp only [S51_0] at h
    split at h
    · cases h
      exact ⟨rfl, rfl⟩
    · cases h
  · exact fun k ⟨c, ty, off, n, cap, tk, tp, tq, tv, ts, rn, rs, uk, up, uq, uv, us, z, y, s, m, i⟩ ⟨c', ty', off', n', cap', tk', tp', tq', tv', ts', rn', rs', uk', up', uq', uv', us', z', y', s', m', i'⟩ hp h => view51 hp h rfl rfl rfl rfl
  · intro ⟨c, ty, off, n, cap, tk, tp, tq, tv, ts, rn, rs, uk, up, uq, uv, us, z, y, s, m, i⟩ jk Z hp hf
    rw [r51_0]
    simp only [S51_0] at hp hf
    simp only [Bool.and_eq_true, decide_eq_true_eq] at hp
    obtain ⟨ho, h1, rfl, h3, h4, hv, h5, h6⟩ := hp
    obtain ⟨hl, hpl, hat⟩ := vls_at ho
    refine cond_intro (fun h => ?_) (fun h => ?_)
    · have h := of_decide_eq_true h
      obtain ⟨v, hv1, q1, q2, q3, q4⟩ := hat i.toNat (by omega)
      have hd := drop_at hv1
      have hi : (i + 1).toNat = i.toNat + 1 := by omega
      rw [hd] at hf
      rw [q1, q2, q3, q4]
      refine c_t (decide_eq_true (by omega)) (c_t rfl ?_)
      cases hfv : (fits v ⟨tk, tp, tq, tv, ts⟩ != 0)
      · have hz : fits v ⟨tk, tp, tq, tv, ts⟩ = 0 := by simpa using hfv
        have g := gd_iff.1 hz
        have gr := gd_rng g
        have gb := bnd_range hv
        have e : sumGo ⟨tk, tp, tq, tv, ts⟩ (v :: (vlsA c off n).drop (i.toNat + 1)) s i = sumGo ⟨tk, tp, tq, tv, ts⟩ ((vlsA c off n).drop (i.toNat + 1)) (s + v.n) (i + 1) := by
          conv => lhs; rw [sumGo, if_neg (by simp [hz])]
        rw [e] at hf
        rw [w64 (n := s + v.n) (by omega), w64 (n := i + 1) (by omega)]
        refine ⟨(c, ty, off, n, cap, tk, tp, tq, tv, ts, rn, rs, uk, up, uq, uv, us, z, y, s + v.n, n, i + 1), rfl, rfl, ?_, by simp only; omega, ?_⟩
        · simp only [S51_0, Bool.and_eq_true, decide_eq_true_eq]
          exact ⟨ho, h1, trivial, by omega, by omega, hv, by omega, by omega⟩
        · simp only [S51_0]
          rw [hi]
          exact hf
      · have hz : fits v ⟨tk, tp, tq, tv, ts⟩ ≠ 0 := by simpa using hfv
        have e : sumGo ⟨tk, tp, tq, tv, ts⟩ (v :: (vlsA c off n).drop (i.toNat + 1)) s i = (fits v ⟨tk, tp, tq, tv, ts⟩, s, i) := by
          conv => lhs; rw [sumGo, if_pos hz]
        rw [e] at hf
        dsimp only at hf
        rw [hfv] at hf
        exact hf
    · have h := of_decide_eq_false h
      obtain rfl : i = n := by omega
      rw [Int.toNat_natCast, List.drop_eq_nil_of_le (by omega)] at hf
      exact hf

theorem lok51 : LOKf Try.prog (oneL 0 S51_0.hQ) Try.f51 := lokf_one (by kernel_rfl) l51_0

theorem v51 (c : List Value) (ty : Nat) (off : Nat) (n : Nat) (cap : Nat) (t : Ty) (R : Value → Prop) : (bodyQ Try.prog G19 (oneL 0 S51_0.hQ) Try.f51 [sl0 off n cap, Enc.enc t] (vw c ty) 2 (fun v _ _ => R v)) = (
    bif check t != 0 then
      R (Value.tuple (Array.mk [Value.agg (Array.mk [Value.int IntKind.i64 0, Value.string (ByteArray.mk #[])]), Value.int IntKind.i64 0, Value.int IntKind.i64 (check t)]))
    else
      bif idsLt 60 c && true then
        bif
            LSpec.pre S51_0
              (c, ty, off, n, cap, Ty.k t, Ty.p t, Ty.q t, Ty.v t, Ty.s t, 0, ByteArray.mk #[], Ty.k (totT t), Ty.p (totT t), Ty.q (totT t), Ty.v (totT t), Ty.s (totT t), 0, 0, 0, ↑n,
                0) then
          bif Prod.fst (sumGo t (List.drop (Int.toNat 0) (vlsA c off n)) 0 0) != 0 then
            bif idsLt 60 c && true then
              ∀ (x : Tmps),
                R
                  (Value.tuple
                    (Array.mk
                      [Value.agg (Array.mk [Value.int IntKind.i64 0, Value.string (ByteArray.mk #[])]), Value.int IntKind.i64 0,
                        Value.int IntKind.i64 (Prod.fst (sumGo t (List.drop (Int.toNat 0) (vlsA c off n)) 0 0))]))
            else False
          else
            bif idsLt 60 c && true then
              ∀ (x : Tmps),
                bif decide (Valid (totT t)) then
                  R
                    (Value.tuple
                      (Array.mk
                        [Value.agg (Array.mk [Value.int IntKind.i64 (cutN (Prod.fst (Prod.snd (sumGo t (List.drop (Int.toNat 0) (vlsA c off n)) 0 0))) (totT t)), Value.string e0]),
                          Value.int IntKind.i64 (cutC (Prod.fst (Prod.snd (sumGo t (List.drop (Int.toNat 0) (vlsA c off n)) 0 0))) (totT t) 2), Value.int IntKind.i64 0]))
                else False
            else False
        else False
      else False) := by kernel_rfl

theorem v51n (t : Ty) (R : Value → Prop) : (bodyQ Try.prog G19 noL Try.f51 [.slice none 0 0, Enc.enc t] (fun _ => none) 2 (fun v _ _ => R v)) = (
    bif check t != 0 then
      R (Value.tuple (Array.mk [Value.agg (Array.mk [Value.int IntKind.i64 0, Value.string (ByteArray.mk #[])]), Value.int IntKind.i64 0, Value.int IntKind.i64 (check t)]))
    else
      bif decide (Valid (totT t)) then
        R (Value.tuple (Array.mk [Value.agg (Array.mk [Value.int IntKind.i64 (cutN 0 (totT t)), Value.string e0]), Value.int IntKind.i64 (cutC 0 (totT t) 2), Value.int IntKind.i64 0]))
      else False) := by kernel_rfl

def V52_0 : List Value × Nat × Nat × Nat × Nat × Int × Int × Int × Bool × ByteArray × Int × ByteArray × Int × Int × Int × Bool × ByteArray × Int × Int × Int × Int → List Value := fun (c, ty, off, n, cap, tk, tp, tq, tv, ts, rn, rs, uk, up, uq, uv, us, z, y, s, i) => [.pointer (some ⟨2, 0, some 0⟩), .pointer (some ⟨3, 0, some 0⟩), I z, I y, .pointer (some ⟨11, 0, some 0⟩), I s, .slice (some ⟨0, off, some 1⟩) n cap, I i]
def B52_0 : List Value × Nat × Nat × Nat × Nat × Int × Int × Int × Bool × ByteArray × Int × ByteArray × Int × Int × Int × Bool × ByteArray × Int × Int × Int × Int → List (Option Blk) := fun (c, ty, off, n, cap, tk, tp, tq, tv, ts, rn, rs, uk, up, uq, uv, us, z, y, s, i) => [some ⟨c, ty, false⟩, some ⟨[I tk, I tp, I tq, B tv, .string ts], 23, true⟩, some ⟨[I rn, .string rs], 25, true⟩, some ⟨[I uk, I up, I uq, B uv, .string us], 23, true⟩]
def S52_0 : LSpec (List Value × Nat × Nat × Nat × Nat × Int × Int × Int × Bool × ByteArray × Int × ByteArray × Int × Int × Int × Bool × ByteArray × Int × Int × Int × Int) where
  live := [3, 4, 5, 6, 7, 9, 0, 10]
  mid := [0, 2, 3, 11]
  n := 60
  dec vs bs := match vs, bs with | [.pointer (some ⟨2, 0, some 0⟩), .pointer (some ⟨3, 0, some 0⟩), .int .i64 z, .int .i64 y, .pointer (some ⟨11, 0, some 0⟩), .int .i64 s, .slice (some ⟨0, off, some 1⟩) n cap, .int .i64 i], [some ⟨c, ty, false⟩, some ⟨[.int .i64 tk, .int .i64 tp, .int .i64 tq, .bool tv, .string ts], 23, true⟩, some ⟨[.int .i64 rn, .string rs], 25, true⟩, some ⟨[.int .i64 uk, .int .i64 up, .int .i64 uq, .bool uv, .string us], 23, true⟩] => some (c, ty, off, n, cap, tk, tp, tq, tv, ts, rn, rs, uk, up, uq, uv, us, z, y, s, i) | _, _ => none
  pre := fun (c, ty, off, n, cap, tk, tp, tq, tv, ts, rn, rs, uk, up, uq, uv, us, z, y, s, i) => vlsOK c off n && decide (n ≤ 1000 ∧ 0 ≤ i ∧ i ≤ n ∧ Valid ⟨tk, tp, tq, tv, ts⟩ ∧ -2147483648 * i ≤ s ∧ s ≤ 2147483648 * i)
  fin := fun (c, ty, off, n, cap, tk, tp, tq, tv, ts, rn, rs, uk, up, uq, uv, us, z, y, s, i) Z => (bif (sumGo ⟨tk, tp, tq, tv, ts⟩ ((vlsA c off n).drop i.toNat) s i).1 != 0 then Z .ret [.pointer (some ⟨2, 0, some 0⟩), .pointer (some ⟨3, 0, some 0⟩), I 0, I (sumGo ⟨tk, tp, tq, tv, ts⟩ ((vlsA c off n).drop i.toNat) s i).1, .pointer (some ⟨11, 0, some 0⟩), I (sumGo ⟨tk, tp, tq, tv, ts⟩ ((vlsA c off n).drop i.toNat) s i).2.1, .slice (some ⟨0, off, some 1⟩) n cap, I (sumGo ⟨tk, tp, tq, tv, ts⟩ ((vlsA c off n).drop i.toNat) s i).2.2] [some ⟨c, ty, false⟩, some ⟨[I tk, I tp, I tq, B tv, .string ts], 23, true⟩, some ⟨[I 0, .string ⟨#[]⟩], 25, true⟩, some ⟨[I uk, I up, I uq, B uv, .string us], 23, true⟩] else Z (.exit 0) [.pointer (some ⟨2, 0, some 0⟩), .pointer (some ⟨3, 0, some 0⟩), I z, I y, .pointer (some ⟨11, 0, some 0⟩), I (sumGo ⟨tk, tp, tq, tv, ts⟩ ((vlsA c off n).drop i.toNat) s i).2.1, .slice (some ⟨0, off, some 1⟩) n cap, I n] [some ⟨c, ty, false⟩, some ⟨[I tk, I tp, I tq, B tv, .string ts], 23, true⟩, some ⟨[I rn, .string rs], 25, true⟩, some ⟨[I uk, I up, I uq, B uv, .string us], 23, true⟩])
theorem r52_0 (c : List Value) (ty : Nat) (off : Nat) (n : Nat) (cap : Nat) (tk : Int) (tp : Int) (tq : Int) (tv : Bool) (ts : ByteArray) (rn : Int) (rs : ByteArray) (uk : Int) (up : Int) (uq : Int) (uv : Bool) (us : ByteArray) (z : Int) (y : Int) (s : Int) (i : Int) (jk : Tmps) (R : Exit → List Value → List (Option Blk) → Prop) : (codeQ Try.prog G19 noL Try.f52.ntmps (loopOf Try.f52 0) (tl S52_0.live (V52_0 (c, ty, off, n, cap, tk, tp, tq, tv, ts, rn, rs, uk, up, uq, uv, us, z, y, s, i)) jk) (ml S52_0.mid (B52_0 (c, ty, off, n, cap, tk, tp, tq, tv, ts, rn, rs, uk, up, uq, uv, us, z, y, s, i))) S52_0.n fun e t' m' _ => R e (List.map t' S52_0.live) (List.map m' S52_0.mid)) = (
    bif decide (i < ↑n) then
      bif decide (0 ≤ i ∧ i < ↑n) then
        bif isIntAt IntKind.i64 c (off + Int.toNat i * 2) && (isStrAt c (off + Int.toNat i * 2 + 1) && true) then
          bif fits (Vl.mk (intAt c (off + Int.toNat i * 2)) (strAt c (off + Int.toNat i * 2 + 1))) (Ty.mk tk tp tq tv ts) != 0 then
            R Exit.ret
              [Value.pointer (some (Addr.mk 2 0 (some 0))), Value.pointer (some (Addr.mk 3 0 (some 0))), Value.int IntKind.i64 0,
                Value.int IntKind.i64 (fits (Vl.mk (intAt c (off + Int.toNat i * 2)) (strAt c (off + Int.toNat i * 2 + 1))) (Ty.mk tk tp tq tv ts)),
                Value.pointer (some (Addr.mk 11 0 (some 0))), Value.int IntKind.i64 s, Value.slice (some (Addr.mk 0 off (some 1))) n cap, Value.int IntKind.i64 i]
              [some (Blk.mk c ty false), some (Blk.mk [Value.int IntKind.i64 tk, Value.int IntKind.i64 tp, Value.int IntKind.i64 tq, Value.bool tv, Value.string ts] 23 true),
                some (Blk.mk [Value.int IntKind.i64 0, Value.string (ByteArray.mk #[])] 25 true),
                some (Blk.mk [Value.int IntKind.i64 uk, Value.int IntKind.i64 up, Value.int IntKind.i64 uq, Value.bool uv, Value.string us] 23 true)]
          else
            bif decide (0 ≤ i ∧ i < ↑n) then
              bif isIntAt IntKind.i64 c (off + Int.toNat i * 2 + 0) then
                R Exit.normal
                  [Value.pointer (some (Addr.mk 2 0 (some 0))), Value.pointer (some (Addr.mk 3 0 (some 0))), Value.int IntKind.i64 z, Value.int IntKind.i64 y,
                    Value.pointer (some (Addr.mk 11 0 (some 0))), Value.int IntKind.i64 (IntKind.wrap IntKind.i64 (s + intAt c (off + Int.toNat i * 2 + 0))),
                    Value.slice (some (Addr.mk 0 off (some 1))) n cap, Value.int IntKind.i64 (IntKind.wrap IntKind.i64 (i + 1))]
                  [some (Blk.mk c ty false), some (Blk.mk [Value.int IntKind.i64 tk, Value.int IntKind.i64 tp, Value.int IntKind.i64 tq, Value.bool tv, Value.string ts] 23 true),
                    some (Blk.mk [Value.int IntKind.i64 rn, Value.string rs] 25 true),
                    some (Blk.mk [Value.int IntKind.i64 uk, Value.int IntKind.i64 up, Value.int IntKind.i64 uq, Value.bool uv, Value.string us] 23 true)]
              else False
            else False
        else False
      else False
    else
      R (Exit.exit 0)
        [Value.pointer (some (Addr.mk 2 0 (some 0))), Value.pointer (some (Addr.mk 3 0 (some 0))), Value.int IntKind.i64 z, Value.int IntKind.i64 y,
          Value.pointer (some (Addr.mk 11 0 (some 0))), Value.int IntKind.i64 s, Value.slice (some (Addr.mk 0 off (some 1))) n cap, Value.int IntKind.i64 i]
        [some (Blk.mk c ty false), some (Blk.mk [Value.int IntKind.i64 tk, Value.int IntKind.i64 tp, Value.int IntKind.i64 tq, Value.bool tv, Value.string ts] 23 true),
          some (Blk.mk [Value.int IntKind.i64 rn, Value.string rs] 25 true),
          some (Blk.mk [Value.int IntKind.i64 uk, Value.int IntKind.i64 up, Value.int IntKind.i64 uq, Value.bool uv, Value.string us] 23 true)]) := by kernel_rfl
theorem l52_0 : ∀ t m n K, S52_0.hQ t m n K → Ab.Sem Try.prog Try.f52.ntmps (.loop (loopOf Try.f52 0)) t m n K := by
  refine loop_specV ok_G19 hmix (by kernel_rfl) (lok_none _) S52_0 V52_0 B52_0 (fun (c, ty, off, n, cap, tk, tp, tq, tv, ts, rn, rs, uk, up, uq, uv, us, z, y, s, i) => (n - i).toNat) ?_ ?_ ?_
  · intro vs bs s h
    simp only [S52_0] at h
    split at h
    · cases h
      exact ⟨rfl, rfl⟩
    · cases h
  · exact fun k ⟨c, ty, off, n, cap, tk, tp, tq, tv, ts, rn, rs, uk, up, uq, uv, us, z, y, s, i⟩ ⟨c', ty', off', n', cap', tk', tp', tq', tv', ts', rn', rs', uk', up', uq', uv', us', z', y', s', i'⟩ hp h => view51 hp h rfl rfl rfl rfl
  · intro ⟨c, ty, off, n, cap, tk, tp, tq, tv, ts, rn, rs, uk, up, uq, uv, us, z, y, s, i⟩ jk Z hp hf
    rw [r52_0]
    simp only [S52_0] at hp hf
    simp only [Bool.and_eq_true, decide_eq_true_eq] at hp
    obtain ⟨ho, h1, h3, h4, hv, h5, h6⟩ := hp
    obtain ⟨hl, hpl, hat⟩ := vls_at ho
    refine cond_intro (fun h => ?_) (fun h => ?_)
    · have h := of_decide_eq_true h
      obtain ⟨v, hv1, q1, q2, q3, q4⟩ := hat i.toNat (by omega)
      have hd := drop_at hv1
      have hi : (i + 1).toNat = i.toNat + 1 := by omega
      rw [hd] at hf
      rw [q1, q2, q3, q4]
      refine c_t (decide_eq_true (by omega)) (c_t rfl ?_)
      cases hfv : (fits v ⟨tk, tp, tq, tv, ts⟩ != 0)
      · have hz : fits v ⟨tk, tp, tq, tv, ts⟩ = 0 := by simpa using hfv
        have g := gd_iff.1 hz
        have gr := gd_rng g
        have gb := bnd_range hv
        have e : sumGo ⟨tk, tp, tq, tv, ts⟩ (v :: (vlsA c off n).drop (i.toNat + 1)) s i = sumGo ⟨tk, tp, tq, tv, ts⟩ ((vlsA c off n).drop (i.toNat + 1)) (s + v.n) (i + 1) := by
          conv => lhs; rw [sumGo, if_neg (by simp [hz])]
        rw [e] at hf
        refine c_f rfl (c_t (decide_eq_true (by omega)) ?_)
        rw [Nat.add_zero, q1, q3]
        refine c_t rfl ?_
        rw [w64 (n := s + v.n) (by omega), w64 (n := i + 1) (by omega)]
        refine ⟨(c, ty, off, n, cap, tk, tp, tq, tv, ts, rn, rs, uk, up, uq, uv, us, z, y, s + v.n, i + 1), rfl, rfl, ?_, by simp only; omega, ?_⟩
        · simp only [S52_0, Bool.and_eq_true, decide_eq_true_eq]
          exact ⟨ho, h1, by omega, by omega, hv, by omega, by omega⟩
        · simp only [S52_0]
          rw [hi]
          exact hf
      · have hz : fits v ⟨tk, tp, tq, tv, ts⟩ ≠ 0 := by simpa using hfv
        have e : sumGo ⟨tk, tp, tq, tv, ts⟩ (v :: (vlsA c off n).drop (i.toNat + 1)) s i = (fits v ⟨tk, tp, tq, tv, ts⟩, s, i) := by
          conv => lhs; rw [sumGo, if_pos hz]
        rw [e] at hf
        dsimp only at hf
        rw [hfv] at hf
        exact hf
    · have h := of_decide_eq_false h
      obtain rfl : i = n := by omega
      rw [Int.toNat_natCast, List.drop_eq_nil_of_le (by omega)] at hf
      exact hf

theorem lok52 : LOKf Try.prog (oneL 0 S52_0.hQ) Try.f52 := lokf_one (by kernel_rfl) l52_0

theorem v52 (c : List Value) (ty : Nat) (off : Nat) (n : Nat) (cap : Nat) (t : Ty) (R : Value → Prop) : (bodyQ Try.prog G19 (oneL 0 S52_0.hQ) Try.f52 [sl0 off n cap, Enc.enc t] (vw c ty) 2 (fun v _ _ => R v)) = (
    bif check t != 0 then
      R (Value.tuple (Array.mk [Value.agg (Array.mk [Value.int IntKind.i64 0, Value.string (ByteArray.mk #[])]), Value.int IntKind.i64 0, Value.int IntKind.i64 (check t)]))
    else
      bif idsLt 60 c && true then
        bif
            LSpec.pre S52_0
              (c, ty, off, n, cap, Ty.k t, Ty.p t, Ty.q t, Ty.v t, Ty.s t, 0, ByteArray.mk #[], Ty.k (totT t), Ty.p (totT t), Ty.q (totT t), Ty.v (totT t), Ty.s (totT t), 0, 0, 0,
                0) then
          bif Prod.fst (sumGo t (List.drop (Int.toNat 0) (vlsA c off n)) 0 0) != 0 then
            bif idsLt 60 c && true then
              ∀ (x : Tmps),
                R
                  (Value.tuple
                    (Array.mk
                      [Value.agg (Array.mk [Value.int IntKind.i64 0, Value.string (ByteArray.mk #[])]), Value.int IntKind.i64 0,
                        Value.int IntKind.i64 (Prod.fst (sumGo t (List.drop (Int.toNat 0) (vlsA c off n)) 0 0))]))
            else False
          else
            bif idsLt 60 c && true then
              ∀ (x : Tmps),
                bif decide (Valid (totT t)) then
                  bif !decide (InB (Prod.fst (Prod.snd (sumGo t (List.drop (Int.toNat 0) (vlsA c off n)) 0 0))) (totT t)) then
                    R
                      (Value.tuple
                        (Array.mk
                          [Value.agg
                              (Array.mk
                                [Value.int IntKind.i64 (cutN (Prod.fst (Prod.snd (sumGo t (List.drop (Int.toNat 0) (vlsA c off n)) 0 0))) (totT t)), Value.string (ByteArray.mk #[])]),
                            Value.int IntKind.i64 2, Value.int IntKind.i64 0]))
                  else
                    R
                      (Value.tuple
                        (Array.mk
                          [Value.agg
                              (Array.mk
                                [Value.int IntKind.i64 (cutN (Prod.fst (Prod.snd (sumGo t (List.drop (Int.toNat 0) (vlsA c off n)) 0 0))) (totT t)), Value.string (ByteArray.mk #[])]),
                            Value.int IntKind.i64 0, Value.int IntKind.i64 0]))
                else False
            else False
        else False
      else False) := by kernel_rfl

theorem v52n (t : Ty) (R : Value → Prop) : (bodyQ Try.prog G19 noL Try.f52 [.slice none 0 0, Enc.enc t] (fun _ => none) 2 (fun v _ _ => R v)) = (
    bif check t != 0 then
      R (Value.tuple (Array.mk [Value.agg (Array.mk [Value.int IntKind.i64 0, Value.string (ByteArray.mk #[])]), Value.int IntKind.i64 0, Value.int IntKind.i64 (check t)]))
    else
      bif decide (Valid (totT t)) then
        bif !decide (InB 0 (totT t)) then
          R (Value.tuple (Array.mk [Value.agg (Array.mk [Value.int IntKind.i64 (cutN 0 (totT t)), Value.string (ByteArray.mk #[])]), Value.int IntKind.i64 2, Value.int IntKind.i64 0]))
        else
          R (Value.tuple (Array.mk [Value.agg (Array.mk [Value.int IntKind.i64 (cutN 0 (totT t)), Value.string (ByteArray.mk #[])]), Value.int IntKind.i64 0, Value.int IntKind.i64 0]))
      else False) := by kernel_rfl

theorem k51 (c : List Value) (ty : Nat) (own : Bool) (off n cap : Nat) (t : Ty) (hc : (vlsOK c off n && decide (n ≤ 1000)) = true) :
    DoesVQ Try.prog G19 (oneL 0 S51_0.hQ) Try.f51 [sl0 off n cap, Enc.enc t] [some ⟨c, ty, own⟩, none] 2 (suR (vlsA c off n) t) := by
  simp only [Bool.and_eq_true, decide_eq_true_eq] at hc
  obtain ⟨ho, hn⟩ := hc
  obtain ⟨hl, hpl, hat⟩ := vls_at ho
  rw [DoesVQ, vw_viewL hpl [none] (by simp), v51, ids_view hpl]
  refine cond_intro (fun h => ?_) (fun h => ?_)
  · have h : check t ≠ 0 := by simpa using h
    have hE : suE (vlsA c off n) t = check t := by rw [suE, if_pos h]
    simp only [suR, suN, suC, hE, if_pos h]
    rfl
  · have hv : Valid t := check0.1 (by simpa using h)
    have h0 : check t = 0 := check0.2 hv
    refine c_t rfl (c_t ?_ ?_)
    · simp only [S51_0, Bool.and_eq_true, decide_eq_true_eq]
      exact ⟨ho, hn, trivial, by omega, by omega, hv, by omega, by omega⟩
    rw [show List.drop (Int.toNat 0) (vlsA c off n) = vlsA c off n from rfl]
    generalize vlsA c off n = L at *
    have hE : suE L t = (sumGo t L 0 0).1 := by rw [suE, if_neg (by simp [h0])]
    refine cond_intro (fun he => ?_) (fun he => ?_)
    · have he : (sumGo t L 0 0).1 ≠ 0 := by simpa using he
      refine c_t rfl (fun _ => ?_)
      simp only [suR, suN, suC, hE, if_pos he]
      rfl
    · have he : (sumGo t L 0 0).1 = 0 := by simpa using he
      refine c_t rfl (fun _ => ?_)
      have hr : suR L t = tup [vv ⟨cutN (sumGo t L 0 0).2.1 (totT t), e0⟩, I (cutC (sumGo t L 0 0).2.1 (totT t) 2), I 0] := by
        simp only [suR, suN, suC, hE, he, ne_eq, not_true_eq_false, if_false]
      refine c_t (decide_eq_true (totT_ok hv)) ?_
      rw [hr]
theorem k51n (t : Ty) : DoesVQ Try.prog G19 noL Try.f51 [.slice none 0 0, Enc.enc t] [none, none] 2 (suR [] t) := by
  rw [DoesVQ, viewL_none2, v51n]
  refine cond_intro (fun h => ?_) (fun h => ?_)
  · have h : check t ≠ 0 := by simpa using h
    have hE : suE [] t = check t := by rw [suE, if_pos h]
    simp only [suR, suN, suC, hE, if_pos h]
    rfl
  · have hv : Valid t := check0.1 (by simpa using h)
    have h0 : check t = 0 := check0.2 hv
    have b := bnd_pos (totT_ok hv)
    have hi : InB 0 (totT t) := ⟨by omega, by omega⟩
    have hr : suR [] t = tup [vv ⟨cutN 0 (totT t), e0⟩, I (cutC 0 (totT t) 2), I 0] := by
      have hE : suE [] t = 0 := by rw [suE, if_neg (by simp [h0])]; rfl
      simp only [suR, suN, suC, hE, ne_eq, not_true_eq_false, if_false]
      rfl
    refine c_t (decide_eq_true (totT_ok hv)) ?_
    rw [hr]
    skip
def s51a : Ab.Spec := fun args bs => match args, bs with
  | [.slice (some ⟨_, off, some 1⟩) n cap, .agg ⟨[.int .i64 k, .int .i64 p, .int .i64 q, .bool v, .string s]⟩], [some ⟨c, ty, own⟩, none] => some (vlsOK c off n && decide (n ≤ 1000), suR (vlsA c off n) ⟨k, p, q, v, s⟩)
  | _, _ => none
def s51b : Ab.Spec := fun args bs => match args, bs with
  | [.slice none 0 0, .agg ⟨[.int .i64 k, .int .i64 p, .int .i64 q, .bool v, .string s]⟩], [none, none] => some (true, suR [] ⟨k, p, q, v, s⟩)
  | _, _ => none
def s51 : Ab.Spec := fun args bs => match args, bs with
  | [.slice (some ⟨_, off, some 1⟩) n cap, .agg ⟨[.int .i64 k, .int .i64 p, .int .i64 q, .bool v, .string s]⟩], [some ⟨c, ty, own⟩, none] => some (vlsOK c off n && decide (n ≤ 1000), suR (vlsA c off n) ⟨k, p, q, v, s⟩)
  | [.slice none 0 0, .agg ⟨[.int .i64 k, .int .i64 p, .int .i64 q, .bool v, .string s]⟩], [none, none] => some (true, suR [] ⟨k, p, q, v, s⟩)
  | _, _ => none
theorem ok51a : PureOK Try.prog 51 s51a := by
  refine pure_viewQ ok_G19 hmix fn51 lok51 fun args bs v hs => ?_
  simp only [s51a] at hs
  split at hs
  · simp only [Option.some.injEq, Prod.mk.injEq] at hs
    obtain ⟨hc, rfl⟩ := hs
    exact ⟨_, 2, rfl, rfl, Nat.le_of_ble_eq_true (by kernel_rfl), k51 _ _ _ _ _ _ ⟨_, _, _, _, _⟩ hc⟩
  · cases hs
theorem ok51b : PureOK Try.prog 51 s51b := by
  refine pure_viewQ ok_G19 hmix fn51 lokf_none fun args bs v hs => ?_
  simp only [s51b] at hs
  split at hs
  · simp only [Option.some.injEq, Prod.mk.injEq] at hs
    obtain ⟨hc, rfl⟩ := hs
    exact ⟨_, 2, rfl, rfl, Nat.le_of_ble_eq_true (by kernel_rfl), k51n ⟨_, _, _, _, _⟩⟩
  · cases hs
theorem ok51 : PureOK Try.prog 51 s51 := pure_or ok51a ok51b fun args bs v h => by
  simp only [s51] at h
  split at h
  · exact .inl h
  · exact .inr h
  · cases h

theorem k52 (c : List Value) (ty : Nat) (own : Bool) (off n cap : Nat) (t : Ty) (hc : (vlsOK c off n && decide (n ≤ 1000)) = true) :
    DoesVQ Try.prog G19 (oneL 0 S52_0.hQ) Try.f52 [sl0 off n cap, Enc.enc t] [some ⟨c, ty, own⟩, none] 2 (suR (vlsA c off n) t) := by
  simp only [Bool.and_eq_true, decide_eq_true_eq] at hc
  obtain ⟨ho, hn⟩ := hc
  obtain ⟨hl, hpl, hat⟩ := vls_at ho
  rw [DoesVQ, vw_viewL hpl [none] (by simp), v52, ids_view hpl]
  refine cond_intro (fun h => ?_) (fun h => ?_)
  · have h : check t ≠ 0 := by simpa using h
    have hE : suE (vlsA c off n) t = check t := by rw [suE, if_pos h]
    simp only [suR, suN, suC, hE, if_pos h]
    rfl
  · have hv : Valid t := check0.1 (by simpa using h)
    have h0 : check t = 0 := check0.2 hv
    refine c_t rfl (c_t ?_ ?_)
    · simp only [S52_0, Bool.and_eq_true, decide_eq_true_eq]
      exact ⟨ho, hn, by omega, by omega, hv, by omega, by omega⟩
    rw [show List.drop (Int.toNat 0) (vlsA c off n) = vlsA c off n from rfl]
    generalize vlsA c off n = L at *
    have hE : suE L t = (sumGo t L 0 0).1 := by rw [suE, if_neg (by simp [h0])]
    refine cond_intro (fun he => ?_) (fun he => ?_)
    · have he : (sumGo t L 0 0).1 ≠ 0 := by simpa using he
      refine c_t rfl (fun _ => ?_)
      simp only [suR, suN, suC, hE, if_pos he]
      rfl
    · have he : (sumGo t L 0 0).1 = 0 := by simpa using he
      refine c_t rfl (fun _ => ?_)
      have hr : suR L t = tup [vv ⟨cutN (sumGo t L 0 0).2.1 (totT t), e0⟩, I (cutC (sumGo t L 0 0).2.1 (totT t) 2), I 0] := by
        simp only [suR, suN, suC, hE, he, ne_eq, not_true_eq_false, if_false]
      refine c_t (decide_eq_true (totT_ok hv)) ?_
      rw [hr]
      refine cond_intro (fun hi => ?_) (fun hi => ?_)
      · have hi : ¬ InB (sumGo t L 0 0).2.1 (totT t) := by simpa using hi
        rw [cutC, if_neg hi]; rfl
      · have hi : InB (sumGo t L 0 0).2.1 (totT t) := by simpa using hi
        rw [cutC, if_pos hi]; rfl
theorem k52n (t : Ty) : DoesVQ Try.prog G19 noL Try.f52 [.slice none 0 0, Enc.enc t] [none, none] 2 (suR [] t) := by
  rw [DoesVQ, viewL_none2, v52n]
  refine cond_intro (fun h => ?_) (fun h => ?_)
  · have h : check t ≠ 0 := by simpa using h
    have hE : suE [] t = check t := by rw [suE, if_pos h]
    simp only [suR, suN, suC, hE, if_pos h]
    rfl
  · have hv : Valid t := check0.1 (by simpa using h)
    have h0 : check t = 0 := check0.2 hv
    have b := bnd_pos (totT_ok hv)
    have hi : InB 0 (totT t) := ⟨by omega, by omega⟩
    have hr : suR [] t = tup [vv ⟨cutN 0 (totT t), e0⟩, I (cutC 0 (totT t) 2), I 0] := by
      have hE : suE [] t = 0 := by rw [suE, if_neg (by simp [h0])]; rfl
      simp only [suR, suN, suC, hE, ne_eq, not_true_eq_false, if_false]
      rfl
    refine c_t (decide_eq_true (totT_ok hv)) ?_
    rw [hr]
    rw [decide_eq_true hi, cutC, if_pos hi]; rfl
def s52a : Ab.Spec := fun args bs => match args, bs with
  | [.slice (some ⟨_, off, some 1⟩) n cap, .agg ⟨[.int .i64 k, .int .i64 p, .int .i64 q, .bool v, .string s]⟩], [some ⟨c, ty, own⟩, none] => some (vlsOK c off n && decide (n ≤ 1000), suR (vlsA c off n) ⟨k, p, q, v, s⟩)
  | _, _ => none
def s52b : Ab.Spec := fun args bs => match args, bs with
  | [.slice none 0 0, .agg ⟨[.int .i64 k, .int .i64 p, .int .i64 q, .bool v, .string s]⟩], [none, none] => some (true, suR [] ⟨k, p, q, v, s⟩)
  | _, _ => none
def s52 : Ab.Spec := fun args bs => match args, bs with
  | [.slice (some ⟨_, off, some 1⟩) n cap, .agg ⟨[.int .i64 k, .int .i64 p, .int .i64 q, .bool v, .string s]⟩], [some ⟨c, ty, own⟩, none] => some (vlsOK c off n && decide (n ≤ 1000), suR (vlsA c off n) ⟨k, p, q, v, s⟩)
  | [.slice none 0 0, .agg ⟨[.int .i64 k, .int .i64 p, .int .i64 q, .bool v, .string s]⟩], [none, none] => some (true, suR [] ⟨k, p, q, v, s⟩)
  | _, _ => none
theorem fn52 : Fn1 Try.prog 52 Try.f52 := ⟨Try.func52, by kernel_rfl, by kernel_rfl, by kernel_rfl⟩
theorem ok52a : PureOK Try.prog 52 s52a := by
  refine pure_viewQ ok_G19 hmix fn52 lok52 fun args bs v hs => ?_
  simp only [s52a] at hs
  split at hs
  · simp only [Option.some.injEq, Prod.mk.injEq] at hs
    obtain ⟨hc, rfl⟩ := hs
    exact ⟨_, 2, rfl, rfl, Nat.le_of_ble_eq_true (by kernel_rfl), k52 _ _ _ _ _ _ ⟨_, _, _, _, _⟩ hc⟩
  · cases hs
theorem ok52b : PureOK Try.prog 52 s52b := by
  refine pure_viewQ ok_G19 hmix fn52 lokf_none fun args bs v hs => ?_
  simp only [s52b] at hs
  split at hs
  · simp only [Option.some.injEq, Prod.mk.injEq] at hs
    obtain ⟨hc, rfl⟩ := hs
    exact ⟨_, 2, rfl, rfl, Nat.le_of_ble_eq_true (by kernel_rfl), k52n ⟨_, _, _, _, _⟩⟩
  · cases hs
theorem ok52 : PureOK Try.prog 52 s52 := pure_or ok52a ok52b fun args bs v h => by
  simp only [s52] at h
  split at h
  · exact .inl h
  · exact .inr h
  · cases h

def G23 : Env := (G19.add 51 s51).add 52 s52
theorem ok_G23 : EnvOK Try.prog G23 := env_add (env_add ok_G19 ok51) ok52

end Go.Fx
