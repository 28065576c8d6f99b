/-
  Lists: what the law of totals calls.
-/
import Derived.Test.YthaedhabookjeaaFx36
set_option linter.unusedVariables false
set_option linter.unusedSimpArgs false
namespace Go.Fx
open Go Go.Ab Go.Proofs

/-- The first value that does not fit. -/
def fbad (t : Ty) : List Vl → Int → Int
  | [], _ => -1
  | v :: r, i => if fits v t ≠ 0 then i else fbad t r (i + 1)
theorem fn65 : Fn1 Try.prog 65 Try.f65 := ⟨Try.func65, by kernel_rfl, by kernel_rfl, by kernel_rfl⟩
theorem fn103 : Fn1 Try.prog 103 Try.f103 := ⟨Try.func103, by kernel_rfl, by kernel_rfl, by kernel_rfl⟩
theorem fn64 : Fn1 Try.prog 64 Try.f64 := ⟨Try.func64, by kernel_rfl, by kernel_rfl, by kernel_rfl⟩
theorem fn66 : Fn1 Try.prog 66 Try.f66 := ⟨Try.func66, by kernel_rfl, by kernel_rfl, by kernel_rfl⟩
theorem fn67 : Fn1 Try.prog 67 Try.f67 := ⟨Try.func67, by kernel_rfl, by kernel_rfl, by kernel_rfl⟩
theorem fn104 : Fn1 Try.prog 104 Try.f104 := ⟨Try.func104, by kernel_rfl, by kernel_rfl, by kernel_rfl⟩
theorem fn68 : Fn1 Try.prog 68 Try.f68 := ⟨Try.func68, by kernel_rfl, by kernel_rfl, by kernel_rfl⟩
theorem fn69 : Fn1 Try.prog 69 Try.f69 := ⟨Try.func69, by kernel_rfl, by kernel_rfl, by kernel_rfl⟩
def fbI (t : Ty) (l : List Vl) (i : Int) : Int := fbad t l i

def G65 : Env := G23.addG 65 (inlQ Try.prog G23 noL Try.f65)
theorem ok_G65 : EnvOK Try.prog G65 := env_addG ok_G23 (gen_inlQ ok_G23 hmix fn65 lokf_none)

def V103_0 : List Value × Nat × Nat × Nat × Nat × Int × Int × Int × Bool × ByteArray × Int × Int × Int → List Value := fun (c, ty, off, n, cap, tk, tp, tq, tv, ts, r, m, i) => [.slice (some ⟨0, off, some 1⟩) n cap, .func (.func 65) ⟨[]⟩ ⟨[.pointer (some ⟨3, 0, some 0⟩)]⟩, I r, I m, I i]
def B103_0 : List Value × Nat × Nat × Nat × Nat × Int × Int × Int × Bool × ByteArray × Int × Int × Int → List (Option Blk) := fun (c, ty, off, n, cap, tk, tp, tq, tv, ts, r, m, i) => [some ⟨c, ty, false⟩, some ⟨[I tk, I tp, I tq, B tv, .string ts], 23, true⟩]
def S103_0 : LSpec (List Value × Nat × Nat × Nat × Nat × Int × Int × Int × Bool × ByteArray × Int × Int × Int) where
  live := [0, 1, 4, 7, 8]
  mid := [0, 3]
  n := 60
  dec vs bs := match vs, bs with | [.slice (some ⟨0, off, some 1⟩) n cap, .func (.func 65) ⟨[]⟩ ⟨[.pointer (some ⟨3, 0, some 0⟩)]⟩, .int .i64 r, .int .i64 m, .int .i64 i], [some ⟨c, ty, false⟩, some ⟨[.int .i64 tk, .int .i64 tp, .int .i64 tq, .bool tv, .string ts], 23, true⟩] => some (c, ty, off, n, cap, tk, tp, tq, tv, ts, r, m, i) | _, _ => none
  pre := fun (c, ty, off, n, cap, tk, tp, tq, tv, ts, r, m, i) => vlsOK c off n && decide (n ≤ 200 ∧ m = n ∧ 0 ≤ i ∧ i ≤ n ∧ Valid ⟨tk, tp, tq, tv, ts⟩)
  fin := fun (c, ty, off, n, cap, tk, tp, tq, tv, ts, r, m, i) Z => (bif (fbad ⟨tk, tp, tq, tv, ts⟩ ((vlsA c off n).drop i.toNat) i) == -1 then Z (.exit 0) [.slice (some ⟨0, off, some 1⟩) n cap, .func (.func 65) ⟨[]⟩ ⟨[.pointer (some ⟨3, 0, some 0⟩)]⟩, I r, I m, I n] [some ⟨c, ty, false⟩, some ⟨[I tk, I tp, I tq, B tv, .string ts], 23, true⟩] else Z .ret [.slice (some ⟨0, off, some 1⟩) n cap, .func (.func 65) ⟨[]⟩ ⟨[.pointer (some ⟨3, 0, some 0⟩)]⟩, I (fbad ⟨tk, tp, tq, tv, ts⟩ ((vlsA c off n).drop i.toNat) i), I m, I (fbad ⟨tk, tp, tq, tv, ts⟩ ((vlsA c off n).drop i.toNat) i)] [some ⟨c, ty, false⟩, some ⟨[I tk, I tp, I tq, B tv, .string ts], 23, true⟩])
theorem r103_0 (c : List Value) (ty : Nat) (off : Nat) (n : Nat) (cap : Nat) (tk : Int) (tp : Int) (tq : Int) (tv : Bool) (ts : ByteArray) (r : Int) (m : Int) (i : Int) (jk : Tmps) (R : Exit → List Value → List (Option Blk) → Prop) : (codeQ Try.prog G65 noL Try.f103.ntmps (loopOf Try.f103 0) (tl S103_0.live (V103_0 (c, ty, off, n, cap, tk, tp, tq, tv, ts, r, m, i)) jk) (ml S103_0.mid (B103_0 (c, ty, off, n, cap, tk, tp, tq, tv, ts, r, m, i))) S103_0.n fun e t' m' _ => R e (List.map t' S103_0.live) (List.map m' S103_0.mid)) = (
    bif decide (i < m) then
      bif decide (0 ≤ i ∧ i < (↑n : Int)) then
        bif isIntAt IntKind.i64 c (off + Int.toNat i * 2) && (isStrAt c (off + Int.toNat i * 2 + 1) && true) then
          bif !fits (Vl.mk (intAt c (off + Int.toNat i * 2)) (strAt c (off + Int.toNat i * 2 + 1))) (Ty.mk tk tp tq tv ts) == 0 then
            R Exit.ret
              [Value.slice (some (Addr.mk 0 off (some 1))) n cap, Value.func (Fn.func 65) (Array.mk []) (Array.mk [Value.pointer (some (Addr.mk 3 0 (some 0)))]),
                Value.int IntKind.i64 i, Value.int IntKind.i64 m, Value.int IntKind.i64 i]
              [some (Blk.mk c ty false), some (Blk.mk [Value.int IntKind.i64 tk, Value.int IntKind.i64 tp, Value.int IntKind.i64 tq, Value.bool tv, Value.string ts] 23 true)]
          else
            R Exit.normal
              [Value.slice (some (Addr.mk 0 off (some 1))) n cap, Value.func (Fn.func 65) (Array.mk []) (Array.mk [Value.pointer (some (Addr.mk 3 0 (some 0)))]),
                Value.int IntKind.i64 r, Value.int IntKind.i64 m, Value.int IntKind.i64 (IntKind.wrap IntKind.i64 (i + 1))]
              [some (Blk.mk c ty false), some (Blk.mk [Value.int IntKind.i64 tk, Value.int IntKind.i64 tp, Value.int IntKind.i64 tq, Value.bool tv, Value.string ts] 23 true)]
        else False
      else False
    else
      R (Exit.exit 0)
        [Value.slice (some (Addr.mk 0 off (some 1))) n cap, Value.func (Fn.func 65) (Array.mk []) (Array.mk [Value.pointer (some (Addr.mk 3 0 (some 0)))]), Value.int IntKind.i64 r,
          Value.int IntKind.i64 m, Value.int IntKind.i64 i]
        [some (Blk.mk c ty false), some (Blk.mk [Value.int IntKind.i64 tk, Value.int IntKind.i64 tp, Value.int IntKind.i64 tq, Value.bool tv, Value.string ts] 23 true)]) := by kernel_rfl
theorem l103_0 : ∀ t m n K, S103_0.hQ t m n K → Ab.Sem Try.prog Try.f103.ntmps (.loop (loopOf Try.f103 0)) t m n K := by
  refine loop_specV ok_G65 hmix (by kernel_rfl) (lok_none _) S103_0 V103_0 B103_0 (fun (c, ty, off, n, cap, tk, tp, tq, tv, ts, r, m, i) => (n - i).toNat) ?_ ?_ ?_
  · intro vs bs s h
    simp only [S103_0] at h
    split at h
    · cases h
      exact ⟨rfl, rfl⟩
    · cases h
  · exact fun k ⟨c, ty, off, n, cap, tk, tp, tq, tv, ts, r, m, i⟩ ⟨c', ty', off', n', cap', tk', tp', tq', tv', ts', r', m', i'⟩ hp h => by
      simp only [S103_0, Bool.and_eq_true] at hp
      have hq := ids_view (n := k) (vls_at hp.1).2.1
      simp_all [V103_0, B103_0, idsLtB, idsLt, idsL, ids]
  · intro ⟨c, ty, off, n, cap, tk, tp, tq, tv, ts, r, m, i⟩ jk Z hp hf
    rw [r103_0]
    simp only [S103_0] at hp hf
    simp only [Bool.and_eq_true, decide_eq_true_eq] at hp
    obtain ⟨ho, h1, rfl, h3, h4, hv⟩ := hp
    obtain ⟨hl, hpl, hat⟩ := vls_at ho
    refine cond_intro (fun h => ?_) (fun h => ?_)
    · have h := of_decide_eq_true h
      obtain ⟨v, hv1, q1, q2, q3, q4⟩ := hat i.toNat (by omega)
      have hd := drop_at hv1
      have hi : (i + 1).toNat = i.toNat + 1 := by omega
      rw [hd] at hf
      rw [q1, q2, q3, q4]
      refine c_t (decide_eq_true (by omega)) (c_t rfl ?_)
      by_cases hz : fits v ⟨tk, tp, tq, tv, ts⟩ = 0
      · have e : fbad ⟨tk, tp, tq, tv, ts⟩ (v :: (vlsA c off n).drop (i.toNat + 1)) i = fbad ⟨tk, tp, tq, tv, ts⟩ ((vlsA c off n).drop (i.toNat + 1)) (i + 1) := by
          conv => lhs; rw [fbad, if_neg (by simp [hz])]
        rw [e] at hf
        refine c_f (by simp [hz]) ?_
        rw [w64 (n := i + 1) (by omega)]
        refine ⟨(c, ty, off, n, cap, tk, tp, tq, tv, ts, r, n, i + 1), rfl, rfl, ?_, by simp only; omega, ?_⟩
        · simp only [S103_0, Bool.and_eq_true, decide_eq_true_eq]
          exact ⟨ho, h1, trivial, by omega, by omega, hv⟩
        · simp only [S103_0]
          rw [hi]
          exact hf
      · have e : fbad ⟨tk, tp, tq, tv, ts⟩ (v :: (vlsA c off n).drop (i.toNat + 1)) i = i := by
          conv => lhs; rw [fbad, if_pos hz]
        rw [e] at hf
        refine c_t (by simp [hz]) ?_
        have e2 : (i == -1) = false := by simp; omega
        rw [e2] at hf
        exact hf
    · have h := of_decide_eq_false h
      obtain rfl : i = n := by omega
      rw [Int.toNat_natCast, List.drop_eq_nil_of_le (by omega)] at hf
      exact hf

theorem lok103 : LOKf Try.prog (oneL 0 S103_0.hQ) Try.f103 := lokf_one (by kernel_rfl) l103_0
def G103 : Env := G65.addG 103 (inlQ Try.prog G65 (oneL 0 S103_0.hQ) Try.f103)
theorem ok_G103 : EnvOK Try.prog G103 := env_addG ok_G65 (gen_inlQ ok_G65 hmix fn103 lok103)
def G64 : Env := G103.addG 64 (inlQ Try.prog G103 noL Try.f64)
theorem ok_G64 : EnvOK Try.prog G64 := env_addG ok_G103 (gen_inlQ ok_G103 hmix fn64 lokf_none)
def G66 : Env := G64.addG 66 (inlQ Try.prog G64 noL Try.f66)
theorem ok_G66 : EnvOK Try.prog G66 := env_addG ok_G64 (gen_inlQ ok_G64 hmix fn66 lokf_none)

theorem vlsN_len : ∀ (n : Nat) (c : List Value) (l : List Vl), vlsN n c = some l → 2 * n ≤ c.length
  | 0, c, l, h => by omega
  | n + 1, c, l, h => by
    unfold vlsN at h
    split at h
    · rename_i hm; cases hm
    · rename_i m a s r hm
      cases hm
      split at h
      · rename_i l' hl
        have := vlsN_len n r l' hl
        simp only [List.length_cons]
        omega
      · cases h
    · cases h
theorem vlsN_set : ∀ (n : Nat) (c : List Value) (l : List Vl) (i : Nat) (a : Int) (s : ByteArray), vlsN n c = some l → i < n → vlsN n (setL c (i * 2) [.int .i64 a, .string s]) = some (l.set i ⟨a, s⟩)
  | 0, c, l, i, a, s, h, hi => by omega
  | n + 1, c, l, i, a, s, h, hi => by
    unfold vlsN at h
    split at h
    · rename_i hm; cases hm
    · rename_i m a0 s0 r hm
      cases hm
      split at h
      · rename_i l' hl
        cases h
        cases i with
        | zero => simp [setL, vlsN, hl]
        | succ i =>
          have ih := vlsN_set n r l' i a s hl (by omega)
          have e : setL (.int .i64 a0 :: .string s0 :: r) ((i + 1) * 2) [.int .i64 a, .string s] = .int .i64 a0 :: .string s0 :: setL r (i * 2) [.int .i64 a, .string s] := by
            rw [show (i + 1) * 2 = i * 2 + 1 + 1 by omega]
            simp [setL]
          rw [e]
          simp [vlsN, ih]
      · cases h
    · cases h
theorem plainL_setL {c : List Value} {i : Nat} {a : Int} {s : ByteArray} (h : plainL c = true) : plainL (setL c i [.int .i64 a, .string s]) = true := by
  simp only [setL]
  refine plainL_iff.2 fun v hv => ?_
  rcases List.mem_or_eq_of_mem_set hv with hv | rfl
  · rcases List.mem_or_eq_of_mem_set hv with hv | rfl
    · exact plainL_iff.1 h v hv
    · rfl
  · rfl
/-- The same values in another order. -/
structure RevOK (d d' : List Value) (n : Nat) : Prop where
  ok : vlsOK d' 0 n = true
  perm : (vlsA d' 0 n).Perm (vlsA d 0 n)
  len : d'.length = d.length
theorem vlsOK_some {d : List Value} {n : Nat} (h : vlsOK d 0 n = true) : vlsN n d = some (vlsA d 0 n) ∧ plainL d = true := by
  simp only [vlsOK, Bool.and_eq_true, List.drop_zero] at h
  cases hv : vlsN n d with
  | none => rw [hv] at h; cases h.1
  | some l => exact ⟨by simp [vlsA, hv], h.2⟩
theorem vlsOK_of {d : List Value} {n : Nat} {l : List Vl} (h : vlsN n d = some l) (hp : plainL d = true) : vlsOK d 0 n = true ∧ vlsA d 0 n = l := by
  simp [vlsOK, vlsA, h, hp]
theorem rev_swap {d : List Value} {n i j : Nat} {u v : Vl} (h : vlsOK d 0 n = true) (hi : (vlsA d 0 n)[i]? = some u) (hj : (vlsA d 0 n)[j]? = some v) :
    RevOK d (setL (setL d (i * 2) [.int .i64 v.n, .string v.s]) (j * 2) [.int .i64 u.n, .string u.s]) n := by
  obtain ⟨h1, h2⟩ := vlsOK_some h
  have hl := (vlsN_at n d _ h1).1
  generalize vlsA d 0 n = l at *
  obtain ⟨hi', eu⟩ := List.getElem?_eq_some_iff.1 hi
  obtain ⟨hj', ev⟩ := List.getElem?_eq_some_iff.1 hj
  have s1 := vlsN_set n d l i v.n v.s h1 (by omega)
  have s2 := vlsN_set n _ _ j u.n u.s s1 (by omega)
  obtain ⟨q1, q2⟩ := vlsOK_of s2 (plainL_setL (plainL_setL h2))
  refine ⟨q1, ?_, by simp [setL]⟩
  rw [q2, ← eu, ← ev]
  have e0 : vlsA d 0 n = l := (vlsOK_of h1 h2).2
  rw [e0]
  exact List.set_set_perm hi' hj'
theorem RevOK.trans {d d' d'' : List Value} {n : Nat} (h : RevOK d d' n) (h' : RevOK d' d'' n) : RevOK d d'' n := ⟨h'.ok, h'.perm.trans h.perm, h'.len.trans h.len⟩
theorem RevOK.refl {d : List Value} {n : Nat} (h : vlsOK d 0 n = true) : RevOK d d n := ⟨h, .refl _, rfl⟩

def V67_0 : List Value × Nat × Int × Int × Int × Bool × ByteArray × Int × Int × Int × Bool × ByteArray × Int × ByteArray × List Value × Nat × Nat × Int × Int → List Value := fun (c, ty, tk, tp, tq, tv, ts, uk, up, uq, uv, us, vn, vs, d, n, cap, i, j) => [.slice (some ⟨122, 0, some 1⟩) n cap, I i, I j]
def B67_0 : List Value × Nat × Int × Int × Int × Bool × ByteArray × Int × Int × Int × Bool × ByteArray × Int × ByteArray × List Value × Nat × Nat × Int × Int → List (Option Blk) := fun (c, ty, tk, tp, tq, tv, ts, uk, up, uq, uv, us, vn, vs, d, n, cap, i, j) => [some ⟨c, ty, false⟩, some ⟨[I tk, I tp, I tq, B tv, .string ts], 23, true⟩, some ⟨[I uk, I up, I uq, B uv, .string us], 23, true⟩, some ⟨[I vn, .string vs], 25, true⟩, some ⟨d, 25, true⟩]
def S67_0 : LSpec (List Value × Nat × Int × Int × Int × Bool × ByteArray × Int × Int × Int × Bool × ByteArray × Int × ByteArray × List Value × Nat × Nat × Int × Int) where
  live := [0, 2, 3]
  mid := [0, 3, 75, 85, 122]
  n := 140
  dec vs bs := match vs, bs with | [.slice (some ⟨122, 0, some 1⟩) n cap, .int .i64 i, .int .i64 j], [some ⟨c, ty, false⟩, some ⟨[.int .i64 tk, .int .i64 tp, .int .i64 tq, .bool tv, .string ts], 23, true⟩, some ⟨[.int .i64 uk, .int .i64 up, .int .i64 uq, .bool uv, .string us], 23, true⟩, some ⟨[.int .i64 vn, .string vs], 25, true⟩, some ⟨d, 25, true⟩] => some (c, ty, tk, tp, tq, tv, ts, uk, up, uq, uv, us, vn, vs, d, n, cap, i, j) | _, _ => none
  pre := fun (c, ty, tk, tp, tq, tv, ts, uk, up, uq, uv, us, vn, vs, d, n, cap, i, j) => plainL c && vlsOK d 0 n && decide (n ≤ 1000 ∧ 0 ≤ i ∧ i ≤ 1000 ∧ -1 ≤ j ∧ j < n)
  fin := fun (c, ty, tk, tp, tq, tv, ts, uk, up, uq, uv, us, vn, vs, d, n, cap, i, j) Z => ∀ d' i' j', RevOK d d' n → Z (.exit 0) [.slice (some ⟨122, 0, some 1⟩) n cap, I i', I j'] [some ⟨c, ty, false⟩, some ⟨[I tk, I tp, I tq, B tv, .string ts], 23, true⟩, some ⟨[I uk, I up, I uq, B uv, .string us], 23, true⟩, some ⟨[I vn, .string vs], 25, true⟩, some ⟨d', 25, true⟩]
theorem r67_0 (c : List Value) (ty : Nat) (tk : Int) (tp : Int) (tq : Int) (tv : Bool) (ts : ByteArray) (uk : Int) (up : Int) (uq : Int) (uv : Bool) (us : ByteArray) (vn : Int) (vs : ByteArray) (d : List Value) (n : Nat) (cap : Nat) (i : Int) (j : Int) (jk : Tmps) (R : Exit → List Value → List (Option Blk) → Prop) : (codeQ Try.prog G66 noL Try.f67.ntmps (loopOf Try.f67 0) (tl S67_0.live (V67_0 (c, ty, tk, tp, tq, tv, ts, uk, up, uq, uv, us, vn, vs, d, n, cap, i, j)) jk) (ml S67_0.mid (B67_0 (c, ty, tk, tp, tq, tv, ts, uk, up, uq, uv, us, vn, vs, d, n, cap, i, j))) S67_0.n fun e t' m' _ => R e (List.map t' S67_0.live) (List.map m' S67_0.mid)) = (
    bif decide (i < j) then
      bif decide (0 ≤ j ∧ j < (↑n : Int)) then
        bif isIntAt IntKind.i64 d (0 + Int.toNat j * 2) && (isStrAt d (0 + Int.toNat j * 2 + 1) && true) then
          bif decide (0 ≤ i ∧ i < (↑n : Int)) then
            bif isIntAt IntKind.i64 d (0 + Int.toNat i * 2) && (isStrAt d (0 + Int.toNat i * 2 + 1) && true) then
              bif decide (0 ≤ i ∧ i < (↑n : Int)) then
                bif Nat.ble (0 + Int.toNat i * 2 + 2) (List.length d) then
                  bif decide (0 ≤ j ∧ j < (↑n : Int)) then
                    bif
                        Nat.ble (0 + Int.toNat j * 2 + 2)
                          (List.length (setL d (0 + Int.toNat i * 2) [Value.int IntKind.i64 (intAt d (0 + Int.toNat j * 2)), Value.string (strAt d (0 + Int.toNat j * 2 + 1))])) then
                      R Exit.normal
                        [Value.slice (some (Addr.mk 122 0 (some 1))) n cap, Value.int IntKind.i64 (IntKind.wrap IntKind.i64 (i + 1)),
                          Value.int IntKind.i64 (IntKind.wrap IntKind.i64 (j - 1))]
                        [some (Blk.mk c ty false), some (Blk.mk [Value.int IntKind.i64 tk, Value.int IntKind.i64 tp, Value.int IntKind.i64 tq, Value.bool tv, Value.string ts] 23 true),
                          some (Blk.mk [Value.int IntKind.i64 uk, Value.int IntKind.i64 up, Value.int IntKind.i64 uq, Value.bool uv, Value.string us] 23 true),
                          some (Blk.mk [Value.int IntKind.i64 vn, Value.string vs] 25 true),
                          some
                            (Blk.mk
                              (setL (setL d (0 + Int.toNat i * 2) [Value.int IntKind.i64 (intAt d (0 + Int.toNat j * 2)), Value.string (strAt d (0 + Int.toNat j * 2 + 1))])
                                (0 + Int.toNat j * 2) [Value.int IntKind.i64 (intAt d (0 + Int.toNat i * 2)), Value.string (strAt d (0 + Int.toNat i * 2 + 1))])
                              25 true)]
                    else False
                  else False
                else False
              else False
            else False
          else False
        else False
      else False
    else
      R (Exit.exit 0) [Value.slice (some (Addr.mk 122 0 (some 1))) n cap, Value.int IntKind.i64 i, Value.int IntKind.i64 j]
        [some (Blk.mk c ty false), some (Blk.mk [Value.int IntKind.i64 tk, Value.int IntKind.i64 tp, Value.int IntKind.i64 tq, Value.bool tv, Value.string ts] 23 true),
          some (Blk.mk [Value.int IntKind.i64 uk, Value.int IntKind.i64 up, Value.int IntKind.i64 uq, Value.bool uv, Value.string us] 23 true),
          some (Blk.mk [Value.int IntKind.i64 vn, Value.string vs] 25 true), some (Blk.mk d 25 true)]) := by kernel_rfl
theorem l67_0 : ∀ t m n K, S67_0.hQ t m n K → Ab.Sem Try.prog Try.f67.ntmps (.loop (loopOf Try.f67 0)) t m n K := by
  refine loop_specV ok_G66 hmix (by kernel_rfl) (lok_none _) S67_0 V67_0 B67_0 (fun (c, ty, tk, tp, tq, tv, ts, uk, up, uq, uv, us, vn, vs, d, n, cap, i, j) => (j + 1 - i).toNat) ?_ ?_ ?_
  · intro vs bs s h
    simp only [S67_0] at h
    split at h
    · cases h
      exact ⟨rfl, rfl⟩
    · cases h
  · exact fun k ⟨c, ty, tk, tp, tq, tv, ts, uk, up, uq, uv, us, vn, vs, d, n, cap, i, j⟩ ⟨c', ty', tk', tp', tq', tv', ts', uk', up', uq', uv', us', vn', vs', d', n', cap', i', j'⟩ hp h => by
      simp only [S67_0, Bool.and_eq_true] at hp
      have hq1 : idsLt k c' = true := by simp [idsLt, ids_plainL hp.1.1]
      have hq2 : idsLt k d' = true := by simp [idsLt, ids_plainL (vlsOK_some hp.1.2).2]
      simp_all [V67_0, B67_0, idsLtB, idsLt, idsL, ids]
  · intro ⟨c, ty, tk, tp, tq, tv, ts, uk, up, uq, uv, us, vn, vs, d, n, cap, i, j⟩ jk Z hp hf
    rw [r67_0]
    simp only [S67_0] at hp hf
    simp only [Bool.and_eq_true, decide_eq_true_eq] at hp
    obtain ⟨⟨hpc, hd⟩, h1, h2, h3, h4, h5⟩ := hp
    obtain ⟨hl, hpl, hat⟩ := vls_at hd
    have hlen := vlsN_len n d _ (vlsOK_some hd).1
    refine cond_intro (fun h => ?_) (fun h => ?_)
    · have h := of_decide_eq_true h
      obtain ⟨u, hu, a1, a2, a3, a4⟩ := hat i.toNat (by omega)
      obtain ⟨v, hv, b1, b2, b3, b4⟩ := hat j.toNat (by omega)
      have hr := rev_swap hd hu hv
      simp only [Nat.zero_add] at a1 a2 a3 a4 b1 b2 b3 b4 ⊢
      rw [a1, a2, a3, a4, b1, b2, b3, b4]
      refine c_t (decide_eq_true (by omega)) (c_t rfl (c_t (decide_eq_true (by omega)) (c_t rfl (c_t (decide_eq_true (by omega)) (c_t (by simp; omega) (c_t (decide_eq_true (by omega)) (c_t (by simp [setL]; omega) ?_)))))))
      rw [w64 (n := i + 1) (by omega), w64 (n := j - 1) (by omega)]
      refine ⟨(c, ty, tk, tp, tq, tv, ts, uk, up, uq, uv, us, vn, vs, _, n, cap, i + 1, j - 1), rfl, rfl, ?_, by simp only; omega, ?_⟩
      · simp only [S67_0, Bool.and_eq_true, decide_eq_true_eq]
        exact ⟨⟨hpc, hr.ok⟩, h1, by omega, by omega, by omega, by omega⟩
      · simp only [S67_0]
        exact fun d' i' j' h => hf d' i' j' (hr.trans h)
    · exact hf d i j (.refl hd)

theorem lok67 : LOKf Try.prog (oneL 0 S67_0.hQ) Try.f67 := lokf_one (by kernel_rfl) l67_0
def G67 : Env := G66.addG 67 (inlQ Try.prog G66 (oneL 0 S67_0.hQ) Try.f67)
theorem ok_G67 : EnvOK Try.prog G67 := env_addG ok_G66 (gen_inlQ ok_G66 hmix fn67 lok67)
def G104 : Env := G67.addG 104 (inlQ Try.prog G67 noL Try.f104)
theorem ok_G104 : EnvOK Try.prog G104 := env_addG ok_G67 (gen_inlQ ok_G67 hmix fn104 lokf_none)
def G68 : Env := G104.addG 68 (inlQ Try.prog G104 noL Try.f68)
theorem ok_G68 : EnvOK Try.prog G68 := env_addG ok_G104 (gen_inlQ ok_G104 hmix fn68 lokf_none)


end Go.Fx
