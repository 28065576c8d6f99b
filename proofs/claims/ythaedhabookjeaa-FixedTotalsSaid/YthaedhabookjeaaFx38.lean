/-
  One value after the other.
-/
import Derived.Test.YthaedhabookjeaaFx37
set_option linter.unusedVariables false
set_option linter.unusedSimpArgs false
namespace Go.Fx
open Go Go.Ab Go.Proofs

/-- The sum, one after the other, as long as there is neither an error nor a condition. -/
def addGo (u t : Ty) : List Vl → Int → Int → Bool × Int × Int
  | [], s, i => (true, s, i)
  | v :: r, s, i => if doE 6 ⟨s, e0⟩ u v t ≠ 0 ∨ doC 6 ⟨s, e0⟩ u v t ≠ 0 then (false, s, i) else addGo u t r (doN 6 ⟨s, e0⟩ u v t) (i + 1)
abbrev addR (l : List Vl) (t u : Ty) : Value := tup [vv ⟨if (addGo u t l 0 0).1 then (addGo u t l 0 0).2.1 else 0, e0⟩, B (addGo u t l 0 0).1]

def V69_0 : List Value × Nat × Nat × Nat × Nat × Int × Int × Int × Bool × ByteArray × Int × Int × Int × Bool × ByteArray × Int × ByteArray × Int × ByteArray × Bool × Int × Int → List Value := fun (c, ty, off, n, cap, tk, tp, tq, tv, ts, uk, up, uq, uv, us, rn, rs, s, ss, f, m, i) => [.pointer (some ⟨3, 0, some 0⟩), .pointer (some ⟨4, 0, some 0⟩), .pointer (some ⟨5, 0, some 0⟩), B f, .pointer (some ⟨8, 0, some 0⟩), .slice (some ⟨0, off, some 1⟩) n cap, I m, I i]
def B69_0 : List Value × Nat × Nat × Nat × Nat × Int × Int × Int × Bool × ByteArray × Int × Int × Int × Bool × ByteArray × Int × ByteArray × Int × ByteArray × Bool × Int × Int → List (Option Blk) := fun (c, ty, off, n, cap, tk, tp, tq, tv, ts, uk, up, uq, uv, us, rn, rs, s, ss, f, m, i) => [some ⟨c, ty, false⟩, some ⟨[I tk, I tp, I tq, B tv, .string ts], 23, true⟩, some ⟨[I uk, I up, I uq, B uv, .string us], 23, true⟩, some ⟨[I rn, .string rs], 25, true⟩, some ⟨[I s, .string ss], 25, true⟩]
def S69_0 : LSpec (List Value × Nat × Nat × Nat × Nat × Int × Int × Int × Bool × ByteArray × Int × Int × Int × Bool × ByteArray × Int × ByteArray × Int × ByteArray × Bool × Int × Int) where
  live := [4, 5, 6, 7, 8, 15, 16, 17]
  mid := [0, 3, 4, 5, 8]
  n := 60
  dec vs bs := match vs, bs with | [.pointer (some ⟨3, 0, some 0⟩), .pointer (some ⟨4, 0, some 0⟩), .pointer (some ⟨5, 0, some 0⟩), .bool f, .pointer (some ⟨8, 0, some 0⟩), .slice (some ⟨0, off, some 1⟩) n cap, .int .i64 m, .int .i64 i], [some ⟨c, ty, false⟩, some ⟨[.int .i64 tk, .int .i64 tp, .int .i64 tq, .bool tv, .string ts], 23, true⟩, some ⟨[.int .i64 uk, .int .i64 up, .int .i64 uq, .bool uv, .string us], 23, true⟩, some ⟨[.int .i64 rn, .string rs], 25, true⟩, some ⟨[.int .i64 s, .string ss], 25, true⟩] => some (c, ty, off, n, cap, tk, tp, tq, tv, ts, uk, up, uq, uv, us, rn, rs, s, ss, f, m, i) | _, _ => none
  pre := fun (c, ty, off, n, cap, tk, tp, tq, tv, ts, uk, up, uq, uv, us, rn, rs, s, ss, f, m, i) => vlsOK c off n && decide (n ≤ 1000 ∧ m = n ∧ 0 ≤ i ∧ i ≤ n ∧ ss = e0)
  fin := fun (c, ty, off, n, cap, tk, tp, tq, tv, ts, uk, up, uq, uv, us, rn, rs, s, ss, f, m, i) Z => (bif (addGo ⟨uk, up, uq, uv, us⟩ ⟨tk, tp, tq, tv, ts⟩ ((vlsA c off n).drop i.toNat) s i).1 then Z (.exit 0) [.pointer (some ⟨3, 0, some 0⟩), .pointer (some ⟨4, 0, some 0⟩), .pointer (some ⟨5, 0, some 0⟩), B f, .pointer (some ⟨8, 0, some 0⟩), .slice (some ⟨0, off, some 1⟩) n cap, I m, I (addGo ⟨uk, up, uq, uv, us⟩ ⟨tk, tp, tq, tv, ts⟩ ((vlsA c off n).drop i.toNat) s i).2.2] [some ⟨c, ty, false⟩, some ⟨[I tk, I tp, I tq, B tv, .string ts], 23, true⟩, some ⟨[I uk, I up, I uq, B uv, .string us], 23, true⟩, some ⟨[I rn, .string rs], 25, true⟩, some ⟨[I (addGo ⟨uk, up, uq, uv, us⟩ ⟨tk, tp, tq, tv, ts⟩ ((vlsA c off n).drop i.toNat) s i).2.1, .string e0], 25, true⟩] else Z .ret [.pointer (some ⟨3, 0, some 0⟩), .pointer (some ⟨4, 0, some 0⟩), .pointer (some ⟨5, 0, some 0⟩), B false, .pointer (some ⟨8, 0, some 0⟩), .slice (some ⟨0, off, some 1⟩) n cap, I m, I (addGo ⟨uk, up, uq, uv, us⟩ ⟨tk, tp, tq, tv, ts⟩ ((vlsA c off n).drop i.toNat) s i).2.2] [some ⟨c, ty, false⟩, some ⟨[I tk, I tp, I tq, B tv, .string ts], 23, true⟩, some ⟨[I uk, I up, I uq, B uv, .string us], 23, true⟩, some ⟨[I 0, .string e0], 25, true⟩, some ⟨[I (addGo ⟨uk, up, uq, uv, us⟩ ⟨tk, tp, tq, tv, ts⟩ ((vlsA c off n).drop i.toNat) s i).2.1, .string e0], 25, true⟩])
theorem r69_0 (c : List Value) (ty : Nat) (off : Nat) (n : Nat) (cap : Nat) (tk : Int) (tp : Int) (tq : Int) (tv : Bool) (ts : ByteArray) (uk : Int) (up : Int) (uq : Int) (uv : Bool) (us : ByteArray) (rn : Int) (rs : ByteArray) (s : Int) (ss : ByteArray) (f : Bool) (m : Int) (i : Int) (jk : Tmps) (R : Exit → List Value → List (Option Blk) → Prop) : (codeQ Try.prog G23 noL Try.f69.ntmps (loopOf Try.f69 0) (tl S69_0.live (V69_0 (c, ty, off, n, cap, tk, tp, tq, tv, ts, uk, up, uq, uv, us, rn, rs, s, ss, f, m, i)) jk) (ml S69_0.mid (B69_0 (c, ty, off, n, cap, tk, tp, tq, tv, ts, uk, up, uq, uv, us, rn, rs, s, ss, f, m, i))) S69_0.n fun e t' m' _ => R e (List.map t' S69_0.live) (List.map m' S69_0.mid)) = (
    bif decide (i < m) then
      bif decide (0 ≤ i ∧ i < (↑n : Int)) then
        bif isIntAt IntKind.i64 c (off + Int.toNat i * 2) && (isStrAt c (off + Int.toNat i * 2 + 1) && true) then
          bif doE 6 (Vl.mk s ss) (Ty.mk uk up uq uv us) (Vl.mk (intAt c (off + Int.toNat i * 2)) (strAt c (off + Int.toNat i * 2 + 1))) (Ty.mk tk tp tq tv ts) != 0 || true then
            bif
                doE 6 (Vl.mk s ss) (Ty.mk uk up uq uv us) (Vl.mk (intAt c (off + Int.toNat i * 2)) (strAt c (off + Int.toNat i * 2 + 1))) (Ty.mk tk tp tq tv ts) != 0 ||
                  doC 6 (Vl.mk s ss) (Ty.mk uk up uq uv us) (Vl.mk (intAt c (off + Int.toNat i * 2)) (strAt c (off + Int.toNat i * 2 + 1))) (Ty.mk tk tp tq tv ts) != 0 then
              R Exit.ret
                [Value.pointer (some (Addr.mk 3 0 (some 0))), Value.pointer (some (Addr.mk 4 0 (some 0))), Value.pointer (some (Addr.mk 5 0 (some 0))), Value.bool false,
                  Value.pointer (some (Addr.mk 8 0 (some 0))), Value.slice (some (Addr.mk 0 off (some 1))) n cap, Value.int IntKind.i64 m, Value.int IntKind.i64 i]
                [some (Blk.mk c ty false), some (Blk.mk [Value.int IntKind.i64 tk, Value.int IntKind.i64 tp, Value.int IntKind.i64 tq, Value.bool tv, Value.string ts] 23 true),
                  some (Blk.mk [Value.int IntKind.i64 uk, Value.int IntKind.i64 up, Value.int IntKind.i64 uq, Value.bool uv, Value.string us] 23 true),
                  some (Blk.mk [Value.int IntKind.i64 0, Value.string e0] 25 true), some (Blk.mk [Value.int IntKind.i64 s, Value.string ss] 25 true)]
            else
              R Exit.normal
                [Value.pointer (some (Addr.mk 3 0 (some 0))), Value.pointer (some (Addr.mk 4 0 (some 0))), Value.pointer (some (Addr.mk 5 0 (some 0))), Value.bool f,
                  Value.pointer (some (Addr.mk 8 0 (some 0))), Value.slice (some (Addr.mk 0 off (some 1))) n cap, Value.int IntKind.i64 m,
                  Value.int IntKind.i64 (IntKind.wrap IntKind.i64 (i + 1))]
                [some (Blk.mk c ty false), some (Blk.mk [Value.int IntKind.i64 tk, Value.int IntKind.i64 tp, Value.int IntKind.i64 tq, Value.bool tv, Value.string ts] 23 true),
                  some (Blk.mk [Value.int IntKind.i64 uk, Value.int IntKind.i64 up, Value.int IntKind.i64 uq, Value.bool uv, Value.string us] 23 true),
                  some (Blk.mk [Value.int IntKind.i64 rn, Value.string rs] 25 true),
                  some
                    (Blk.mk
                      [Value.int IntKind.i64
                          (doN 6 (Vl.mk s ss) (Ty.mk uk up uq uv us) (Vl.mk (intAt c (off + Int.toNat i * 2)) (strAt c (off + Int.toNat i * 2 + 1))) (Ty.mk tk tp tq tv ts)),
                        Value.string e0]
                      25 true)]
          else False
        else False
      else False
    else
      R (Exit.exit 0)
        [Value.pointer (some (Addr.mk 3 0 (some 0))), Value.pointer (some (Addr.mk 4 0 (some 0))), Value.pointer (some (Addr.mk 5 0 (some 0))), Value.bool f,
          Value.pointer (some (Addr.mk 8 0 (some 0))), Value.slice (some (Addr.mk 0 off (some 1))) n cap, Value.int IntKind.i64 m, Value.int IntKind.i64 i]
        [some (Blk.mk c ty false), some (Blk.mk [Value.int IntKind.i64 tk, Value.int IntKind.i64 tp, Value.int IntKind.i64 tq, Value.bool tv, Value.string ts] 23 true),
          some (Blk.mk [Value.int IntKind.i64 uk, Value.int IntKind.i64 up, Value.int IntKind.i64 uq, Value.bool uv, Value.string us] 23 true),
          some (Blk.mk [Value.int IntKind.i64 rn, Value.string rs] 25 true), some (Blk.mk [Value.int IntKind.i64 s, Value.string ss] 25 true)]) := by kernel_rfl
theorem l69_0 : ∀ t m n K, S69_0.hQ t m n K → Ab.Sem Try.prog Try.f69.ntmps (.loop (loopOf Try.f69 0)) t m n K := by
  refine loop_specV ok_G23 hmix (by kernel_rfl) (lok_none _) S69_0 V69_0 B69_0 (fun (c, ty, off, n, cap, tk, tp, tq, tv, ts, uk, up, uq, uv, us, rn, rs, s, ss, f, m, i) => (n - i).toNat) ?_ ?_ ?_
  · intro vs bs s h
    simp only [S69_0] at h
    split at h
    · cases h
      exact ⟨rfl, rfl⟩
    · cases h
  · exact fun k ⟨c, ty, off, n, cap, tk, tp, tq, tv, ts, uk, up, uq, uv, us, rn, rs, s, ss, f, m, i⟩ ⟨c', ty', off', n', cap', tk', tp', tq', tv', ts', uk', up', uq', uv', us', rn', rs', s', ss', f', m', i'⟩ hp h => by
      simp only [S69_0, Bool.and_eq_true] at hp
      have hq := ids_view (n := k) (vls_at hp.1).2.1
      simp_all [V69_0, B69_0, idsLtB, idsLt, idsL, ids]
  · intro ⟨c, ty, off, n, cap, tk, tp, tq, tv, ts, uk, up, uq, uv, us, rn, rs, s, ss, f, m, i⟩ jk Z hp hf
    rw [r69_0]
    simp only [S69_0] at hp hf
    simp only [Bool.and_eq_true, decide_eq_true_eq] at hp
    obtain ⟨ho, h1, rfl, h3, h4, rfl⟩ := hp
    obtain ⟨hl, hpl, hat⟩ := vls_at ho
    refine cond_intro (fun h => ?_) (fun h => ?_)
    · have h := of_decide_eq_true h
      obtain ⟨v, hv1, q1, q2, q3, q4⟩ := hat i.toNat (by omega)
      have hd := drop_at hv1
      have hi : (i + 1).toNat = i.toNat + 1 := by omega
      rw [hd] at hf
      rw [q1, q2, q3, q4]
      refine c_t (decide_eq_true (by omega)) (c_t rfl (c_t (by simp) ?_))
      by_cases hz : doE 6 ⟨s, e0⟩ ⟨uk, up, uq, uv, us⟩ v ⟨tk, tp, tq, tv, ts⟩ ≠ 0 ∨ doC 6 ⟨s, e0⟩ ⟨uk, up, uq, uv, us⟩ v ⟨tk, tp, tq, tv, ts⟩ ≠ 0
      · have e : addGo ⟨uk, up, uq, uv, us⟩ ⟨tk, tp, tq, tv, ts⟩ (v :: (vlsA c off n).drop (i.toNat + 1)) s i = (false, s, i) := by
          conv => lhs; rw [addGo, if_pos hz]
        rw [e] at hf
        exact c_t (by simpa using hz) hf
      · have e : addGo ⟨uk, up, uq, uv, us⟩ ⟨tk, tp, tq, tv, ts⟩ (v :: (vlsA c off n).drop (i.toNat + 1)) s i = addGo ⟨uk, up, uq, uv, us⟩ ⟨tk, tp, tq, tv, ts⟩ ((vlsA c off n).drop (i.toNat + 1)) (doN 6 ⟨s, e0⟩ ⟨uk, up, uq, uv, us⟩ v ⟨tk, tp, tq, tv, ts⟩) (i + 1) := by
          conv => lhs; rw [addGo, if_neg hz]
        rw [e] at hf
        refine c_f (by simpa using hz) ?_
        rw [w64 (n := i + 1) (by omega)]
        refine ⟨(c, ty, off, n, cap, tk, tp, tq, tv, ts, uk, up, uq, uv, us, rn, rs, doN 6 ⟨s, e0⟩ ⟨uk, up, uq, uv, us⟩ v ⟨tk, tp, tq, tv, ts⟩, e0, f, n, i + 1), rfl, rfl, ?_, by simp only; omega, ?_⟩
        · simp only [S69_0, Bool.and_eq_true, decide_eq_true_eq]
          exact ⟨ho, h1, trivial, by omega, by omega, trivial⟩
        · simp only [S69_0]
          rw [hi]
          exact hf
    · have h := of_decide_eq_false h
      obtain rfl : i = n := by omega
      rw [Int.toNat_natCast, List.drop_eq_nil_of_le (by omega)] at hf
      exact hf

theorem lok69 : LOKf Try.prog (oneL 0 S69_0.hQ) Try.f69 := lokf_one (by kernel_rfl) l69_0

theorem v69 (c : List Value) (ty : Nat) (off : Nat) (n : Nat) (cap : Nat) (t : Ty) (u : Ty) (R : Value → Prop) : (bodyQ Try.prog G23 (oneL 0 S69_0.hQ) Try.f69 [sl0 off n cap, Enc.enc t, Enc.enc u] (vw c ty) 3 (fun v _ _ => R v)) = (
    bif idsLt 60 c && true then
      bif LSpec.pre S69_0 (c, ty, off, n, cap, Ty.k t, Ty.p t, Ty.q t, Ty.v t, Ty.s t, Ty.k u, Ty.p u, Ty.q u, Ty.v u, Ty.s u, 0, ByteArray.mk #[], 0, e0, false, (↑n : Int), 0) then
        bif Prod.fst (addGo u t (List.drop (Int.toNat 0) (vlsA c off n)) 0 0) then
          bif idsLt 60 c && true then
            ∀ (x : Tmps),
              R
                (Value.tuple
                  (Array.mk
                    [Value.agg (Array.mk [Value.int IntKind.i64 (Prod.fst (Prod.snd (addGo u t (List.drop (Int.toNat 0) (vlsA c off n)) 0 0))), Value.string e0]), Value.bool true]))
          else False
        else bif idsLt 60 c && true then ∀ (x : Tmps), R (Value.tuple (Array.mk [Value.agg (Array.mk [Value.int IntKind.i64 0, Value.string e0]), Value.bool false])) else False
      else False
    else False) := by kernel_rfl

theorem v69n (t : Ty) (u : Ty) (R : Value → Prop) : (bodyQ Try.prog G23 noL Try.f69 [.slice none 0 0, Enc.enc t, Enc.enc u] (fun _ => none) 3 (fun v _ _ => R v)) = (
    R (Value.tuple (Array.mk [Value.agg (Array.mk [Value.int IntKind.i64 0, Value.string e0]), Value.bool true]))) := by kernel_rfl

theorem k69 (c : List Value) (ty : Nat) (own : Bool) (off n cap : Nat) (t u : Ty) (hc : (vlsOK c off n && decide (n ≤ 1000)) = true) :
    DoesVQ Try.prog G23 (oneL 0 S69_0.hQ) Try.f69 [sl0 off n cap, Enc.enc t, Enc.enc u] [some ⟨c, ty, own⟩, none, none] 3 (addR (vlsA c off n) t u) := by
  simp only [Bool.and_eq_true, decide_eq_true_eq] at hc
  obtain ⟨ho, hn⟩ := hc
  obtain ⟨hl, hpl, hat⟩ := vls_at ho
  rw [DoesVQ, vw_viewL hpl [none, none] (by simp), v69, ids_view hpl]
  refine c_t rfl (c_t ?_ ?_)
  · simp only [S69_0, Bool.and_eq_true, decide_eq_true_eq]
    exact ⟨ho, hn, trivial, by omega, by omega, trivial⟩
  rw [show List.drop (Int.toNat 0) (vlsA c off n) = vlsA c off n from rfl]
  generalize vlsA c off n = L at *
  refine cond_intro (fun he => ?_) (fun he => ?_)
  · refine c_t rfl (fun _ => ?_)
    simp only [addR, he, if_true]
  · refine c_t rfl (fun _ => ?_)
    simp only [addR, he]
    rfl
theorem viewL_none3 : viewL [none, none, none] = fun _ => none := by
  funext k
  match k with
  | 0 => rfl
  | 1 => rfl
  | 2 => rfl
  | k + 3 => rfl
theorem k69n (t u : Ty) : DoesVQ Try.prog G23 noL Try.f69 [.slice none 0 0, Enc.enc t, Enc.enc u] [none, none, none] 3 (addR [] t u) := by
  rw [DoesVQ, viewL_none3, v69n]
  rfl
def s69a : Ab.Spec := fun args bs => match args, bs with
  | [.slice (some ⟨_, off, some 1⟩) n cap, .agg ⟨[.int .i64 k, .int .i64 p, .int .i64 q, .bool v, .string s]⟩, .agg ⟨[.int .i64 k', .int .i64 p', .int .i64 q', .bool v', .string s']⟩], [some ⟨c, ty, own⟩, none, none] => some (vlsOK c off n && decide (n ≤ 1000), addR (vlsA c off n) ⟨k, p, q, v, s⟩ ⟨k', p', q', v', s'⟩)
  | _, _ => none
def s69b : Ab.Spec := fun args bs => match args, bs with
  | [.slice none 0 0, .agg ⟨[.int .i64 k, .int .i64 p, .int .i64 q, .bool v, .string s]⟩, .agg ⟨[.int .i64 k', .int .i64 p', .int .i64 q', .bool v', .string s']⟩], [none, none, none] => some (true, addR [] ⟨k, p, q, v, s⟩ ⟨k', p', q', v', s'⟩)
  | _, _ => none
def s69 : Ab.Spec := fun args bs => match args, bs with
  | [.slice (some ⟨_, off, some 1⟩) n cap, .agg ⟨[.int .i64 k, .int .i64 p, .int .i64 q, .bool v, .string s]⟩, .agg ⟨[.int .i64 k', .int .i64 p', .int .i64 q', .bool v', .string s']⟩], [some ⟨c, ty, own⟩, none, none] => some (vlsOK c off n && decide (n ≤ 1000), addR (vlsA c off n) ⟨k, p, q, v, s⟩ ⟨k', p', q', v', s'⟩)
  | [.slice none 0 0, .agg ⟨[.int .i64 k, .int .i64 p, .int .i64 q, .bool v, .string s]⟩, .agg ⟨[.int .i64 k', .int .i64 p', .int .i64 q', .bool v', .string s']⟩], [none, none, none] => some (true, addR [] ⟨k, p, q, v, s⟩ ⟨k', p', q', v', s'⟩)
  | _, _ => none
theorem ok69a : PureOK Try.prog 69 s69a := by
  refine pure_viewQ ok_G23 hmix fn69 lok69 fun args bs v hs => ?_
  simp only [s69a] at hs
  split at hs
  · simp only [Option.some.injEq, Prod.mk.injEq] at hs
    obtain ⟨hc, rfl⟩ := hs
    exact ⟨_, 3, rfl, rfl, Nat.le_of_ble_eq_true (by kernel_rfl), k69 _ _ _ _ _ _ ⟨_, _, _, _, _⟩ ⟨_, _, _, _, _⟩ hc⟩
  · cases hs
theorem ok69b : PureOK Try.prog 69 s69b := by
  refine pure_viewQ ok_G23 hmix fn69 lokf_none fun args bs v hs => ?_
  simp only [s69b] at hs
  split at hs
  · simp only [Option.some.injEq, Prod.mk.injEq] at hs
    obtain ⟨hc, rfl⟩ := hs
    exact ⟨_, 3, rfl, rfl, Nat.le_of_ble_eq_true (by kernel_rfl), k69n ⟨_, _, _, _, _⟩ ⟨_, _, _, _, _⟩⟩
  · cases hs
theorem ok69 : PureOK Try.prog 69 s69 := pure_or ok69a ok69b fun args bs v h => by
  simp only [s69] at h
  split at h
  · exact .inl h
  · exact .inr h
  · cases h
def G69 : Env := G68.add 69 s69
theorem ok_G69 : EnvOK Try.prog G69 := env_add ok_G68 ok69

end Go.Fx
