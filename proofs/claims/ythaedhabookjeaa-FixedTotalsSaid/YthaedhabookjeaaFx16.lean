/-
  The loops of the reference.
-/
import Derived.Test.YthaedhabookjeaaFx15
set_option linter.unusedVariables false
set_option linter.unusedSimpArgs false
namespace Go.Fx
open Go Go.Ab Go.Proofs

def itI (n q : Int) (t : Ty) (m : Int) (f : Bool) (i : Int) : Bool :=
  decide (Valid t ∧ 0 ≤ q ∧ q ≤ i ∧ i ≤ t.q ∧ m = (n * pw 10 (i - q)).tmod (bnd t)) && (f == decide (InB (n * pw 10 (i - q)) t))

theorem tmod_small {n b : Int} (h : -b < n ∧ n < b) : n.tmod b = n := by
  rcases Int.le_total 0 n with h0 | h0
  · rw [Int.tmod_eq_emod_of_nonneg h0, Int.emod_eq_of_lt h0 h.2]
  · have : (-n).tmod b = -n := by rw [Int.tmod_eq_emod_of_nonneg (by omega), Int.emod_eq_of_lt (by omega) (by omega)]
    rw [Int.neg_tmod] at this
    omega
theorem cutN_tmod (n : Int) (t : Ty) : cutN n t = n.tmod (bnd t) := by
  unfold cutN
  split
  · rename_i h; exact (tmod_small h).symm
  · rfl
theorem tmod_mul10 (a b : Int) : (a.tmod b * 10).tmod b = (a * 10).tmod b := by
  have key : ∀ a : Int, 0 ≤ a → (a.tmod b * 10).tmod b = (a * 10).tmod b := fun a h => by
    have h1 := Int.tmod_nonneg b h
    rw [Int.tmod_eq_emod_of_nonneg h] at h1 ⊢
    rw [Int.tmod_eq_emod_of_nonneg (by omega), Int.tmod_eq_emod_of_nonneg (by omega), Int.mul_emod, Int.emod_emod, ← Int.mul_emod]
  rcases Int.le_total 0 a with h | h
  · exact key a h
  · have k := key (-a) (by omega)
    rw [Int.neg_tmod, Int.neg_mul, Int.neg_tmod, Int.neg_mul, Int.neg_tmod] at k
    omega
theorem it_next {n q : Int} {t : Ty} {m : Int} {f : Bool} {i : Int} (h : itI n q t m f i = true) (hi : i < t.q) :
    IntKind.i64.wrap (m * 10) = m * 10 ∧ itI n q t (cutN (m * 10) t) (f && decide (InB (m * 10) t)) (i + 1) = true := by
  simp only [itI, Bool.and_eq_true, decide_eq_true_eq, beq_iff_eq] at h
  obtain ⟨⟨hv, h1, h2, h3, h4⟩, h5⟩ := h
  have hb := bnd_range hv
  have l1 := Int.tmod_lt_of_pos (n * pw 10 (i - q)) (show 0 < bnd t by omega)
  have l2 := Int.lt_tmod_of_pos (n * pw 10 (i - q)) (show 0 < bnd t by omega)
  refine ⟨w64 (by omega), ?_⟩
  simp only [itI, Bool.and_eq_true, decide_eq_true_eq, beq_iff_eq]
  have e : n * pw 10 (i + 1 - q) = n * pw 10 (i - q) * 10 := by
    rw [show i + 1 - q = i - q + 1 by omega, pw_succ 10 (by omega), Int.mul_assoc]
  rw [e]
  refine ⟨⟨hv, h1, by omega, by omega, ?_⟩, ?_⟩
  · rw [cutN_tmod, h4, tmod_mul10]
  · generalize n * pw 10 (i - q) = A at *
    by_cases hA : InB A t
    · have : m = A := by rw [h4, tmod_small hA]
      rw [h5, this, decide_eq_true hA, Bool.true_and]
    · have : ¬ InB (A * 10) t := fun h => hA (by unfold InB at *; omega)
      rw [h5, decide_eq_false hA, decide_eq_false this, Bool.false_and]

def V94_0 : Int × Int × Int × Int × Int × Bool × ByteArray × Int × Bool × Int × Bool × Int → List Value := fun (n, q, tk, tp, tq, tv, ts, z, zb, m, f, i) => [I n, I q, .pointer (some ⟨0, 0, some 0⟩), I z, B zb, I m, B f, I i]
def B94_0 : Int × Int × Int × Int × Int × Bool × ByteArray × Int × Bool × Int × Bool × Int → List (Option Blk) := fun (n, q, tk, tp, tq, tv, ts, z, zb, m, f, i) => [some ⟨[I tk, I tp, I tq, B tv, .string ts], 23, true⟩]
def S94_0 : LSpec (Int × Int × Int × Int × Int × Bool × ByteArray × Int × Bool × Int × Bool × Int) where
  live := [0, 1, 5, 6, 7, 8, 9, 10]
  mid := [0]
  n := 60
  dec vs bs := match vs, bs with | [.int .i64 n, .int .i64 q, .pointer (some ⟨0, 0, some 0⟩), .int .i64 z, .bool zb, .int .i64 m, .bool f, .int .i64 i], [some ⟨[.int .i64 tk, .int .i64 tp, .int .i64 tq, .bool tv, .string ts], 23, true⟩] => some (n, q, tk, tp, tq, tv, ts, z, zb, m, f, i) | _, _ => none
  pre := fun (n, q, tk, tp, tq, tv, ts, z, zb, m, f, i) => itI n q ⟨tk, tp, tq, tv, ts⟩ m f i
  fin := fun (n, q, tk, tp, tq, tv, ts, z, zb, m, f, i) Z => Z (.exit 0) [I n, I q, .pointer (some ⟨0, 0, some 0⟩), I z, B zb, I ((n * pw 10 (tq - q)).tmod (bnd ⟨tk, tp, tq, tv, ts⟩)), B (decide (InB (n * pw 10 (tq - q)) ⟨tk, tp, tq, tv, ts⟩)), I tq] [some ⟨[I tk, I tp, I tq, B tv, .string ts], 23, true⟩]
theorem r94_0 (n : Int) (q : Int) (tk : Int) (tp : Int) (tq : Int) (tv : Bool) (ts : ByteArray) (z : Int) (zb : Bool) (m : Int) (f : Bool) (i : Int) (jk : Tmps) (R : Exit → List Value → List (Option Blk) → Prop) : (codeR Try.prog G19 noL Try.f94.ntmps (loopOf Try.f94 0) (tl S94_0.live (V94_0 (n, q, tk, tp, tq, tv, ts, z, zb, m, f, i)) jk) (ml S94_0.mid (B94_0 (n, q, tk, tp, tq, tv, ts, z, zb, m, f, i))) S94_0.n fun e t' m' _ => R e (List.map t' S94_0.live) (List.map m' S94_0.mid)) = (
    bif decide (i < tq) then
      bif decide (Valid (Ty.mk tk tp tq tv ts)) then
        bif f then
          R Exit.normal
            [Value.int IntKind.i64 n, Value.int IntKind.i64 q, Value.pointer (some (Addr.mk 0 0 (some 0))), Value.int IntKind.i64 z, Value.bool zb,
              Value.int IntKind.i64 (cutN (IntKind.wrap IntKind.i64 (m * 10)) (Ty.mk tk tp tq tv ts)),
              Value.bool (decide (InB (IntKind.wrap IntKind.i64 (m * 10)) (Ty.mk tk tp tq tv ts))), Value.int IntKind.i64 (IntKind.wrap IntKind.i64 (i + 1))]
            [some (Blk.mk [I tk, I tp, I tq, B tv, Value.string ts] 23 true)]
        else
          R Exit.normal
            [Value.int IntKind.i64 n, Value.int IntKind.i64 q, Value.pointer (some (Addr.mk 0 0 (some 0))), Value.int IntKind.i64 z, Value.bool zb,
              Value.int IntKind.i64 (cutN (IntKind.wrap IntKind.i64 (m * 10)) (Ty.mk tk tp tq tv ts)), Value.bool false, Value.int IntKind.i64 (IntKind.wrap IntKind.i64 (i + 1))]
            [some (Blk.mk [I tk, I tp, I tq, B tv, Value.string ts] 23 true)]
      else False
    else
      R (Exit.exit 0)
        [Value.int IntKind.i64 n, Value.int IntKind.i64 q, Value.pointer (some (Addr.mk 0 0 (some 0))), Value.int IntKind.i64 z, Value.bool zb, Value.int IntKind.i64 m, Value.bool f,
          Value.int IntKind.i64 i]
        [some (Blk.mk [I tk, I tp, I tq, B tv, Value.string ts] 23 true)]) := by kernel_rfl
theorem l94_0 : LOKf Try.prog (oneL 0 S94_0.h) Try.f94 := by
  refine lokf_one (by kernel_rfl) (loop_spec ok_G19 hmix (by kernel_rfl) (lok_none _) S94_0 V94_0 B94_0 (fun (n, q, tk, tp, tq, tv, ts, z, zb, m, f, i) => (tq - i).toNat) ?_ ?_ ?_)
  · intro vs bs s h
    simp only [S94_0] at h
    split at h
    · cases h
      exact ⟨rfl, rfl⟩
    · cases h
  · exact fun _ _ _ h => h
  · intro ⟨n, q, tk, tp, tq, tv, ts, z, zb, m, f, i⟩ jk Z hp hf
    rw [r94_0]
    simp only [S94_0] at hp hf
    have hk := hp
    simp only [itI, Bool.and_eq_true, decide_eq_true_eq, beq_iff_eq] at hk
    obtain ⟨⟨hv, h1, h2, h3, h4⟩, h5⟩ := hk
    refine cond_intro (fun h => ?_) (fun h => ?_)
    · have h := of_decide_eq_true h
      obtain ⟨g1, g2⟩ := it_next hp h
      have r : 0 ≤ tq ∧ tq ≤ tp ∧ tq ≤ 9 := (valid_r hv).2.2
      have h3 : i ≤ tq := h3
      rw [g1, w64 (n := i + 1) (by omega)]
      refine cond_intro (fun _ => ?_) (fun h => by have := of_decide_eq_false h; exact absurd hv this)
      cases f
      · exact ⟨(n, q, tk, tp, tq, tv, ts, z, zb, cutN (m * 10) ⟨tk, tp, tq, tv, ts⟩, false, i + 1), rfl, rfl, g2, by simp only; omega, hf⟩
      · exact ⟨(n, q, tk, tp, tq, tv, ts, z, zb, cutN (m * 10) ⟨tk, tp, tq, tv, ts⟩, decide (InB (m * 10) ⟨tk, tp, tq, tv, ts⟩), i + 1), rfl, rfl, g2, by simp only; omega, hf⟩
    · have h := of_decide_eq_false h
      have h3 : i ≤ tq := h3
      obtain rfl : i = tq := by omega
      show Z _ _ _
      rw [h4, h5]
      exact hf

def s94 (n : Int) (q : Int) (t : Ty) : Bool × Value := (decide (Valid t ∧ 0 ≤ q ∧ q ≤ 18 ∧ -4611686018427387904 ≤ n ∧ n ≤ 4611686018427387904), tup [I (cutN (scl n (t.q - q)) t), B (decide (InB (scl n (t.q - q)) t))])
theorem fn94 : Fn1 Try.prog 94 Try.f94 := ⟨Try.func94, by kernel_rfl, by kernel_rfl, by kernel_rfl⟩
theorem v94 (n : Int) (q : Int) (t : Ty) (R : Value → Prop) : bodyR Try.prog G19 (oneL 0 S94_0.h) Try.f94 [Enc.enc n, Enc.enc q, Enc.enc t] (fun _ => none) 0 (fun v _ _ => R v) = (
    bif decide (Ty.q t ≤ q) then
      bif decide (-18 ≤ IntKind.wrap IntKind.i64 (Ty.q t - q) ∧ IntKind.wrap IntKind.i64 (Ty.q t - q) ≤ 18 ∧ R64 n ∧ R64 (scl n (IntKind.wrap IntKind.i64 (Ty.q t - q)))) then
        bif decide (Valid t) then
          R
            (Value.tuple
              (Array.mk [Value.int IntKind.i64 (cutN (scl n (IntKind.wrap IntKind.i64 (Ty.q t - q))) t), Value.bool (decide (InB (scl n (IntKind.wrap IntKind.i64 (Ty.q t - q))) t))]))
        else False
      else False
    else
      bif decide (Valid t) then
        bif LSpec.pre S94_0 (n, q, Ty.k t, Ty.p t, Ty.q t, Ty.v t, Ty.s t, 0, false, cutN n t, decide (InB n t), q) then
          ∀ (x : Tmps), R (Value.tuple (Array.mk [Value.int IntKind.i64 (Int.tmod (n * pw 10 (Ty.q t - q)) (bnd t)), Value.bool (decide (InB (n * pw 10 (Ty.q t - q)) t))]))
        else False
      else False) := by kernel_rfl
theorem ok94 : PureOK Try.prog 94 (sp3 s94) := by
  refine pure3 ok_G19 hmix fn94 l94_0 (Nat.le_of_ble_eq_true (by kernel_rfl)) fun n q t hc => ?_
  rw [Does, v94]
  have hc : (Valid t ∧ 0 ≤ q ∧ q ≤ 18 ∧ -4611686018427387904 ≤ n ∧ n ≤ 4611686018427387904) := of_decide_eq_true hc
  obtain ⟨hv, h1, h2, h3, h4⟩ := hc
  have r := valid_r hv
  have hb := bnd_range hv
  try simp (disch := omega) only [w64]
  refine cond_intro (fun h => ?_) (fun h => ?_)
  · have h := of_decide_eq_true h
    have hs := scl_neg (n := n) (d := t.q - q) (A := 4611686018427387904) (by omega) (by omega)
    have hR : decide (-18 ≤ t.q - q ∧ t.q - q ≤ 18 ∧ R64 n ∧ R64 (scl n (t.q - q))) = true := decide_eq_true ⟨by omega, by omega, ⟨by omega, by omega⟩, ⟨by omega, by omega⟩⟩
    rw [hR, decide_eq_true hv]
    rfl
  · have h := of_decide_eq_false h
    rw [decide_eq_true hv]
    have e : scl n (t.q - q) = n * pw 10 (t.q - q) := by rw [scl, if_pos (by omega)]
    have hp : S94_0.pre (n, q, t.k, t.p, t.q, t.v, t.s, 0, false, cutN n t, decide (InB n t), q) = true := by
      simp only [S94_0, itI, Int.sub_self, pw0, Int.mul_one, cutN_tmod, Bool.and_eq_true, decide_eq_true_eq, beq_iff_eq]
      exact ⟨⟨hv, h1, by omega, by omega, trivial⟩, trivial⟩
    rw [hp]
    intro _
    simp only [s94, e, cutN_tmod]

def dvI (x y bound : Int) (f : Bool) (n rest : Int) (i tq : Int) : Bool :=
  decide (0 ≤ x ∧ x ≤ 4611686018427387904 ∧ 1 ≤ y ∧ y ≤ 1000000000000000000 ∧ 1 ≤ bound ∧ bound ≤ 2147483648 ∧ 0 ≤ i ∧ i ≤ tq ∧ tq ≤ 9 ∧ rest = fr x y i ∧ n = fq x y i % bound) && (f == decide (fq x y i < bound))

theorem dv_next {x y bound n rest i tq : Int} {f : Bool} (h : dvI x y bound f n rest i tq = true) (hi : i < tq) :
    dvI x y bound (f && decide (n * 10 + rest * 10 / y < bound)) ((n * 10 + rest * 10 / y) % bound) (rest * 10 % y) (i + 1) tq = true ∧ 0 ≤ n ∧ n < 2147483648 ∧ 0 ≤ rest ∧ rest < y ∧ 0 ≤ rest * 10 / y ∧ rest * 10 / y ≤ 9 ∧ 1 ≤ y ∧ y ≤ 1000000000000000000 ∧ 1 ≤ bound := by
  simp only [dvI, Bool.and_eq_true, decide_eq_true_eq, beq_iff_eq] at h
  obtain ⟨⟨h1, h2, h3, h4, h5, h6, h7, h8, h9, h10, h11⟩, h12⟩ := h
  obtain ⟨s1, s2⟩ := fq_succ (x := x) h3 h7
  have r := fr_rng (x := x) (i := i) h3
  have q := fq_nonneg (i := i) h1 h3
  rw [← h10] at s1 s2 r
  have d := dig h3 r
  have n1 := Int.emod_nonneg (fq x y i) (show bound ≠ 0 by omega)
  have n2 := Int.emod_lt_of_pos (fq x y i) (show 0 < bound by omega)
  refine ⟨?_, by omega, by omega, r.1, r.2, d.1, d.2, h3, h4, h5⟩
  simp only [dvI, Bool.and_eq_true, decide_eq_true_eq, beq_iff_eq]
  refine ⟨⟨h1, h2, h3, h4, h5, h6, by omega, by omega, h9, s2.symm, ?_⟩, ?_⟩
  · rw [s1, h11, Int.add_emod, Int.mul_emod, Int.emod_emod, ← Int.mul_emod, ← Int.add_emod]
  · rw [h12, s1, h11]
    generalize fq x y i = F at *
    generalize rest * 10 / y = D at *
    by_cases hF : F < bound
    · rw [Int.emod_eq_of_lt q hF, decide_eq_true hF, Bool.true_and]
    · rw [decide_eq_false hF, Bool.false_and]
      exact (decide_eq_false (by omega)).symm

def V95_0 : Int × Int × Int × Bool × ByteArray × Int × Bool × Bool × Int × Int × Int × Bool × Int × Int × Int → List Value := fun (tk, tp, tq, tv, ts, z, zb, neg, x, y, bound, f, n, rest, i) => [.pointer (some ⟨2, 0, some 0⟩), I z, B zb, B neg, .int .u64 x, .int .u64 y, .int .u64 bound, B f, .int .u64 n, .int .u64 rest, I i]
def B95_0 : Int × Int × Int × Bool × ByteArray × Int × Bool × Bool × Int × Int × Int × Bool × Int × Int × Int → List (Option Blk) := fun (tk, tp, tq, tv, ts, z, zb, neg, x, y, bound, f, n, rest, i) => [some ⟨[I tk, I tp, I tq, B tv, .string ts], 23, true⟩]
def S95_0 : LSpec (Int × Int × Int × Bool × ByteArray × Int × Bool × Bool × Int × Int × Int × Bool × Int × Int × Int) where
  live := [9, 10, 11, 12, 13, 14, 15, 16, 17, 18, 19]
  mid := [2]
  n := 80
  dec vs bs := match vs, bs with | [.pointer (some ⟨2, 0, some 0⟩), .int .i64 z, .bool zb, .bool neg, .int .u64 x, .int .u64 y, .int .u64 bound, .bool f, .int .u64 n, .int .u64 rest, .int .i64 i], [some ⟨[.int .i64 tk, .int .i64 tp, .int .i64 tq, .bool tv, .string ts], 23, true⟩] => some (tk, tp, tq, tv, ts, z, zb, neg, x, y, bound, f, n, rest, i) | _, _ => none
  pre := fun (tk, tp, tq, tv, ts, z, zb, neg, x, y, bound, f, n, rest, i) => dvI x y bound f n rest i tq
  fin := fun (tk, tp, tq, tv, ts, z, zb, neg, x, y, bound, f, n, rest, i) Z => Z (.exit 0) [.pointer (some ⟨2, 0, some 0⟩), I z, B zb, B neg, .int .u64 x, .int .u64 y, .int .u64 bound, B (decide (fq x y tq < bound)), .int .u64 (fq x y tq % bound), .int .u64 (fr x y tq), I tq] [some ⟨[I tk, I tp, I tq, B tv, .string ts], 23, true⟩]
theorem r95_0 (tk : Int) (tp : Int) (tq : Int) (tv : Bool) (ts : ByteArray) (z : Int) (zb : Bool) (neg : Bool) (x : Int) (y : Int) (bound : Int) (f : Bool) (n : Int) (rest : Int) (i : Int) (jk : Tmps) (R : Exit → List Value → List (Option Blk) → Prop) : (codeR Try.prog G19 noL Try.f95.ntmps (loopOf Try.f95 0) (tl S95_0.live (V95_0 (tk, tp, tq, tv, ts, z, zb, neg, x, y, bound, f, n, rest, i)) jk) (ml S95_0.mid (B95_0 (tk, tp, tq, tv, ts, z, zb, neg, x, y, bound, f, n, rest, i))) S95_0.n fun e t' m' _ => R e (List.map t' S95_0.live) (List.map m' S95_0.mid)) = (
    bif decide (i < tq) then
      bif decide (y ≠ 0) then
        bif decide (y ≠ 0) then
          bif f then
            bif decide (bound ≠ 0) then
              R Exit.normal
                [Value.pointer (some (Addr.mk 2 0 (some 0))), Value.int IntKind.i64 z, Value.bool zb, Value.bool neg, Value.int IntKind.u64 x, Value.int IntKind.u64 y,
                  Value.int IntKind.u64 bound,
                  Value.bool
                    (decide (IntKind.wrap IntKind.u64 (IntKind.wrap IntKind.u64 (n * 10) + IntKind.wrap IntKind.u64 (Int.tdiv (IntKind.wrap IntKind.u64 (rest * 10)) y)) < bound)),
                  Value.int IntKind.u64
                    (Int.tmod (IntKind.wrap IntKind.u64 (IntKind.wrap IntKind.u64 (n * 10) + IntKind.wrap IntKind.u64 (Int.tdiv (IntKind.wrap IntKind.u64 (rest * 10)) y))) bound),
                  Value.int IntKind.u64 (Int.tmod (IntKind.wrap IntKind.u64 (rest * 10)) y), Value.int IntKind.i64 (IntKind.wrap IntKind.i64 (i + 1))]
                [some (Blk.mk [I tk, I tp, I tq, B tv, Value.string ts] 23 true)]
            else False
          else
            bif decide (bound ≠ 0) then
              R Exit.normal
                [Value.pointer (some (Addr.mk 2 0 (some 0))), Value.int IntKind.i64 z, Value.bool zb, Value.bool neg, Value.int IntKind.u64 x, Value.int IntKind.u64 y,
                  Value.int IntKind.u64 bound, Value.bool false,
                  Value.int IntKind.u64
                    (Int.tmod (IntKind.wrap IntKind.u64 (IntKind.wrap IntKind.u64 (n * 10) + IntKind.wrap IntKind.u64 (Int.tdiv (IntKind.wrap IntKind.u64 (rest * 10)) y))) bound),
                  Value.int IntKind.u64 (Int.tmod (IntKind.wrap IntKind.u64 (rest * 10)) y), Value.int IntKind.i64 (IntKind.wrap IntKind.i64 (i + 1))]
                [some (Blk.mk [I tk, I tp, I tq, B tv, Value.string ts] 23 true)]
            else False
        else False
      else False
    else
      R (Exit.exit 0)
        [Value.pointer (some (Addr.mk 2 0 (some 0))), Value.int IntKind.i64 z, Value.bool zb, Value.bool neg, Value.int IntKind.u64 x, Value.int IntKind.u64 y,
          Value.int IntKind.u64 bound, Value.bool f, Value.int IntKind.u64 n, Value.int IntKind.u64 rest, Value.int IntKind.i64 i]
        [some (Blk.mk [I tk, I tp, I tq, B tv, Value.string ts] 23 true)]) := by kernel_rfl
theorem l95_0 : LOKf Try.prog (oneL 0 S95_0.h) Try.f95 := by
  refine lokf_one (by kernel_rfl) (loop_spec ok_G19 hmix (by kernel_rfl) (lok_none _) S95_0 V95_0 B95_0 (fun (tk, tp, tq, tv, ts, z, zb, neg, x, y, bound, f, n, rest, i) => (tq - i).toNat) ?_ ?_ ?_)
  · intro vs bs s h
    simp only [S95_0] at h
    split at h
    · cases h
      exact ⟨rfl, rfl⟩
    · cases h
  · exact fun _ _ _ h => h
  · intro ⟨tk, tp, tq, tv, ts, z, zb, neg, x, y, bound, f, n, rest, i⟩ jk Z hp hf
    rw [r95_0]
    simp only [S95_0] at hp hf
    have hk := hp
    simp only [dvI, Bool.and_eq_true, decide_eq_true_eq, beq_iff_eq] at hk
    obtain ⟨⟨h1, h2, h3, h4, h5, h6, h7, h8, h9, h10, h11⟩, h12⟩ := hk
    refine cond_intro (fun h => ?_) (fun h => ?_)
    · have h := of_decide_eq_true h
      obtain ⟨g1, g2, g3, g4, g5, g6, g7, g8, g9, g10⟩ := dv_next hp h
      rw [wu64 (n := n * 10) (by omega), wu64 (n := rest * 10) (by omega), Int.tdiv_eq_ediv_of_nonneg (by omega), Int.tmod_eq_emod_of_nonneg (show 0 ≤ rest * 10 by omega), wu64 (n := rest * 10 / y) (by omega),
        wu64 (n := n * 10 + rest * 10 / y) (by omega), Int.tmod_eq_emod_of_nonneg (by omega), w64 (n := i + 1) (by omega)]
      refine cond_intro (fun _ => ?_) (fun h => by have := of_decide_eq_false h; omega)
      refine cond_intro (fun _ => ?_) (fun h => by have := of_decide_eq_false h; omega)
      cases f
      · refine cond_intro (fun h => (by cases h)) (fun _ => ?_)
        refine cond_intro (fun _ => ?_) (fun h => by have := of_decide_eq_false h; omega)
        exact ⟨(tk, tp, tq, tv, ts, z, zb, neg, x, y, bound, false, (n * 10 + rest * 10 / y) % bound, rest * 10 % y, i + 1), rfl, rfl, g1, by simp only; omega, hf⟩
      · refine cond_intro (fun _ => ?_) (fun h => (by cases h))
        refine cond_intro (fun _ => ?_) (fun h => by have := of_decide_eq_false h; omega)
        exact ⟨(tk, tp, tq, tv, ts, z, zb, neg, x, y, bound, decide (n * 10 + rest * 10 / y < bound), (n * 10 + rest * 10 / y) % bound, rest * 10 % y, i + 1), rfl, rfl, g1, by simp only; omega, hf⟩
    · have h := of_decide_eq_false h
      obtain rfl : i = tq := by omega
      show Z _ _ _
      rw [h10, h11, h12]
      exact hf

def dvX (a : Int) (ta tb : Ty) : Int := max a (-a) * pw 10 (max 0 (tb.q - ta.q))
def dvN (a : Int) (ta : Ty) (b : Int) (tb t : Ty) : Int := fq (dvX a ta tb) (dvX b tb ta) t.q
def dvOK2 (a : Int) (ta : Ty) (b : Int) (tb t : Ty) : Prop := Valid ta ∧ Valid tb ∧ Valid t ∧ b ≠ 0 ∧ (-bnd ta < a ∧ a < bnd ta) ∧ (-bnd tb < b ∧ b < bnd tb) ∧ ta.k = tb.k
instance (a : Int) (ta : Ty) (b : Int) (tb t : Ty) : Decidable (dvOK2 a ta b tb t) := by unfold dvOK2; infer_instance

theorem dvX_rng {a : Int} {t u : Ty} (ht : Valid t) (hu : Valid u) (hn : -bnd t < a ∧ a < bnd t) (hk : t.k = u.k) : 0 ≤ dvX a t u ∧ dvX a t u ≤ 1000000000000000000 := by
  have r1 := valid_r ht
  have r2 := valid_r hu
  have b1 := bnd_range ht
  have p1 := pw_le (b := 10) (by omega) (show max 0 (u.q - t.q) ≤ 9 by omega)
  have p2 := pw_pos (b := 10) (by omega) (max 0 (u.q - t.q))
  have p5 := pw10_9
  unfold dvX
  rcases ht.1 with k1 | k1
  · have e1 := bnd_dec ht k1
    have := mul_rng (x := max a (-a)) (y := pw 10 (max 0 (u.q - t.q))) (A := 1000000000) (B := 1000000000) (by omega) (by omega)
    have := Int.mul_nonneg (show 0 ≤ max a (-a) by omega) (show 0 ≤ pw 10 (max 0 (u.q - t.q)) by omega)
    omega
  · have q1 : t.q = 0 := ht.2.2.2.2.2.1 k1
    have q2 : u.q = 0 := hu.2.2.2.2.2.1 (by omega)
    rw [q1, q2, show max 0 ((0 : Int) - 0) = 0 by omega, pw0, Int.mul_one]
    omega

def s95 (a : Int) (ta : Ty) (b : Int) (tb : Ty) (t : Ty) : Bool × Value := (decide (dvOK2 a ta b tb t), tup [I (if (a < 0) ≠ (b < 0) then -(dvN a ta b tb t % bnd t) else dvN a ta b tb t % bnd t), B (decide (dvN a ta b tb t < bnd t))])
theorem fn95 : Fn1 Try.prog 95 Try.f95 := ⟨Try.func95, by kernel_rfl, by kernel_rfl, by kernel_rfl⟩
theorem v95 (a : Int) (ta : Ty) (b : Int) (tb : Ty) (t : Ty) (R : Value → Prop) : bodyR Try.prog G19 (oneL 0 S95_0.h) Try.f95 [Enc.enc a, Enc.enc ta, Enc.enc b, Enc.enc tb, Enc.enc t] (fun _ => none) 0 (fun v _ _ => R v) = (
    bif decide (imax 0 (IntKind.wrap IntKind.i64 (Ty.q tb - Ty.q ta)) ≤ 1000) then
      bif decide (imax 0 (IntKind.wrap IntKind.i64 (Ty.q ta - Ty.q tb)) ≤ 1000) then
        bif decide (Valid t) then
          bif
              decide
                (IntKind.wrap IntKind.u64
                    (IntKind.wrap IntKind.u64 (imax b (IntKind.wrap IntKind.i64 (0 - b))) *
                      IntKind.wrap IntKind.u64 (IntKind.wrap IntKind.i64 (pw 10 (imax 0 (IntKind.wrap IntKind.i64 (Ty.q ta - Ty.q tb)))))) ≠
                  0) then
            bif
                decide
                  (IntKind.wrap IntKind.u64
                      (IntKind.wrap IntKind.u64 (imax b (IntKind.wrap IntKind.i64 (0 - b))) *
                        IntKind.wrap IntKind.u64 (IntKind.wrap IntKind.i64 (pw 10 (imax 0 (IntKind.wrap IntKind.i64 (Ty.q ta - Ty.q tb)))))) ≠
                    0) then
              bif decide (IntKind.wrap IntKind.u64 (bnd t) ≠ 0) then
                bif
                    decide
                      (IntKind.wrap IntKind.u64
                          (IntKind.wrap IntKind.u64 (imax b (IntKind.wrap IntKind.i64 (0 - b))) *
                            IntKind.wrap IntKind.u64 (IntKind.wrap IntKind.i64 (pw 10 (imax 0 (IntKind.wrap IntKind.i64 (Ty.q ta - Ty.q tb)))))) ≠
                        0) then
                  bif
                      LSpec.pre S95_0
                        (Ty.k t, Ty.p t, Ty.q t, Ty.v t, Ty.s t, 0, false, !decide (a < 0) == decide (b < 0),
                          IntKind.wrap IntKind.u64
                            (IntKind.wrap IntKind.u64 (imax a (IntKind.wrap IntKind.i64 (0 - a))) *
                              IntKind.wrap IntKind.u64 (IntKind.wrap IntKind.i64 (pw 10 (imax 0 (IntKind.wrap IntKind.i64 (Ty.q tb - Ty.q ta)))))),
                          IntKind.wrap IntKind.u64
                            (IntKind.wrap IntKind.u64 (imax b (IntKind.wrap IntKind.i64 (0 - b))) *
                              IntKind.wrap IntKind.u64 (IntKind.wrap IntKind.i64 (pw 10 (imax 0 (IntKind.wrap IntKind.i64 (Ty.q ta - Ty.q tb)))))),
                          IntKind.wrap IntKind.u64 (bnd t),
                          decide
                            (IntKind.wrap IntKind.u64
                                (Int.tdiv
                                  (IntKind.wrap IntKind.u64
                                    (IntKind.wrap IntKind.u64 (imax a (IntKind.wrap IntKind.i64 (0 - a))) *
                                      IntKind.wrap IntKind.u64 (IntKind.wrap IntKind.i64 (pw 10 (imax 0 (IntKind.wrap IntKind.i64 (Ty.q tb - Ty.q ta)))))))
                                  (IntKind.wrap IntKind.u64
                                    (IntKind.wrap IntKind.u64 (imax b (IntKind.wrap IntKind.i64 (0 - b))) *
                                      IntKind.wrap IntKind.u64 (IntKind.wrap IntKind.i64 (pw 10 (imax 0 (IntKind.wrap IntKind.i64 (Ty.q ta - Ty.q tb)))))))) <
                              IntKind.wrap IntKind.u64 (bnd t)),
                          Int.tmod
                            (IntKind.wrap IntKind.u64
                              (Int.tdiv
                                (IntKind.wrap IntKind.u64
                                  (IntKind.wrap IntKind.u64 (imax a (IntKind.wrap IntKind.i64 (0 - a))) *
                                    IntKind.wrap IntKind.u64 (IntKind.wrap IntKind.i64 (pw 10 (imax 0 (IntKind.wrap IntKind.i64 (Ty.q tb - Ty.q ta)))))))
                                (IntKind.wrap IntKind.u64
                                  (IntKind.wrap IntKind.u64 (imax b (IntKind.wrap IntKind.i64 (0 - b))) *
                                    IntKind.wrap IntKind.u64 (IntKind.wrap IntKind.i64 (pw 10 (imax 0 (IntKind.wrap IntKind.i64 (Ty.q ta - Ty.q tb)))))))))
                            (IntKind.wrap IntKind.u64 (bnd t)),
                          Int.tmod
                            (IntKind.wrap IntKind.u64
                              (IntKind.wrap IntKind.u64 (imax a (IntKind.wrap IntKind.i64 (0 - a))) *
                                IntKind.wrap IntKind.u64 (IntKind.wrap IntKind.i64 (pw 10 (imax 0 (IntKind.wrap IntKind.i64 (Ty.q tb - Ty.q ta)))))))
                            (IntKind.wrap IntKind.u64
                              (IntKind.wrap IntKind.u64 (imax b (IntKind.wrap IntKind.i64 (0 - b))) *
                                IntKind.wrap IntKind.u64 (IntKind.wrap IntKind.i64 (pw 10 (imax 0 (IntKind.wrap IntKind.i64 (Ty.q ta - Ty.q tb))))))),
                          0) then
                    ∀ (x : Tmps),
                      bif !decide (a < 0) == decide (b < 0) then
                        R
                          (Value.tuple
                            (Array.mk
                              [Value.int IntKind.i64
                                  (IntKind.wrap IntKind.i64
                                    (0 -
                                      IntKind.wrap IntKind.i64
                                        (fq
                                            (IntKind.wrap IntKind.u64
                                              (IntKind.wrap IntKind.u64 (imax a (IntKind.wrap IntKind.i64 (0 - a))) *
                                                IntKind.wrap IntKind.u64 (IntKind.wrap IntKind.i64 (pw 10 (imax 0 (IntKind.wrap IntKind.i64 (Ty.q tb - Ty.q ta)))))))
                                            (IntKind.wrap IntKind.u64
                                              (IntKind.wrap IntKind.u64 (imax b (IntKind.wrap IntKind.i64 (0 - b))) *
                                                IntKind.wrap IntKind.u64 (IntKind.wrap IntKind.i64 (pw 10 (imax 0 (IntKind.wrap IntKind.i64 (Ty.q ta - Ty.q tb)))))))
                                            (Ty.q t) %
                                          IntKind.wrap IntKind.u64 (bnd t)))),
                                Value.bool
                                  (decide
                                    (fq
                                        (IntKind.wrap IntKind.u64
                                          (IntKind.wrap IntKind.u64 (imax a (IntKind.wrap IntKind.i64 (0 - a))) *
                                            IntKind.wrap IntKind.u64 (IntKind.wrap IntKind.i64 (pw 10 (imax 0 (IntKind.wrap IntKind.i64 (Ty.q tb - Ty.q ta)))))))
                                        (IntKind.wrap IntKind.u64
                                          (IntKind.wrap IntKind.u64 (imax b (IntKind.wrap IntKind.i64 (0 - b))) *
                                            IntKind.wrap IntKind.u64 (IntKind.wrap IntKind.i64 (pw 10 (imax 0 (IntKind.wrap IntKind.i64 (Ty.q ta - Ty.q tb)))))))
                                        (Ty.q t) <
                                      IntKind.wrap IntKind.u64 (bnd t)))]))
                      else
                        R
                          (Value.tuple
                            (Array.mk
                              [Value.int IntKind.i64
                                  (IntKind.wrap IntKind.i64
                                    (fq
                                        (IntKind.wrap IntKind.u64
                                          (IntKind.wrap IntKind.u64 (imax a (IntKind.wrap IntKind.i64 (0 - a))) *
                                            IntKind.wrap IntKind.u64 (IntKind.wrap IntKind.i64 (pw 10 (imax 0 (IntKind.wrap IntKind.i64 (Ty.q tb - Ty.q ta)))))))
                                        (IntKind.wrap IntKind.u64
                                          (IntKind.wrap IntKind.u64 (imax b (IntKind.wrap IntKind.i64 (0 - b))) *
                                            IntKind.wrap IntKind.u64 (IntKind.wrap IntKind.i64 (pw 10 (imax 0 (IntKind.wrap IntKind.i64 (Ty.q ta - Ty.q tb)))))))
                                        (Ty.q t) %
                                      IntKind.wrap IntKind.u64 (bnd t))),
                                Value.bool
                                  (decide
                                    (fq
                                        (IntKind.wrap IntKind.u64
                                          (IntKind.wrap IntKind.u64 (imax a (IntKind.wrap IntKind.i64 (0 - a))) *
                                            IntKind.wrap IntKind.u64 (IntKind.wrap IntKind.i64 (pw 10 (imax 0 (IntKind.wrap IntKind.i64 (Ty.q tb - Ty.q ta)))))))
                                        (IntKind.wrap IntKind.u64
                                          (IntKind.wrap IntKind.u64 (imax b (IntKind.wrap IntKind.i64 (0 - b))) *
                                            IntKind.wrap IntKind.u64 (IntKind.wrap IntKind.i64 (pw 10 (imax 0 (IntKind.wrap IntKind.i64 (Ty.q ta - Ty.q tb)))))))
                                        (Ty.q t) <
                                      IntKind.wrap IntKind.u64 (bnd t)))]))
                  else False
                else False
              else False
            else False
          else False
        else False
      else False
    else False) := by kernel_rfl
theorem ok95 : PureOK Try.prog 95 (sp5 s95) := by
  refine pure5 ok_G19 hmix fn95 l95_0 (Nat.le_of_ble_eq_true (by kernel_rfl)) fun a ta b tb t hc => ?_
  rw [Does, v95]
  have hc : (dvOK2 a ta b tb t) := of_decide_eq_true hc
  obtain ⟨va, vb, vt, hb0, ha, hb, hk⟩ := hc
  have ra := valid_r va
  have rb := valid_r vb
  have rt := valid_r vt
  have ba := bnd_range va
  have bb := bnd_range vb
  have bt := bnd_range vt
  have hy := dvX_rng (a := b) vb va hb hk.symm
  have hx := dvX_rng (a := a) va vb ha hk
  have eX : dvX a ta tb = max a (-a) * pw 10 (max 0 (tb.q - ta.q)) := rfl
  have eY : dvX b tb ta = max b (-b) * pw 10 (max 0 (ta.q - tb.q)) := rfl
  have p1 := pw_le (b := 10) (by omega) (show max 0 (tb.q - ta.q) ≤ 9 by omega)
  have p2 := pw_pos (b := 10) (by omega) (max 0 (tb.q - ta.q))
  have p3 := pw_le (b := 10) (by omega) (show max 0 (ta.q - tb.q) ≤ 9 by omega)
  have p4 := pw_pos (b := 10) (by omega) (max 0 (ta.q - tb.q))
  have p5 := pw10_9
  have hy0 : 1 ≤ dvX b tb ta := by
    rw [eY]
    have := Int.mul_le_mul (show 1 ≤ max b (-b) by omega) p4 (by omega) (by omega)
    omega
  simp only [imax_max, Int.zero_sub]
  rw [w64 (n := -a) (by omega), w64 (n := -b) (by omega), w64 (n := tb.q - ta.q) (by omega), w64 (n := ta.q - tb.q) (by omega), pw_w64 (b := 10) (p := max 0 (tb.q - ta.q)) (by omega), pw_w64 (b := 10) (p := max 0 (ta.q - tb.q)) (by omega),
    wu64 (n := max a (-a)) (by omega), wu64 (n := max b (-b)) (by omega), wu64 (n := pw 10 (max 0 (tb.q - ta.q))) (by omega), wu64 (n := pw 10 (max 0 (ta.q - tb.q))) (by omega), ← eX, ← eY, wu64 (n := dvX a ta tb) (by omega),
    wu64 (n := dvX b tb ta) (by omega), wu64 (n := bnd t) (by omega)]
  have hs : (s95 a ta b tb t).2 = tup [I (if (a < 0) ≠ (b < 0) then -(dvN a ta b tb t % bnd t) else dvN a ta b tb t % bnd t), B (decide (dvN a ta b tb t < bnd t))] := rfl
  rw [hs]
  unfold dvN
  generalize dvX a ta tb = X at *
  generalize dvX b tb ta = Y at *
  have q0 : 0 ≤ X / Y := Int.ediv_nonneg hx.1 (by omega)
  have q1 : X / Y ≤ X := Int.ediv_le_self _ hx.1
  have m0 := Int.emod_nonneg (fq X Y t.q) (show bnd t ≠ 0 by omega)
  have m1 := Int.emod_lt_of_pos (fq X Y t.q) (show 0 < bnd t by omega)
  rw [Int.tdiv_eq_ediv_of_nonneg hx.1, Int.tmod_eq_emod_of_nonneg hx.1, wu64 (n := X / Y) (by omega), Int.tmod_eq_emod_of_nonneg q0, w64 (n := fq X Y t.q % bnd t) (by omega), w64 (n := -(fq X Y t.q % bnd t)) (by omega)]
  have c1 : decide (Y ≠ 0) = true := decide_eq_true (by omega)
  have c2 : decide (bnd t ≠ 0) = true := decide_eq_true (by omega)
  have f0 : fq X Y 0 = X / Y := by rw [fq, pw0, Int.mul_one]
  have f1 : fr X Y 0 = X % Y := by rw [fr, pw0, Int.mul_one]
  have hp : S95_0.pre (t.k, t.p, t.q, t.v, t.s, 0, false, !decide (a < 0) == decide (b < 0), X, Y, bnd t, decide (X / Y < bnd t), X / Y % bnd t, X % Y, 0) = true := by
    simp only [S95_0, dvI, f0, f1, Bool.and_eq_true, decide_eq_true_eq, beq_iff_eq]
    exact ⟨⟨by omega, by omega, by omega, by omega, by omega, by omega, by omega, by omega, by omega, trivial, trivial⟩, trivial⟩
  rw [c1, c2, hp]
  refine cond_intro (fun _ => ?_) (fun h => by have := of_decide_eq_false h; omega)
  refine cond_intro (fun _ => ?_) (fun h => by have := of_decide_eq_false h; omega)
  refine cond_intro (fun _ => ?_) (fun h => by have := of_decide_eq_false h; exact absurd vt this)
  show ∀ _ : Tmps, _
  intro _
  refine cond_intro (fun h => ?_) (fun h => ?_)
  all_goals grind

end Go.Fx
