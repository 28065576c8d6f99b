/-
  Into.
-/
import Derived.Test.YthaedhabookjeaaFx14
set_option linter.unusedVariables false
set_option linter.unusedSimpArgs false
namespace Go.Fx
open Go Go.Ab Go.Proofs

structure U where
  n : Int
instance : Enc U where
  enc t := .int .u64 t.n
  dec | .int .u64 n => some ⟨n⟩ | _ => none
  dec_some := by
    intro v a h
    split at h
    · cases h; rfl
    · cases h
  plain_enc _ := rfl
def fq (x y i : Int) : Int := x * pw 10 i / y
def fr (x y i : Int) : Int := x * pw 10 i % y
def dgOK (x y behind bound : Int) : Bool := decide (0 ≤ x ∧ x ≤ 4611686018427387904 ∧ 1 ≤ y ∧ y ≤ 1000000000000000000 ∧ 0 ≤ behind ∧ behind ≤ 9 ∧ 1 ≤ bound ∧ bound ≤ 2147483648)
def dgI (x y behind bound n rest : Int) (over : Bool) (i : Int) : Bool := dgOK x y behind bound && decide (0 ≤ i ∧ i ≤ behind ∧ rest = fr x y i ∧ n % bound = fq x y i % bound ∧ 0 ≤ n ∧ n ≤ 4611686018427387904) && ((over || decide (bound ≤ n)) == decide (bound ≤ fq x y i))

theorem fq_succ {x y i : Int} (hy : 1 ≤ y) (hi : 0 ≤ i) : fq x y (i + 1) = fq x y i * 10 + fr x y i * 10 / y ∧ fr x y (i + 1) = fr x y i * 10 % y := by
  unfold fq fr
  rw [pw_succ 10 hi, ← Int.mul_assoc]
  generalize x * pw 10 i = a
  have h1 := Int.mul_ediv_add_emod a y
  have h2 : a * 10 = a % y * 10 + y * (a / y * 10) := by
    conv => lhs; rw [← h1]
    rw [Int.add_mul, Int.mul_assoc, Int.add_comm]
  rw [h2, Int.add_mul_ediv_left _ _ (by omega), Int.add_mul_emod_self_left]
  exact ⟨Int.add_comm .., rfl⟩
theorem fr_rng {x y i : Int} (hy : 1 ≤ y) : 0 ≤ fr x y i ∧ fr x y i < y := ⟨Int.emod_nonneg _ (by omega), Int.emod_lt_of_pos _ (by omega)⟩
theorem dig {r y : Int} (hy : 1 ≤ y) (h : 0 ≤ r ∧ r < y) : 0 ≤ r * 10 / y ∧ r * 10 / y ≤ 9 := by
  refine ⟨Int.ediv_nonneg (by omega) (by omega), ?_⟩
  have := Int.ediv_lt_of_lt_mul (a := r * 10) (b := 10) (c := y) (by omega) (by omega)
  omega
theorem fq_nonneg {x y i : Int} (hx : 0 ≤ x) (hy : 1 ≤ y) : 0 ≤ fq x y i := by
  have := pw_pos (b := 10) (by omega) i
  exact Int.ediv_nonneg (Int.mul_nonneg hx (by omega)) (by omega)
theorem dg_next {x y behind bound n rest i : Int} {over : Bool} (h : dgI x y behind bound n rest over i = true) (hib : i ≠ behind) (n0 : Int) (o0 : Bool) (hn : n0 = if bound ≤ n then n % bound else n) (ho : o0 = (over || decide (bound ≤ n))) :
    dgI x y behind bound (n0 * 10 + rest * 10 / y) (rest * 10 % y) o0 (i + 1) = true ∧ 0 ≤ n0 ∧ n0 < 2147483648 ∧ 0 ≤ rest ∧ rest < y ∧ 0 ≤ rest * 10 / y ∧ rest * 10 / y ≤ 9 := by
  simp only [dgI, dgOK, Bool.and_eq_true, decide_eq_true_eq, beq_iff_eq] at h
  obtain ⟨⟨⟨h1, h2, h3, h4, h5, h6, h7, h8⟩, h9, h10, h11, h12, h13, h14⟩, h15⟩ := h
  obtain ⟨s1, s2⟩ := fq_succ (x := x) h3 h9
  have r := fr_rng (x := x) (i := i) h3
  have q := fq_nonneg (i := i) h1 h3
  rw [← h11] at s1 s2 r
  have d := dig h3 r
  have hb : 0 < bound := by omega
  have e1 : n0 % bound = fq x y i % bound := by
    rw [hn]; split
    · rw [Int.emod_emod, h12]
    · exact h12
  have e2 : 0 ≤ n0 ∧ n0 < bound := by
    rw [hn]; split
    · exact ⟨Int.emod_nonneg _ (by omega), Int.emod_lt_of_pos _ hb⟩
    · omega
  refine ⟨?_, e2.1, by omega, r.1, r.2, d.1, d.2⟩
  simp only [dgI, dgOK, Bool.and_eq_true, decide_eq_true_eq, beq_iff_eq]
  refine ⟨⟨⟨h1, h2, h3, h4, h5, h6, h7, h8⟩, by omega, by omega, s2.symm, ?_, by omega, by omega⟩, ?_⟩
  · rw [s1, Int.add_emod, Int.mul_emod, e1, ← Int.mul_emod, ← Int.add_emod]
  · rw [ho, h15, s1]
    generalize fq x y i = F at *
    generalize rest * 10 / y = D at *
    by_cases hF : bound ≤ F
    · simp only [hF, decide_true, Bool.true_or]
      exact (decide_eq_true (by omega)).symm
    · have hF2 : F % bound = F := Int.emod_eq_of_lt q (by omega)
      have hn2 : n0 % bound = n0 := Int.emod_eq_of_lt e2.1 e2.2
      rw [hF2, hn2] at e1
      simp only [hF, decide_false, Bool.false_or, e1]
theorem wu64 {n : Int} (h : 0 ≤ n ∧ n ≤ 18446744073709551615) : IntKind.u64.wrap n = n := by
  have : IntKind.u64.wrap n = n % 18446744073709551616 := rfl
  rw [this]; omega

def V93_0 : Int × Int × Int × Int × Int × Bool × Int × Int × Bool × Int → List Value := fun (x, y, behind, bound, z, zb, n, rest, over, i) => [.int .u64 x, .int .u64 y, I behind, .int .u64 bound, .int .u64 z, B zb, .int .u64 n, .int .u64 rest, B over, I i]
def B93_0 : Int × Int × Int × Int × Int × Bool × Int × Int × Bool × Int → List (Option Blk) := fun _ => []
def S93_0 : LSpec (Int × Int × Int × Int × Int × Bool × Int × Int × Bool × Int) where
  live := [0, 1, 2, 3, 8, 9, 10, 11, 12, 13]
  mid := []
  n := 60
  dec vs bs := match vs, bs with | [.int .u64 x, .int .u64 y, .int .i64 behind, .int .u64 bound, .int .u64 z, .bool zb, .int .u64 n, .int .u64 rest, .bool over, .int .i64 i], [] => some (x, y, behind, bound, z, zb, n, rest, over, i) | _, _ => none
  pre := fun (x, y, behind, bound, z, zb, n, rest, over, i) => dgI x y behind bound n rest over i
  fin := fun (x, y, behind, bound, z, zb, n, rest, over, i) Z => Z .ret [.int .u64 x, .int .u64 y, I behind, .int .u64 bound, .int .u64 (fq x y behind % bound), B (decide (bound ≤ fq x y behind)), .int .u64 (fq x y behind % bound), .int .u64 (fr x y behind), B (decide (bound ≤ fq x y behind)), I behind] []
theorem r93_0 (x : Int) (y : Int) (behind : Int) (bound : Int) (z : Int) (zb : Bool) (n : Int) (rest : Int) (over : Bool) (i : Int) (jk : Tmps) (R : Exit → List Value → List (Option Blk) → Prop) : (codeR Try.prog G19 noL Try.f93.ntmps (loopOf Try.f93 0) (tl S93_0.live (V93_0 (x, y, behind, bound, z, zb, n, rest, over, i)) jk) (ml S93_0.mid (B93_0 (x, y, behind, bound, z, zb, n, rest, over, i))) S93_0.n fun e t' m' _ => R e (List.map t' S93_0.live) (List.map m' S93_0.mid)) = (
    bif decide (n ≥ bound) then
      bif decide (bound ≠ 0) then
        bif i == behind then
          R Exit.ret
            [Value.int IntKind.u64 x, Value.int IntKind.u64 y, Value.int IntKind.i64 behind, Value.int IntKind.u64 bound, Value.int IntKind.u64 (Int.tmod n bound), Value.bool true,
              Value.int IntKind.u64 (Int.tmod n bound), Value.int IntKind.u64 rest, Value.bool true, Value.int IntKind.i64 i]
            []
        else
          bif decide (y ≠ 0) then
            bif decide (y ≠ 0) then
              R Exit.normal
                [Value.int IntKind.u64 x, Value.int IntKind.u64 y, Value.int IntKind.i64 behind, Value.int IntKind.u64 bound, Value.int IntKind.u64 z, Value.bool zb,
                  Value.int IntKind.u64
                    (IntKind.wrap IntKind.u64 (IntKind.wrap IntKind.u64 (Int.tmod n bound * 10) + IntKind.wrap IntKind.u64 (Int.tdiv (IntKind.wrap IntKind.u64 (rest * 10)) y))),
                  Value.int IntKind.u64 (Int.tmod (IntKind.wrap IntKind.u64 (rest * 10)) y), Value.bool true, Value.int IntKind.i64 (IntKind.wrap IntKind.i64 (i + 1))]
                []
            else False
          else False
      else False
    else
      bif i == behind then
        R Exit.ret
          [Value.int IntKind.u64 x, Value.int IntKind.u64 y, Value.int IntKind.i64 behind, Value.int IntKind.u64 bound, Value.int IntKind.u64 n, Value.bool over,
            Value.int IntKind.u64 n, Value.int IntKind.u64 rest, Value.bool over, Value.int IntKind.i64 i]
          []
      else
        bif decide (y ≠ 0) then
          bif decide (y ≠ 0) then
            R Exit.normal
              [Value.int IntKind.u64 x, Value.int IntKind.u64 y, Value.int IntKind.i64 behind, Value.int IntKind.u64 bound, Value.int IntKind.u64 z, Value.bool zb,
                Value.int IntKind.u64 (IntKind.wrap IntKind.u64 (IntKind.wrap IntKind.u64 (n * 10) + IntKind.wrap IntKind.u64 (Int.tdiv (IntKind.wrap IntKind.u64 (rest * 10)) y))),
                Value.int IntKind.u64 (Int.tmod (IntKind.wrap IntKind.u64 (rest * 10)) y), Value.bool over, Value.int IntKind.i64 (IntKind.wrap IntKind.i64 (i + 1))]
              []
          else False
        else False) := by kernel_rfl
theorem l93_0 : LOKf Try.prog (oneL 0 S93_0.h) Try.f93 := by
  refine lokf_one (by kernel_rfl) (loop_spec ok_G19 hmix (by kernel_rfl) (lok_none _) S93_0 V93_0 B93_0 (fun (x, y, behind, bound, z, zb, n, rest, over, i) => (behind - i).toNat) ?_ ?_ ?_)
  · intro vs bs s h
    simp only [S93_0] at h
    split at h
    · cases h
      exact ⟨rfl, rfl⟩
    · cases h
  · exact fun _ _ _ h => h
  · intro ⟨x, y, behind, bound, z, zb, n, rest, over, i⟩ jk Z hp hf
    rw [r93_0]
    simp only [S93_0] at hp hf
    have hN : ∀ (n0 : Int) (o0 : Bool), n0 = (if bound ≤ n then n % bound else n) → o0 = (over || decide (bound ≤ n)) → i ≠ behind → decide (y ≠ 0) = true ∧
        S93_0.step V93_0 B93_0 (fun (x, y, behind, bound, z, zb, n, rest, over, i) => (behind - i).toNat) (x, y, behind, bound, z, zb, n, rest, over, i) Z .normal
          [.int .u64 x, .int .u64 y, I behind, .int .u64 bound, .int .u64 z, B zb, .int .u64 (IntKind.u64.wrap (IntKind.u64.wrap (n0 * 10) + IntKind.u64.wrap ((IntKind.u64.wrap (rest * 10)).tdiv y))),
            .int .u64 ((IntKind.u64.wrap (rest * 10)).tmod y), B o0, I (IntKind.i64.wrap (i + 1))] [] := by
      intro n0 o0 hn ho hib
      obtain ⟨g1, g2, g3, g4, g5, g6, g7⟩ := dg_next hp hib n0 o0 hn ho
      have hk := hp
      simp only [dgI, dgOK, Bool.and_eq_true, decide_eq_true_eq] at hk
      obtain ⟨⟨⟨h1, h2, h3, h4, h5, h6, h7, h8⟩, h9, h10, _⟩, _⟩ := hk
      refine ⟨decide_eq_true (by omega), (x, y, behind, bound, z, zb, n0 * 10 + rest * 10 / y, rest * 10 % y, o0, i + 1), ?_, rfl, g1, by simp only; omega, hf⟩
      rw [wu64 (n := n0 * 10) (by omega), wu64 (n := rest * 10) (by omega), Int.tdiv_eq_ediv_of_nonneg (by omega), Int.tmod_eq_emod_of_nonneg (by omega), wu64 (n := rest * 10 / y) (by omega), wu64 (by omega), w64 (by omega)]
      rfl
    have hk := hp
    simp only [dgI, dgOK, Bool.and_eq_true, decide_eq_true_eq, beq_iff_eq] at hk
    obtain ⟨⟨⟨h1, h2, h3, h4, h5, h6, h7, h8⟩, h9, h10, h11, h12, h13, h14⟩, h15⟩ := hk
    have hq := fq_nonneg (i := behind) h1 h3
    refine cond_intro (fun hb => ?_) (fun hb => ?_)
    · have hb := of_decide_eq_true hb
      rw [Int.tmod_eq_emod_of_nonneg h13]
      refine cond_intro (fun _ => ?_) (fun h => by have := of_decide_eq_false h; omega)
      refine cond_intro (fun h => ?_) (fun h => ?_)
      · obtain rfl : i = behind := by simpa using h
        show Z _ _ _
        have ho : decide (bound ≤ fq x y i) = true := by rw [← h15]; simp; omega
        rw [h12, h11, ← ho]
        exact hf
      · obtain ⟨k1, k2⟩ := hN (n % bound) true (by rw [if_pos (by omega)]) (by simp; omega) (by simpa using h)
        rw [k1]
        exact k2
    · have hb := of_decide_eq_false hb
      refine cond_intro (fun h => ?_) (fun h => ?_)
      · obtain rfl : i = behind := by simpa using h
        show Z _ _ _
        have hbn : decide (bound ≤ n) = false := decide_eq_false (by omega)
        rw [hbn, Bool.or_false] at h15
        have hn : n = fq x y i % bound := by rw [← h12, Int.emod_eq_of_lt h13 (by omega)]
        rw [hn, h11, h15]
        exact hf
      · obtain ⟨k1, k2⟩ := hN n over (by rw [if_neg (by omega)]) (by simp; omega) (by simpa using h)
        rw [k1]
        exact k2

def s93 (x : U) (y : U) (behind : Int) (bound : U) : Bool × Value := (dgOK x.n y.n behind bound.n, tup [.int .u64 (fq x.n y.n behind % bound.n), B (decide (bound.n ≤ fq x.n y.n behind))])
theorem v93 (x : U) (y : U) (behind : Int) (bound : U) (R : Value → Prop) : bodyR Try.prog G19 (oneL 0 S93_0.h) Try.f93 [Enc.enc x, Enc.enc y, Enc.enc behind, Enc.enc bound] (fun _ => none) 0 (fun v _ _ => R v) = (
    bif decide (U.n y ≠ 0) then
      bif decide (U.n y ≠ 0) then
        bif LSpec.pre S93_0 (U.n x, U.n y, behind, U.n bound, 0, false, IntKind.wrap IntKind.u64 (Int.tdiv (U.n x) (U.n y)), Int.tmod (U.n x) (U.n y), false, 0) then
          ∀ (x_1 : Tmps), R (Value.tuple (Array.mk [Value.int IntKind.u64 (fq (U.n x) (U.n y) behind % U.n bound), Value.bool (decide (U.n bound ≤ fq (U.n x) (U.n y) behind))]))
        else False
      else False
    else False) := by kernel_rfl
theorem ok93 : PureOK Try.prog 93 (sp4 s93) := by
  refine pure4 ok_G19 hmix fn93 l93_0 (Nat.le_of_ble_eq_true (by kernel_rfl)) fun x y behind bound hc => ?_
  rw [Does, v93]
  have hd := hc
  have hc : dgOK x.n y.n behind bound.n = true := hd
  simp only [dgOK, decide_eq_true_eq] at hc
  obtain ⟨h1, h2, h3, h4, h5, h6, h7, h8⟩ := hc
  have hx : 0 ≤ x.n / y.n ∧ x.n / y.n ≤ x.n := ⟨Int.ediv_nonneg h1 (by omega), Int.ediv_le_self _ h1⟩
  rw [Int.tdiv_eq_ediv_of_nonneg h1, Int.tmod_eq_emod_of_nonneg h1, wu64 (by omega)]
  refine cond_intro (fun _ => ?_) (fun h => by have := of_decide_eq_false h; omega)
  refine cond_intro (fun _ => ?_) (fun h => by have := of_decide_eq_false h; omega)
  refine cond_intro (fun _ _ => rfl) (fun h => ?_)
  have e0 : fq x.n y.n 0 = x.n / y.n := by rw [fq, pw0, Int.mul_one]
  have e1 : fr x.n y.n 0 = x.n % y.n := by rw [fr, pw0, Int.mul_one]
  have : S93_0.pre (x.n, y.n, behind, bound.n, 0, false, x.n / y.n, x.n % y.n, false, 0) = true := by
    simp only [S93_0, dgI, dgOK, e0, e1, Bool.and_eq_true, decide_eq_true_eq, beq_iff_eq, Bool.false_or]
    exact ⟨⟨⟨h1, h2, h3, h4, h5, h6, h7, h8⟩, by omega, by omega, trivial, trivial, by omega, by omega⟩, trivial⟩
  rw [this] at h
  cases h

end Go.Fx
