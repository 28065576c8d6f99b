/-
  Powers.
-/
import Derived.Test.YthaedhabookjeaaFx3
set_option linter.unusedVariables false
set_option linter.unusedSimpArgs false
namespace Go.Fx
open Go Go.Ab Go.Proofs

def V99_0 : Int × Int × Int × Int → List Value := fun (b, k, x, i) => [I b, I k, I x, I i]
def B99_0 : Int × Int × Int × Int → List (Option Blk) := fun _ => []
def S99_0 : LSpec (Int × Int × Int × Int) where
  live := [0, 1, 5, 6]
  mid := []
  n := 40
  dec vs bs := match vs, bs with | [.int .i64 b, .int .i64 k, .int .i64 x, .int .i64 i], [] => some (b, k, x, i) | _, _ => none
  pre := fun (b, k, x, i) => decide (0 ≤ i ∧ i ≤ max k 0 ∧ k ≤ 1000) && x == IntKind.i64.wrap (pw b i)
  fin := fun (b, k, x, i) Z => Z (.exit 0) [I b, I k, I (IntKind.i64.wrap (pw b k)), I (max k 0)] []
theorem r99_0 (b : Int) (k : Int) (x : Int) (i : Int) (y : Tmps) (R : Exit → List Value → List (Option Blk) → Prop) : (codeR Try.prog G1 noL Try.f99.ntmps (loopOf Try.f99 0) (tl [0, 1, 5, 6] [I b, I k, I x, I i] y) (ml [] []) 40 fun e t' m' _ => R e (List.map t' [0, 1, 5, 6]) (List.map m' [])) = (
    bif decide (i < k) then
      R Exit.normal
        [Value.int IntKind.i64 b, Value.int IntKind.i64 k, Value.int IntKind.i64 (IntKind.wrap IntKind.i64 (x * b)), Value.int IntKind.i64 (IntKind.wrap IntKind.i64 (i + 1))] []
    else R (Exit.exit 0) [Value.int IntKind.i64 b, Value.int IntKind.i64 k, Value.int IntKind.i64 x, Value.int IntKind.i64 i] []) := by kernel_rfl
theorem l99_0 : LOKf Try.prog (oneL 0 S99_0.h) Try.f99 := by
  refine lokf_one (by kernel_rfl) (loop_spec ok_G1 hmix (by kernel_rfl) (lok_none _) S99_0 V99_0 B99_0 (fun (b, k, x, i) => (k - i).toNat) ?_ ?_ ?_)
  · intro vs bs s h
    simp only [S99_0] at h
    split at h
    · cases h
      exact ⟨rfl, rfl⟩
    · cases h
  · exact fun _ _ _ _ => rfl
  · intro ⟨b, k, x, i⟩ y Z hp hf
    refine (r99_0 b k x i y _).mpr ?_
    simp only [S99_0] at hp hf
    repeat' refine cond_intro (fun h => ?_) (fun h => ?_)
    · have h := of_decide_eq_true h
      simp only [Bool.and_eq_true, decide_eq_true_eq, beq_iff_eq] at hp
      have hw : IntKind.i64.wrap (i + 1) = i + 1 := w64 (by omega)
      refine ⟨(b, k, IntKind.i64.wrap (x * b), i + 1), by rw [hw]; rfl, rfl, ?_, by simp only; omega, hf⟩
      simp only [S99_0, Bool.and_eq_true, decide_eq_true_eq, beq_iff_eq]
      exact ⟨by omega, by rw [hp.2, wrap_mul, pw_succ b hp.1.1]⟩
    · have h := of_decide_eq_false h
      simp only [Bool.and_eq_true, decide_eq_true_eq, beq_iff_eq] at hp
      show Z _ _ _
      obtain rfl : i = max k 0 := by omega
      rw [hp.2]
      rcases Int.le_total k 0 with hk | hk
      · rw [show max k 0 = 0 by omega] at hp ⊢
        rw [pw_zero b hk, ← pw_zero b (Int.le_refl 0)] at hf
        rw [show max k 0 = 0 by omega] at hf
        exact hf
      · rw [show max k 0 = k by omega] at hf ⊢
        exact hf

def s99 (b : Int) (k : Int) : Bool × Value := (decide (k ≤ 1000), I (IntKind.i64.wrap (pw b k)))
theorem fn99 : Fn1 Try.prog 99 Try.f99 := ⟨Try.func99, by kernel_rfl, by kernel_rfl, by kernel_rfl⟩
theorem v99 (b : Int) (k : Int) (R : Value → Prop) : bodyR Try.prog G1 (oneL 0 S99_0.h) Try.f99 [Enc.enc b, Enc.enc k] (fun _ => none) 0 (fun v _ _ => R v) = (
    bif LSpec.pre S99_0 (b, k, 1, 0) then ∀ (x : Tmps), R (Value.int IntKind.i64 (IntKind.wrap IntKind.i64 (pw b k))) else False) := by kernel_rfl
theorem ok99 : PureOK Try.prog 99 (sp2 s99) := by
  refine pure2 ok_G1 hmix fn99 l99_0 (Nat.le_of_ble_eq_true (by kernel_rfl)) fun b k hc => ?_
  rw [Does, v99]
  have hc : (k ≤ 1000) := of_decide_eq_true hc
  refine cond_intro (fun _ _ => rfl) (fun h => ?_)
  have h1 : IntKind.i64.wrap (pw b 0) = 1 := by rw [pw_zero b (Int.le_refl 0)]; rfl
  simp only [S99_0, h1, Bool.and_eq_false_iff, decide_eq_false_iff_not, beq_eq_false_iff_ne] at h
  omega

end Go.Fx
