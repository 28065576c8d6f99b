/-
  The law of Into.
-/
import Derived.Test.YthaedhabookjeaaFx28
set_option linter.unusedVariables false
set_option linter.unusedSimpArgs false
namespace Go.Fx
open Go Go.Ab Go.Proofs

def s5 (op : Int) (a : Vl) (ta : Ty) (b : Vl) (tb : Ty) (to : Ty) : Bool × Value := (true, B true)
theorem fn5 : Fn1 Try.prog 5 Try.f5 := ⟨Try.func5, by kernel_rfl, by kernel_rfl, by kernel_rfl⟩
theorem v5 (op : Int) (a : Vl) (ta : Ty) (b : Vl) (tb : Ty) (to : Ty) (R : Value → Prop) : bodyR Try.prog G21 noL Try.f5 [Enc.enc op, Enc.enc a, Enc.enc ta, Enc.enc b, Enc.enc tb, Enc.enc to] (fun _ => none) 0 (fun v _ _ => R v) = (
    bif inN op a ta b tb to == inN op a ta b tb to && (ByteArray.toList e0 == ByteArray.toList e0 && true) then
      bif inC op a ta b tb to == inC op a ta b tb to then R (Value.bool (inE op a ta b tb to == inE op a ta b tb to)) else R (Value.bool false)
    else R (Value.bool false)) := by kernel_rfl
theorem ok5 : PureOK Try.prog 5 (sp6 s5) := by
  refine pure6 ok_G21 hmix fn5 lokf_none (Nat.le_of_ble_eq_true (by kernel_rfl)) fun op a ta b tb to hc => ?_
  rw [Does, v5]
  simp [s5]

end Go.Fx
