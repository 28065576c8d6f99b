/-
  The laws that compare with the reference.
-/
import Derived.Test.YthaedhabookjeaaFx12
set_option linter.unusedVariables false
set_option linter.unusedSimpArgs false
namespace Go.Fx
open Go Go.Ab Go.Proofs

def s3 (a : Ty) (b : Ty) (op : Int) (k : Int) (v : Vl) : Bool × Value := (true, B true)
theorem fn3 : Fn1 Try.prog 3 Try.f3 := ⟨Try.func3, by kernel_rfl, by kernel_rfl, by kernel_rfl⟩
theorem v3 (a : Ty) (b : Ty) (op : Int) (k : Int) (v : Vl) (R : Value → Prop) : bodyR Try.prog G16 noL Try.f3 [Enc.enc a, Enc.enc b, Enc.enc op, Enc.enc k, Enc.enc v] (fun _ => none) 0 (fun v _ _ => R v) = (
    bif check a != check a then R (Value.bool false)
    else
      bif fits v a != fits v a then R (Value.bool false)
      else
        bif
            !(Ty.k (binT a) == Ty.k (binT a) &&
                (Ty.p (binT a) == Ty.p (binT a) &&
                  (Ty.q (binT a) == Ty.q (binT a) && (Ty.v (binT a) == Ty.v (binT a) && (ByteArray.toList (Ty.s (binT a)) == ByteArray.toList (Ty.s (binT a)) && true))))) then
          R (Value.bool false)
        else
          bif check a != check a then R (Value.bool false)
          else
            bif
                !(Ty.k (resT op a b) == Ty.k (resT op a b) &&
                    (Ty.p (resT op a b) == Ty.p (resT op a b) &&
                      (Ty.q (resT op a b) == Ty.q (resT op a b) &&
                        (Ty.v (resT op a b) == Ty.v (resT op a b) && (ByteArray.toList (Ty.s (resT op a b)) == ByteArray.toList (Ty.s (resT op a b)) && true))))) then
              R (Value.bool false)
            else
              bif resE op a b != resE op a b then R (Value.bool false)
              else
                bif
                    !(Ty.k (rdT a k) == Ty.k (rdT a k) &&
                        (Ty.p (rdT a k) == Ty.p (rdT a k) &&
                          (Ty.q (rdT a k) == Ty.q (rdT a k) &&
                            (Ty.v (rdT a k) == Ty.v (rdT a k) && (ByteArray.toList (Ty.s (rdT a k)) == ByteArray.toList (Ty.s (rdT a k)) && true))))) then
                  R (Value.bool false)
                else
                  bif rdE a k != rdE a k then R (Value.bool false)
                  else
                    bif
                        !(Ty.k (whT a) == Ty.k (whT a) &&
                            (Ty.p (whT a) == Ty.p (whT a) &&
                              (Ty.q (whT a) == Ty.q (whT a) && (Ty.v (whT a) == Ty.v (whT a) && (ByteArray.toList (Ty.s (whT a)) == ByteArray.toList (Ty.s (whT a)) && true))))) then
                      R (Value.bool false)
                    else
                      bif check a != check a then R (Value.bool false)
                      else
                        bif
                            Ty.k (totT a) == Ty.k (totT a) &&
                              (Ty.p (totT a) == Ty.p (totT a) &&
                                (Ty.q (totT a) == Ty.q (totT a) &&
                                  (Ty.v (totT a) == Ty.v (totT a) && (ByteArray.toList (Ty.s (totT a)) == ByteArray.toList (Ty.s (totT a)) && true)))) then
                          R (Value.bool (check a == check a))
                        else R (Value.bool false)) := by kernel_rfl
theorem ok3 : PureOK Try.prog 3 (sp5 s3) := by
  refine pure5 ok_G16 hmix fn3 lokf_none (Nat.le_of_ble_eq_true (by kernel_rfl)) fun a b op k v hc => ?_
  rw [Does, v3]
  simp [s3]

def s4 (op : Int) (a : Vl) (ta : Ty) (b : Vl) (tb : Ty) : Bool × Value := (true, B true)
theorem fn4 : Fn1 Try.prog 4 Try.f4 := ⟨Try.func4, by kernel_rfl, by kernel_rfl, by kernel_rfl⟩
theorem v4 (op : Int) (a : Vl) (ta : Ty) (b : Vl) (tb : Ty) (R : Value → Prop) : bodyR Try.prog G16 noL Try.f4 [Enc.enc op, Enc.enc a, Enc.enc ta, Enc.enc b, Enc.enc tb] (fun _ => none) 0 (fun v _ _ => R v) = (
    bif doN op a ta b tb == doN op a ta b tb && (ByteArray.toList e0 == ByteArray.toList e0 && true) then
      bif doC op a ta b tb == doC op a ta b tb then R (Value.bool (doE op a ta b tb == doE op a ta b tb)) else R (Value.bool false)
    else R (Value.bool false)) := by kernel_rfl
theorem ok4 : PureOK Try.prog 4 (sp5 s4) := by
  refine pure5 ok_G16 hmix fn4 lokf_none (Nat.le_of_ble_eq_true (by kernel_rfl)) fun op a ta b tb hc => ?_
  rw [Does, v4]
  simp [s4]

def s6 (a : Vl) (ta : Ty) (b : Vl) (tb : Ty) : Bool × Value := (true, B true)
theorem fn6 : Fn1 Try.prog 6 Try.f6 := ⟨Try.func6, by kernel_rfl, by kernel_rfl, by kernel_rfl⟩
theorem v6 (a : Vl) (ta : Ty) (b : Vl) (tb : Ty) (R : Value → Prop) : bodyR Try.prog G16 noL Try.f6 [Enc.enc a, Enc.enc ta, Enc.enc b, Enc.enc tb] (fun _ => none) 0 (fun v _ _ => R v) = (
    bif cmN a ta b tb == cmN a ta b tb then
      bif cmE a ta b tb == cmE a ta b tb then
        bif asN a ta tb == asN a ta tb && (ByteArray.toList e0 == ByteArray.toList e0 && true) then
          bif asC a ta tb == asC a ta tb then R (Value.bool (asE a ta tb == asE a ta tb)) else R (Value.bool false)
        else R (Value.bool false)
      else R (Value.bool false)
    else R (Value.bool false)) := by kernel_rfl
theorem ok6 : PureOK Try.prog 6 (sp4 s6) := by
  refine pure4 ok_G16 hmix fn6 lokf_none (Nat.le_of_ble_eq_true (by kernel_rfl)) fun a ta b tb hc => ?_
  rw [Does, v6]
  simp [s6]

def s7 (v : Vl) (t : Ty) (k : Int) : Bool × Value := (true, B true)
theorem fn7 : Fn1 Try.prog 7 Try.f7 := ⟨Try.func7, by kernel_rfl, by kernel_rfl, by kernel_rfl⟩
theorem v7 (v : Vl) (t : Ty) (k : Int) (R : Value → Prop) : bodyR Try.prog G16 noL Try.f7 [Enc.enc v, Enc.enc t, Enc.enc k] (fun _ => none) 0 (fun v _ _ => R v) = (
    bif !(rnN v t k == rnN v t k && (ByteArray.toList e0 == ByteArray.toList e0 && true)) then R (Value.bool false)
    else
      bif rnE v t k != rnE v t k then R (Value.bool false)
      else
        bif !(flN v t == flN v t && (ByteArray.toList e0 == ByteArray.toList e0 && true)) then R (Value.bool false)
        else
          bif fits v t != fits v t then R (Value.bool false)
          else
            bif !(ceN v t == ceN v t && (ByteArray.toList e0 == ByteArray.toList e0 && true)) then R (Value.bool false)
            else
              bif fits v t != fits v t then R (Value.bool false)
              else bif trN v t == trN v t && (ByteArray.toList e0 == ByteArray.toList e0 && true) then R (Value.bool (fits v t == fits v t)) else R (Value.bool false)) := by kernel_rfl
theorem ok7 : PureOK Try.prog 7 (sp3 s7) := by
  refine pure3 ok_G16 hmix fn7 lokf_none (Nat.le_of_ble_eq_true (by kernel_rfl)) fun v t k hc => ?_
  rw [Does, v7]
  simp [s7]

end Go.Fx
