/-
  The helpers of the laws; sane.
-/
import Derived.Test.YthaedhabookjeaaFx10
set_option linter.unusedVariables false
set_option linter.unusedSimpArgs false
namespace Go.Fx
open Go Go.Ab Go.Proofs

def s71 (p : Int) (q : Int) : Bool × Value := (true, tv ⟨1, p, q, false, e0⟩)
theorem fn71 : Fn1 Try.prog 71 Try.f71 := ⟨Try.func71, by kernel_rfl, by kernel_rfl, by kernel_rfl⟩
theorem v71 (p : Int) (q : Int) (R : Value → Prop) : bodyR Try.prog G10 noL Try.f71 [Enc.enc p, Enc.enc q] (fun _ => none) 0 (fun v _ _ => R v) = (
    R (Value.agg (Array.mk [Value.int IntKind.i64 1, Value.int IntKind.i64 p, Value.int IntKind.i64 q, Value.bool false, Value.string (ByteArray.mk #[])]))) := by kernel_rfl
theorem ok71 : PureOK Try.prog 71 (sp2 s71) := by
  refine pure2 ok_G10 hmix fn71 lokf_none (Nat.le_of_ble_eq_true (by kernel_rfl)) fun p q hc => ?_
  rw [Does, v71]
  rfl

def s72 (p : Int) : Bool × Value := (true, tv ⟨2, p, 0, false, e0⟩)
theorem fn72 : Fn1 Try.prog 72 Try.f72 := ⟨Try.func72, by kernel_rfl, by kernel_rfl, by kernel_rfl⟩
theorem v72 (p : Int) (R : Value → Prop) : bodyR Try.prog G10 noL Try.f72 [Enc.enc p] (fun _ => none) 0 (fun v _ _ => R v) = (
    R (Value.agg (Array.mk [Value.int IntKind.i64 2, Value.int IntKind.i64 p, Value.int IntKind.i64 0, Value.bool false, Value.string (ByteArray.mk #[])]))) := by kernel_rfl
theorem ok72 : PureOK Try.prog 72 (sp1 s72) := by
  refine pure1 ok_G10 hmix fn72 lokf_none (Nat.le_of_ble_eq_true (by kernel_rfl)) fun p hc => ?_
  rw [Does, v72]
  rfl

def s55 (n : Int) : Bool × Value := (true, vv ⟨n, e0⟩)
theorem fn55 : Fn1 Try.prog 55 Try.f55 := ⟨Try.func55, by kernel_rfl, by kernel_rfl, by kernel_rfl⟩
theorem v55 (n : Int) (R : Value → Prop) : bodyR Try.prog G10 noL Try.f55 [Enc.enc n] (fun _ => none) 0 (fun v _ _ => R v) = (
    R (Value.agg (Array.mk [Value.int IntKind.i64 n, Value.string (ByteArray.mk #[])]))) := by kernel_rfl
theorem ok55 : PureOK Try.prog 55 (sp1 s55) := by
  refine pure1 ok_G10 hmix fn55 lokf_none (Nat.le_of_ble_eq_true (by kernel_rfl)) fun n hc => ?_
  rw [Does, v55]
  rfl

def G11 : Env := (((G10.add 71 (sp2 s71)).add 72 (sp1 s72)).add 55 (sp1 s55))
theorem ok_G11 : EnvOK Try.prog G11 := env_add (env_add (env_add (ok_G10) ok71) ok72) ok55

def s70 (op : Int) (x : Int) (ta : Ty) (y : Int) (tb : Ty) (w : Int) (c : Int) : Bool × Value := (true, B (decide (doE op ⟨x, e0⟩ ta ⟨y, e0⟩ tb = 0) && decide (doN op ⟨x, e0⟩ ta ⟨y, e0⟩ tb = w) && decide (doC op ⟨x, e0⟩ ta ⟨y, e0⟩ tb = c)))
theorem fn70 : Fn1 Try.prog 70 Try.f70 := ⟨Try.func70, by kernel_rfl, by kernel_rfl, by kernel_rfl⟩
theorem v70 (op : Int) (x : Int) (ta : Ty) (y : Int) (tb : Ty) (w : Int) (c : Int) (R : Value → Prop) : bodyR Try.prog G11 noL Try.f70 [Enc.enc op, Enc.enc x, Enc.enc ta, Enc.enc y, Enc.enc tb, Enc.enc w, Enc.enc c] (fun _ => none) 0 (fun v _ _ => R v) = (
    bif doE op (Vl.mk x e0) ta (Vl.mk y e0) tb == 0 then
      bif doN op (Vl.mk x e0) ta (Vl.mk y e0) tb == w && (ByteArray.toList e0 == ByteArray.toList e0 && true) then R (Value.bool (doC op (Vl.mk x e0) ta (Vl.mk y e0) tb == c))
      else R (Value.bool false)
    else R (Value.bool false)) := by kernel_rfl
theorem ok70 : PureOK Try.prog 70 (sp7 s70) := by
  refine pure7 ok_G11 hmix fn70 lokf_none (Nat.le_of_ble_eq_true (by kernel_rfl)) fun op x ta y tb w c hc => ?_
  rw [Does, v70]
  repeat' first | refine And.intro ?_ ?_ | refine cond_intro (fun h => ?_) (fun h => ?_)
  all_goals grind (splits := 40) [s70, e0]

def G12 : Env := (G11.add 70 (sp7 s70))
theorem ok_G12 : EnvOK Try.prog G12 := env_add (ok_G11) ok70

def G13 : Env := G12.addG 93 (inl Try.prog G12 noL Try.f93)
theorem fn93 : Fn1 Try.prog 93 Try.f93 := ⟨Try.func93, by kernel_rfl, by kernel_rfl, by kernel_rfl⟩
theorem ok_G13 : EnvOK Try.prog G13 := env_addG ok_G12 (gen_inl ok_G12 hmix fn93 lokf_none)

def G14 : Env := G13.addG 37 (inl Try.prog G13 noL Try.f37)
theorem fn37 : Fn1 Try.prog 37 Try.f37 := ⟨Try.func37, by kernel_rfl, by kernel_rfl, by kernel_rfl⟩
theorem ok_G14 : EnvOK Try.prog G14 := env_addG ok_G13 (gen_inl ok_G13 hmix fn37 lokf_none)

def G15 : Env := G14.addG 51 (inl Try.prog G14 noL Try.f51)
theorem fn51 : Fn1 Try.prog 51 Try.f51 := ⟨Try.func51, by kernel_rfl, by kernel_rfl, by kernel_rfl⟩
theorem ok_G15 : EnvOK Try.prog G15 := env_addG ok_G14 (gen_inl ok_G14 hmix fn51 lokf_none)

def s20 : Bool × Value := (true, B true)
theorem fn20 : Fn1 Try.prog 20 Try.f20 := ⟨Try.func20, by kernel_rfl, by kernel_rfl, by kernel_rfl⟩
theorem v20  (R : Value → Prop) : bodyR Try.prog G15 noL Try.f20 [] (fun _ => none) 0 (fun v _ _ => R v) = (
    R (Value.bool true)) := by kernel_rfl
theorem ok20 : PureOK Try.prog 20 (sp0 s20) := by
  refine pure0 ok_G15 hmix fn20 lokf_none fun hc => ?_
  rw [Does, v20]
  rfl

def G16 : Env := (G12.add 20 (sp0 s20))
theorem ok_G16 : EnvOK Try.prog G16 := env_add (ok_G12) ok20

end Go.Fx
