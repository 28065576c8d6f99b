/-
  The small functions.
-/
import Derived.Test.YthaedhabookjeaaFx2
set_option linter.unusedVariables false
set_option linter.unusedSimpArgs false
namespace Go.Fx
open Go Go.Ab Go.Proofs

def G0 : Env := Env.nil

theorem ok_G0 : EnvOK Try.prog G0 := env_nil

def s73 (k : Int) : Bool × Value := (true, I (most k))
theorem fn73 : Fn1 Try.prog 73 Try.f73 := ⟨Try.func73, by kernel_rfl, by kernel_rfl, by kernel_rfl⟩
theorem v73 (k : Int) (R : Value → Prop) : bodyR Try.prog G0 noL Try.f73 [Enc.enc k] (fun _ => none) 0 (fun v _ _ => R v) = (
    bif k == 1 then R (Value.int IntKind.i64 9) else R (Value.int IntKind.i64 31)) := by kernel_rfl
theorem ok73 : PureOK Try.prog 73 (sp1 s73) := by
  refine pure1 ok_G0 hmix fn73 lokf_none (Nat.le_of_ble_eq_true (by kernel_rfl)) fun k hc => ?_
  rw [Does, v73]
  repeat' refine cond_intro (fun h => ?_) (fun h => ?_)
  all_goals grind [s73, most]

def s84 (k : Int) : Bool × Value := (true, I (most k))
theorem fn84 : Fn1 Try.prog 84 Try.f84 := ⟨Try.func84, by kernel_rfl, by kernel_rfl, by kernel_rfl⟩
theorem v84 (k : Int) (R : Value → Prop) : bodyR Try.prog G0 noL Try.f84 [Enc.enc k] (fun _ => none) 0 (fun v _ _ => R v) = (
    bif k == 1 then R (Value.int IntKind.i64 9) else R (Value.int IntKind.i64 31)) := by kernel_rfl
theorem ok84 : PureOK Try.prog 84 (sp1 s84) := by
  refine pure1 ok_G0 hmix fn84 lokf_none (Nat.le_of_ble_eq_true (by kernel_rfl)) fun k hc => ?_
  rw [Does, v84]
  repeat' refine cond_intro (fun h => ?_) (fun h => ?_)
  all_goals grind [s84, most]

def s105 (k : Int) : Bool × Value := (true, I (base k))
theorem fn105 : Fn1 Try.prog 105 Try.f105 := ⟨Try.func105, by kernel_rfl, by kernel_rfl, by kernel_rfl⟩
theorem v105 (k : Int) (R : Value → Prop) : bodyR Try.prog G0 noL Try.f105 [Enc.enc k] (fun _ => none) 0 (fun v _ _ => R v) = (
    bif k == 1 then R (Value.int IntKind.i64 10) else R (Value.int IntKind.i64 2)) := by kernel_rfl
theorem ok105 : PureOK Try.prog 105 (sp1 s105) := by
  refine pure1 ok_G0 hmix fn105 lokf_none (Nat.le_of_ble_eq_true (by kernel_rfl)) fun k hc => ?_
  rw [Does, v105]
  repeat' refine cond_intro (fun h => ?_) (fun h => ?_)
  all_goals grind [s105, base]

def s86 : Bool × Value := (true, .agg ⟨tensL⟩)
theorem fn86 : Fn1 Try.prog 86 Try.f86 := ⟨Try.func86, by kernel_rfl, by kernel_rfl, by kernel_rfl⟩
theorem v86  (R : Value → Prop) : bodyR Try.prog G0 noL Try.f86 [] (fun _ => none) 0 (fun v _ _ => R v) = (
    R (.agg ⟨tensL⟩)) := by kernel_rfl
theorem ok86 : PureOK Try.prog 86 (sp0 s86) := by
  refine pure0 ok_G0 hmix fn86 lokf_none fun hc => ?_
  rw [Does, v86]
  rfl

def s81 (op : Int) : Bool × Value := (true, B (unary op))
theorem fn81 : Fn1 Try.prog 81 Try.f81 := ⟨Try.func81, by kernel_rfl, by kernel_rfl, by kernel_rfl⟩
theorem v81 (op : Int) (R : Value → Prop) : bodyR Try.prog G0 noL Try.f81 [Enc.enc op] (fun _ => none) 0 (fun v _ _ => R v) = (
    bif op == 5 then R (Value.bool true) else R (Value.bool (op == 11))) := by kernel_rfl
theorem ok81 : PureOK Try.prog 81 (sp1 s81) := by
  refine pure1 ok_G0 hmix fn81 lokf_none (Nat.le_of_ble_eq_true (by kernel_rfl)) fun op hc => ?_
  rw [Does, v81]
  repeat' refine cond_intro (fun h => ?_) (fun h => ?_)
  all_goals grind [s81, unary]

def s80 (op : Int) : Bool × Value := (true, B (isOp op))
theorem fn80 : Fn1 Try.prog 80 Try.f80 := ⟨Try.func80, by kernel_rfl, by kernel_rfl, by kernel_rfl⟩
theorem v80 (op : Int) (R : Value → Prop) : bodyR Try.prog G0 noL Try.f80 [Enc.enc op] (fun _ => none) 0 (fun v _ _ => R v) = (
    bif decide (op ≥ 5) then R (Value.bool (decide (op ≤ 13))) else R (Value.bool false)) := by kernel_rfl
theorem ok80 : PureOK Try.prog 80 (sp1 s80) := by
  refine pure1 ok_G0 hmix fn80 lokf_none (Nat.le_of_ble_eq_true (by kernel_rfl)) fun op hc => ?_
  rw [Does, v80]
  repeat' refine cond_intro (fun h => ?_) (fun h => ?_)
  all_goals grind [s80, isOp]

def s76 (op : Int) : Bool × Value := (true, tup [B (isOp op), B (unary op)])
theorem fn76 : Fn1 Try.prog 76 Try.f76 := ⟨Try.func76, by kernel_rfl, by kernel_rfl, by kernel_rfl⟩
theorem v76 (op : Int) (R : Value → Prop) : bodyR Try.prog G0 noL Try.f76 [Enc.enc op] (fun _ => none) 0 (fun v _ _ => R v) = (
    bif op == 5 then R (Value.tuple (Array.mk [Value.bool true, Value.bool true]))
    else
      bif op == 11 then R (Value.tuple (Array.mk [Value.bool true, Value.bool true]))
      else
        bif op == 6 then R (Value.tuple (Array.mk [Value.bool true, Value.bool false]))
        else
          bif op == 7 then R (Value.tuple (Array.mk [Value.bool true, Value.bool false]))
          else
            bif op == 8 then R (Value.tuple (Array.mk [Value.bool true, Value.bool false]))
            else
              bif op == 9 then R (Value.tuple (Array.mk [Value.bool true, Value.bool false]))
              else
                bif op == 10 then R (Value.tuple (Array.mk [Value.bool true, Value.bool false]))
                else
                  bif op == 12 then R (Value.tuple (Array.mk [Value.bool true, Value.bool false]))
                  else bif op == 13 then R (Value.tuple (Array.mk [Value.bool true, Value.bool false])) else R (Value.tuple (Array.mk [Value.bool false, Value.bool false]))) := by kernel_rfl
theorem ok76 : PureOK Try.prog 76 (sp1 s76) := by
  refine pure1 ok_G0 hmix fn76 lokf_none (Nat.le_of_ble_eq_true (by kernel_rfl)) fun op hc => ?_
  rw [Does, v76]
  repeat' refine cond_intro (fun h => ?_) (fun h => ?_)
  all_goals grind [s76, unary, isOp]

def G1 : Env := (((((((G0.add 73 (sp1 s73)).add 84 (sp1 s84)).add 105 (sp1 s105)).add 86 (sp0 s86)).add 81 (sp1 s81)).add 80 (sp1 s80)).add 76 (sp1 s76))
theorem ok_G1 : EnvOK Try.prog G1 := env_add (env_add (env_add (env_add (env_add (env_add (env_add (ok_G0) ok73) ok84) ok105) ok86) ok81) ok80) ok76

def s21 (t : Ty) : Bool × Value := (true, I (check t))
theorem fn21 : Fn1 Try.prog 21 Try.f21 := ⟨Try.func21, by kernel_rfl, by kernel_rfl, by kernel_rfl⟩
theorem v21 (t : Ty) (R : Value → Prop) : bodyR Try.prog G1 noL Try.f21 [Enc.enc t] (fun _ => none) 0 (fun v _ _ => R v) = (
    bif !Ty.k t == 1 then
      bif !Ty.k t == 2 then R (Value.int IntKind.i64 5)
      else
        bif decide (Ty.p t < 1) then R (Value.int IntKind.i64 5)
        else
          bif decide (Ty.p t > most (Ty.k t)) then R (Value.int IntKind.i64 5)
          else
            bif decide (Ty.q t < 0) then R (Value.int IntKind.i64 5)
            else
              bif decide (Ty.q t > Ty.p t) then R (Value.int IntKind.i64 5)
              else
                bif Ty.k t == 2 then
                  bif Ty.q t != 0 then R (Value.int IntKind.i64 5)
                  else
                    bif Ty.v t then R (Value.int IntKind.i64 5)
                    else bif !ByteArray.toList (Ty.s t) == ByteArray.toList (ByteArray.mk #[]) then R (Value.int IntKind.i64 5) else R (Value.int IntKind.i64 0)
                else
                  bif Ty.v t then R (Value.int IntKind.i64 5)
                  else bif !ByteArray.toList (Ty.s t) == ByteArray.toList (ByteArray.mk #[]) then R (Value.int IntKind.i64 5) else R (Value.int IntKind.i64 0)
    else
      bif decide (Ty.p t < 1) then R (Value.int IntKind.i64 5)
      else
        bif decide (Ty.p t > most (Ty.k t)) then R (Value.int IntKind.i64 5)
        else
          bif decide (Ty.q t < 0) then R (Value.int IntKind.i64 5)
          else
            bif decide (Ty.q t > Ty.p t) then R (Value.int IntKind.i64 5)
            else
              bif Ty.k t == 2 then
                bif Ty.q t != 0 then R (Value.int IntKind.i64 5)
                else
                  bif Ty.v t then R (Value.int IntKind.i64 5)
                  else bif !ByteArray.toList (Ty.s t) == ByteArray.toList (ByteArray.mk #[]) then R (Value.int IntKind.i64 5) else R (Value.int IntKind.i64 0)
              else
                bif Ty.v t then R (Value.int IntKind.i64 5)
                else bif !ByteArray.toList (Ty.s t) == ByteArray.toList (ByteArray.mk #[]) then R (Value.int IntKind.i64 5) else R (Value.int IntKind.i64 0)) := by kernel_rfl
theorem ok21 : PureOK Try.prog 21 (sp1 s21) := by
  refine pure1 ok_G1 hmix fn21 lokf_none (Nat.le_of_ble_eq_true (by kernel_rfl)) fun t hc => ?_
  rw [Does, v21]
  repeat' refine cond_intro (fun h => ?_) (fun h => ?_)
  all_goals grind [s21, check, Valid, str0]

def s22 (t : Ty) : Bool × Value := (true, I (check t))
theorem fn22 : Fn1 Try.prog 22 Try.f22 := ⟨Try.func22, by kernel_rfl, by kernel_rfl, by kernel_rfl⟩
theorem v22 (t : Ty) (R : Value → Prop) : bodyR Try.prog G1 noL Try.f22 [Enc.enc t] (fun _ => none) 0 (fun v _ _ => R v) = (
    bif Ty.v t then R (Value.int IntKind.i64 5)
    else
      bif !ByteArray.toList (Ty.s t) == ByteArray.toList (ByteArray.mk #[]) then R (Value.int IntKind.i64 5)
      else
        bif Ty.k t == 1 then
          bif decide (Ty.p t ≥ 1) then
            bif decide (Ty.p t ≤ 9) then
              bif decide (Ty.q t ≥ 0) then
                bif decide (Ty.q t ≤ Ty.p t) then R (Value.int IntKind.i64 0)
                else
                  bif Ty.k t == 2 then
                    bif decide (Ty.p t ≥ 1) then
                      bif decide (Ty.p t ≤ 31) then bif Ty.q t == 0 then R (Value.int IntKind.i64 0) else R (Value.int IntKind.i64 5) else R (Value.int IntKind.i64 5)
                    else R (Value.int IntKind.i64 5)
                  else R (Value.int IntKind.i64 5)
              else
                bif Ty.k t == 2 then
                  bif decide (Ty.p t ≥ 1) then
                    bif decide (Ty.p t ≤ 31) then bif Ty.q t == 0 then R (Value.int IntKind.i64 0) else R (Value.int IntKind.i64 5) else R (Value.int IntKind.i64 5)
                  else R (Value.int IntKind.i64 5)
                else R (Value.int IntKind.i64 5)
            else
              bif Ty.k t == 2 then
                bif decide (Ty.p t ≥ 1) then
                  bif decide (Ty.p t ≤ 31) then bif Ty.q t == 0 then R (Value.int IntKind.i64 0) else R (Value.int IntKind.i64 5) else R (Value.int IntKind.i64 5)
                else R (Value.int IntKind.i64 5)
              else R (Value.int IntKind.i64 5)
          else
            bif Ty.k t == 2 then
              bif decide (Ty.p t ≥ 1) then
                bif decide (Ty.p t ≤ 31) then bif Ty.q t == 0 then R (Value.int IntKind.i64 0) else R (Value.int IntKind.i64 5) else R (Value.int IntKind.i64 5)
              else R (Value.int IntKind.i64 5)
            else R (Value.int IntKind.i64 5)
        else
          bif Ty.k t == 2 then
            bif decide (Ty.p t ≥ 1) then
              bif decide (Ty.p t ≤ 31) then bif Ty.q t == 0 then R (Value.int IntKind.i64 0) else R (Value.int IntKind.i64 5) else R (Value.int IntKind.i64 5)
            else R (Value.int IntKind.i64 5)
          else R (Value.int IntKind.i64 5)) := by kernel_rfl
theorem ok22 : PureOK Try.prog 22 (sp1 s22) := by
  refine pure1 ok_G1 hmix fn22 lokf_none (Nat.le_of_ble_eq_true (by kernel_rfl)) fun t hc => ?_
  rw [Does, v22]
  repeat' refine cond_intro (fun h => ?_) (fun h => ?_)
  all_goals grind [s22, check, Valid, str0, most]

end Go.Fx
