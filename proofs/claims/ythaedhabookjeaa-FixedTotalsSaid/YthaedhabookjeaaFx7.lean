/-
  Types of results; operands; quotients.
-/
import Derived.Test.YthaedhabookjeaaFx6
set_option linter.unusedVariables false
set_option linter.unusedSimpArgs false
namespace Go.Fx
open Go Go.Ab Go.Proofs

def s25 (t : Ty) : Bool × Value := (true, tup [tv (binT t), I (check t)])
theorem fn25 : Fn1 Try.prog 25 Try.f25 := ⟨Try.func25, by kernel_rfl, by kernel_rfl, by kernel_rfl⟩
theorem v25 (t : Ty) (R : Value → Prop) : bodyR Try.prog G4 noL Try.f25 [Enc.enc t] (fun _ => none) 0 (fun v _ _ => R v) = (
    bif check t != 0 then
      R
        (Value.tuple
          (Array.mk
            [Value.agg (Array.mk [Value.int IntKind.i64 0, Value.int IntKind.i64 0, Value.int IntKind.i64 0, Value.bool false, Value.string (ByteArray.mk #[])]),
              Value.int IntKind.i64 (check t)]))
    else
      bif Ty.k t == 2 then
        R
          (Value.tuple
            (Array.mk
              [Value.agg (Array.mk [Value.int IntKind.i64 (Ty.k t), Value.int IntKind.i64 (Ty.p t), Value.int IntKind.i64 (Ty.q t), Value.bool (Ty.v t), Value.string (Ty.s t)]),
                Value.int IntKind.i64 0]))
      else
        bif decide (0 ≤ IntKind.wrap IntKind.i64 (Ty.p t - 1) ∧ IntKind.wrap IntKind.i64 (Ty.p t - 1) < 9) then
          bif
              isIntAt IntKind.i64
                [Value.int IntKind.i64 5, Value.int IntKind.i64 8, Value.int IntKind.i64 11, Value.int IntKind.i64 15, Value.int IntKind.i64 18, Value.int IntKind.i64 21,
                  Value.int IntKind.i64 25, Value.int IntKind.i64 28, Value.int IntKind.i64 31]
                (0 + Int.toNat (IntKind.wrap IntKind.i64 (Ty.p t - 1)) * 1) then
            R
              (Value.tuple
                (Array.mk
                  [Value.agg
                      (Array.mk
                        [Value.int IntKind.i64 2,
                          Value.int IntKind.i64
                            (intAt
                              [Value.int IntKind.i64 5, Value.int IntKind.i64 8, Value.int IntKind.i64 11, Value.int IntKind.i64 15, Value.int IntKind.i64 18, Value.int IntKind.i64 21,
                                Value.int IntKind.i64 25, Value.int IntKind.i64 28, Value.int IntKind.i64 31]
                              (0 + Int.toNat (IntKind.wrap IntKind.i64 (Ty.p t - 1)) * 1)),
                          Value.int IntKind.i64 0, Value.bool false, Value.string (ByteArray.mk #[])]),
                    Value.int IntKind.i64 0]))
          else False
        else False) := by kernel_rfl
theorem ok25 : PureOK Try.prog 25 (sp1 s25) := by
  refine pure1 ok_G4 hmix fn25 lokf_none (Nat.le_of_ble_eq_true (by kernel_rfl)) fun t hc => ?_
  rw [Does, v25]
  by_cases hv : Valid t
  · have rv := valid_r hv
    rw [w64 (by omega)]
    simp only [Nat.zero_add, Nat.mul_one]
    by_cases hk : t.k = 2
    · have hs : (s25 t).2 = tup [tv t, I 0] := by simp [s25, binT, hv, hk, check]
      rw [hs]
      grind [check]
    · have hp : t.p ≤ 9 := by grind [Valid, most]
      have ht := bin_tab (t.p - 1).toNat (by omega)
      have e1 : (((t.p - 1).toNat : Nat) : Int) = t.p - 1 := by omega
      rw [ht.1, ht.2, e1, Int.sub_add_cancel]
      have hs : (s25 t).2 = tup [tv ⟨2, 1 + (t.p * 332 + 99) / 100, 0, false, e0⟩, I 0] := by simp [s25, binT, hv, hk, check]
      rw [hs]
      grind [check, e0]
  · grind [s25, check, binT, T0]

def s26 (t : Ty) : Bool × Value := (true, tup [tv (binT t), I (check t)])
theorem fn26 : Fn1 Try.prog 26 Try.f26 := ⟨Try.func26, by kernel_rfl, by kernel_rfl, by kernel_rfl⟩
theorem v26 (t : Ty) (R : Value → Prop) : bodyR Try.prog G4 noL Try.f26 [Enc.enc t] (fun _ => none) 0 (fun v _ _ => R v) = (
    bif check t != 0 then
      R
        (Value.tuple
          (Array.mk
            [Value.agg (Array.mk [Value.int IntKind.i64 0, Value.int IntKind.i64 0, Value.int IntKind.i64 0, Value.bool false, Value.string (ByteArray.mk #[])]),
              Value.int IntKind.i64 (check t)]))
    else
      bif Ty.k t == 2 then
        R
          (Value.tuple
            (Array.mk
              [Value.agg (Array.mk [Value.int IntKind.i64 (Ty.k t), Value.int IntKind.i64 (Ty.p t), Value.int IntKind.i64 (Ty.q t), Value.bool (Ty.v t), Value.string (Ty.s t)]),
                Value.int IntKind.i64 0]))
      else
        R
          (Value.tuple
            (Array.mk
              [Value.agg
                  (Array.mk
                    [Value.int IntKind.i64 2,
                      Value.int IntKind.i64
                        (IntKind.wrap IntKind.i64 (1 + IntKind.wrap IntKind.i64 (Int.tdiv (IntKind.wrap IntKind.i64 (IntKind.wrap IntKind.i64 (Ty.p t * 332) + 99)) 100))),
                      Value.int IntKind.i64 0, Value.bool false, Value.string (ByteArray.mk #[])]),
                Value.int IntKind.i64 0]))) := by kernel_rfl
theorem ok26 : PureOK Try.prog 26 (sp1 s26) := by
  refine pure1 ok_G4 hmix fn26 lokf_none (Nat.le_of_ble_eq_true (by kernel_rfl)) fun t hc => ?_
  rw [Does, v26]
  by_cases hv : Valid t
  · have rv := valid_r hv
    by_cases hk : t.k = 2
    · have hs : (s26 t).2 = tup [tv t, I 0] := by simp [s26, binT, hv, hk, check]
      rw [hs]
      grind [check]
    · have hs : (s26 t).2 = tup [tv ⟨2, 1 + (t.p * 332 + 99) / 100, 0, false, e0⟩, I 0] := by simp [s26, binT, hv, hk, check]
      rw [hs, show (t.p * 332 + 99) / 100 = (t.p * 332 + 99).tdiv 100 from (Int.tdiv_eq_ediv_of_nonneg (by omega)).symm]
      have q1 := Int.tdiv_eq_ediv_of_nonneg (a := t.p * 332 + 99) (b := 100) (by omega)
      rw [w64 (n := t.p * 332) (by omega), w64 (n := t.p * 332 + 99) (by omega), w64 (n := (t.p * 332 + 99).tdiv 100) (by omega), w64 (n := 1 + (t.p * 332 + 99).tdiv 100) (by omega)]
      grind [check, e0]
  · grind [s26, check, binT, T0]

def s27 (op : Int) (a : Ty) (b : Ty) : Bool × Value := (true, tup [tv (resT op a b), I (resE op a b)])
theorem fn27 : Fn1 Try.prog 27 Try.f27 := ⟨Try.func27, by kernel_rfl, by kernel_rfl, by kernel_rfl⟩
theorem v27 (op : Int) (a : Ty) (b : Ty) (R : Value → Prop) : bodyR Try.prog G4 noL Try.f27 [Enc.enc op, Enc.enc a, Enc.enc b] (fun _ => none) 0 (fun v _ _ => R v) = (
    bif !isOp op then
      R
        (Value.tuple
          (Array.mk
            [Value.agg (Array.mk [Value.int IntKind.i64 0, Value.int IntKind.i64 0, Value.int IntKind.i64 0, Value.bool false, Value.string (ByteArray.mk #[])]),
              Value.int IntKind.i64 1]))
    else
      bif unary op then
        bif fst3 (check a) (check a) (same1 a a) != 0 then
          R
            (Value.tuple
              (Array.mk
                [Value.agg (Array.mk [Value.int IntKind.i64 0, Value.int IntKind.i64 0, Value.int IntKind.i64 0, Value.bool false, Value.string (ByteArray.mk #[])]),
                  Value.int IntKind.i64 (fst3 (check a) (check a) (same1 a a))]))
        else
          bif decide (Valid a ∧ Valid a ∧ isOp op = true) then
            R
              (Value.tuple
                (Array.mk
                  [Value.agg
                      (Array.mk
                        [Value.int IntKind.i64 (Ty.k (rty op a a)), Value.int IntKind.i64 (Ty.p (rty op a a)), Value.int IntKind.i64 (Ty.q (rty op a a)),
                          Value.bool (Ty.v (rty op a a)), Value.string (Ty.s (rty op a a))]),
                    Value.int IntKind.i64 0]))
          else False
      else
        bif fst3 (check a) (check b) (same1 a b) != 0 then
          R
            (Value.tuple
              (Array.mk
                [Value.agg (Array.mk [Value.int IntKind.i64 0, Value.int IntKind.i64 0, Value.int IntKind.i64 0, Value.bool false, Value.string (ByteArray.mk #[])]),
                  Value.int IntKind.i64 (fst3 (check a) (check b) (same1 a b))]))
        else
          bif decide (Valid a ∧ Valid b ∧ isOp op = true) then
            R
              (Value.tuple
                (Array.mk
                  [Value.agg
                      (Array.mk
                        [Value.int IntKind.i64 (Ty.k (rty op a b)), Value.int IntKind.i64 (Ty.p (rty op a b)), Value.int IntKind.i64 (Ty.q (rty op a b)),
                          Value.bool (Ty.v (rty op a b)), Value.string (Ty.s (rty op a b))]),
                    Value.int IntKind.i64 0]))
          else False) := by kernel_rfl
theorem ok27 : PureOK Try.prog 27 (sp3 s27) := by
  refine pure3 ok_G4 hmix fn27 lokf_none (Nat.le_of_ble_eq_true (by kernel_rfl)) fun op a b hc => ?_
  rw [Does, v27]
  repeat' refine cond_intro (fun h => ?_) (fun h => ?_)
  all_goals grind (splits := 40) [s27, s21, s79, check, resT, resE, fst3, same1, T0, e0, isOp, unary]

def s28 (op : Int) (a : Ty) (b : Ty) : Bool × Value := (true, tup [tv (resT op a b), I (resE op a b)])
theorem fn28 : Fn1 Try.prog 28 Try.f28 := ⟨Try.func28, by kernel_rfl, by kernel_rfl, by kernel_rfl⟩
theorem v28 (op : Int) (a : Ty) (b : Ty) (R : Value → Prop) : bodyR Try.prog G4 noL Try.f28 [Enc.enc op, Enc.enc a, Enc.enc b] (fun _ => none) 0 (fun v _ _ => R v) = (
    bif !isOp op then
      R
        (Value.tuple
          (Array.mk
            [Value.agg (Array.mk [Value.int IntKind.i64 0, Value.int IntKind.i64 0, Value.int IntKind.i64 0, Value.bool false, Value.string (ByteArray.mk #[])]),
              Value.int IntKind.i64 1]))
    else
      bif check a != 0 then
        R
          (Value.tuple
            (Array.mk
              [Value.agg (Array.mk [Value.int IntKind.i64 0, Value.int IntKind.i64 0, Value.int IntKind.i64 0, Value.bool false, Value.string (ByteArray.mk #[])]),
                Value.int IntKind.i64 (check a)]))
      else
        bif unary op then
          bif decide (Valid a ∧ Valid a) then
            R
              (Value.tuple
                (Array.mk
                  [Value.agg
                      (Array.mk
                        [Value.int IntKind.i64 (Ty.k (rty op a a)), Value.int IntKind.i64 (Ty.p (rty op a a)), Value.int IntKind.i64 (Ty.q (rty op a a)),
                          Value.bool (Ty.v (rty op a a)), Value.string (Ty.s (rty op a a))]),
                    Value.int IntKind.i64 0]))
          else False
        else
          bif check b != 0 then
            R
              (Value.tuple
                (Array.mk
                  [Value.agg (Array.mk [Value.int IntKind.i64 0, Value.int IntKind.i64 0, Value.int IntKind.i64 0, Value.bool false, Value.string (ByteArray.mk #[])]),
                    Value.int IntKind.i64 (check b)]))
          else
            bif Ty.k a != Ty.k b then
              R
                (Value.tuple
                  (Array.mk
                    [Value.agg (Array.mk [Value.int IntKind.i64 0, Value.int IntKind.i64 0, Value.int IntKind.i64 0, Value.bool false, Value.string (ByteArray.mk #[])]),
                      Value.int IntKind.i64 5]))
            else
              bif decide (Valid a ∧ Valid b) then
                R
                  (Value.tuple
                    (Array.mk
                      [Value.agg
                          (Array.mk
                            [Value.int IntKind.i64 (Ty.k (rty op a b)), Value.int IntKind.i64 (Ty.p (rty op a b)), Value.int IntKind.i64 (Ty.q (rty op a b)),
                              Value.bool (Ty.v (rty op a b)), Value.string (Ty.s (rty op a b))]),
                        Value.int IntKind.i64 0]))
              else False) := by kernel_rfl
theorem ok28 : PureOK Try.prog 28 (sp3 s28) := by
  refine pure3 ok_G4 hmix fn28 lokf_none (Nat.le_of_ble_eq_true (by kernel_rfl)) fun op a b hc => ?_
  rw [Does, v28]
  repeat' refine cond_intro (fun h => ?_) (fun h => ?_)
  all_goals grind (splits := 40) [s28, s22, s82, check, resT, resE, T0, e0, isOp, unary]

def s29 (t : Ty) (k : Int) : Bool × Value := (true, tup [tv (rdT t k), I (rdE t k)])
theorem fn29 : Fn1 Try.prog 29 Try.f29 := ⟨Try.func29, by kernel_rfl, by kernel_rfl, by kernel_rfl⟩
theorem v29 (t : Ty) (k : Int) (R : Value → Prop) : bodyR Try.prog G4 noL Try.f29 [Enc.enc t, Enc.enc k] (fun _ => none) 0 (fun v _ _ => R v) = (
    bif check t != 0 then
      R
        (Value.tuple
          (Array.mk
            [Value.agg (Array.mk [Value.int IntKind.i64 0, Value.int IntKind.i64 0, Value.int IntKind.i64 0, Value.bool false, Value.string (ByteArray.mk #[])]),
              Value.int IntKind.i64 (check t)]))
    else
      bif decide (k < 0) then
        R
          (Value.tuple
            (Array.mk
              [Value.agg (Array.mk [Value.int IntKind.i64 0, Value.int IntKind.i64 0, Value.int IntKind.i64 0, Value.bool false, Value.string (ByteArray.mk #[])]),
                Value.int IntKind.i64 1]))
      else
        bif decide (k > Ty.q t) then
          R
            (Value.tuple
              (Array.mk
                [Value.agg (Array.mk [Value.int IntKind.i64 0, Value.int IntKind.i64 0, Value.int IntKind.i64 0, Value.bool false, Value.string (ByteArray.mk #[])]),
                  Value.int IntKind.i64 1]))
        else
          R
            (Value.tuple
              (Array.mk
                [Value.agg
                    (Array.mk
                      [Value.int IntKind.i64 (Ty.k t),
                        Value.int IntKind.i64 (max 1 (min (IntKind.wrap IntKind.i64 (IntKind.wrap IntKind.i64 (IntKind.wrap IntKind.i64 (Ty.p t - Ty.q t) + 1) + k)) (most (Ty.k t)))),
                        Value.int IntKind.i64 k, Value.bool false, Value.string (ByteArray.mk #[])]),
                  Value.int IntKind.i64 0]))) := by kernel_rfl
theorem ok29 : PureOK Try.prog 29 (sp2 s29) := by
  refine pure2 ok_G4 hmix fn29 lokf_none (Nat.le_of_ble_eq_true (by kernel_rfl)) fun t k hc => ?_
  rw [Does, v29]
  by_cases hv : Valid t
  · have rv := valid_r hv
    have rm := most_r t.k
    have br := bnd_range hv
    try simp only [imax_max, imin_min]
    try simp (disch := omega) only [w64]
    repeat' refine cond_intro (fun h => ?_) (fun h => ?_)
    all_goals grind (splits := 40) [s29, check, rdT, rdE, T0, e0, IntKind.wrap_i64]
  · repeat' refine cond_intro (fun h => ?_) (fun h => ?_)
    all_goals grind (splits := 40) [s29, check, rdT, rdE, T0, e0, IntKind.wrap_i64]

def s30 (t : Ty) (k : Int) : Bool × Value := (true, tup [tv (rdT t k), I (rdE t k)])
theorem fn30 : Fn1 Try.prog 30 Try.f30 := ⟨Try.func30, by kernel_rfl, by kernel_rfl, by kernel_rfl⟩
theorem v30 (t : Ty) (k : Int) (R : Value → Prop) : bodyR Try.prog G4 noL Try.f30 [Enc.enc t, Enc.enc k] (fun _ => none) 0 (fun v _ _ => R v) = (
    bif check t != 0 then
      R
        (Value.tuple
          (Array.mk
            [Value.agg (Array.mk [Value.int IntKind.i64 0, Value.int IntKind.i64 0, Value.int IntKind.i64 0, Value.bool false, Value.string (ByteArray.mk #[])]),
              Value.int IntKind.i64 (check t)]))
    else
      bif decide (k < 0) then
        R
          (Value.tuple
            (Array.mk
              [Value.agg (Array.mk [Value.int IntKind.i64 0, Value.int IntKind.i64 0, Value.int IntKind.i64 0, Value.bool false, Value.string (ByteArray.mk #[])]),
                Value.int IntKind.i64 1]))
      else
        bif decide (k > Ty.q t) then
          R
            (Value.tuple
              (Array.mk
                [Value.agg (Array.mk [Value.int IntKind.i64 0, Value.int IntKind.i64 0, Value.int IntKind.i64 0, Value.bool false, Value.string (ByteArray.mk #[])]),
                  Value.int IntKind.i64 1]))
        else
          R
            (Value.tuple
              (Array.mk
                [Value.agg
                    (Array.mk
                      [Value.int IntKind.i64 (Ty.k t),
                        Value.int IntKind.i64 (imin (most (Ty.k t)) (IntKind.wrap IntKind.i64 (IntKind.wrap IntKind.i64 (IntKind.wrap IntKind.i64 (Ty.p t - Ty.q t) + 1) + k))),
                        Value.int IntKind.i64 k, Value.bool false, Value.string (ByteArray.mk #[])]),
                  Value.int IntKind.i64 0]))) := by kernel_rfl
theorem ok30 : PureOK Try.prog 30 (sp2 s30) := by
  refine pure2 ok_G4 hmix fn30 lokf_none (Nat.le_of_ble_eq_true (by kernel_rfl)) fun t k hc => ?_
  rw [Does, v30]
  by_cases hv : Valid t
  · have rv := valid_r hv
    have rm := most_r t.k
    have br := bnd_range hv
    try simp only [imax_max, imin_min]
    try simp (disch := omega) only [w64]
    repeat' refine cond_intro (fun h => ?_) (fun h => ?_)
    all_goals grind (splits := 40) [s30, check, rdT, rdE, T0, e0, IntKind.wrap_i64]
  · repeat' refine cond_intro (fun h => ?_) (fun h => ?_)
    all_goals grind (splits := 40) [s30, check, rdT, rdE, T0, e0, IntKind.wrap_i64]

def s31 (t : Ty) : Bool × Value := (true, tup [tv (whT t), I (check t)])
theorem fn31 : Fn1 Try.prog 31 Try.f31 := ⟨Try.func31, by kernel_rfl, by kernel_rfl, by kernel_rfl⟩
theorem v31 (t : Ty) (R : Value → Prop) : bodyR Try.prog G4 noL Try.f31 [Enc.enc t] (fun _ => none) 0 (fun v _ _ => R v) = (
    bif check t != 0 then
      R
        (Value.tuple
          (Array.mk
            [Value.agg (Array.mk [Value.int IntKind.i64 0, Value.int IntKind.i64 0, Value.int IntKind.i64 0, Value.bool false, Value.string (ByteArray.mk #[])]),
              Value.int IntKind.i64 (check t)]))
    else
      R
        (Value.tuple
          (Array.mk
            [Value.agg
                (Array.mk
                  [Value.int IntKind.i64 (Ty.k t), Value.int IntKind.i64 (imin (IntKind.wrap IntKind.i64 (IntKind.wrap IntKind.i64 (Ty.p t - Ty.q t) + 1)) (most (Ty.k t))),
                    Value.int IntKind.i64 0, Value.bool false, Value.string (ByteArray.mk #[])]),
              Value.int IntKind.i64 0]))) := by kernel_rfl
theorem ok31 : PureOK Try.prog 31 (sp1 s31) := by
  refine pure1 ok_G4 hmix fn31 lokf_none (Nat.le_of_ble_eq_true (by kernel_rfl)) fun t hc => ?_
  rw [Does, v31]
  by_cases hv : Valid t
  · have rv := valid_r hv
    have rm := most_r t.k
    have br := bnd_range hv
    try simp only [imax_max, imin_min]
    try simp (disch := omega) only [w64]
    repeat' refine cond_intro (fun h => ?_) (fun h => ?_)
    all_goals grind (splits := 40) [s31, check, whT, T0, e0]
  · repeat' refine cond_intro (fun h => ?_) (fun h => ?_)
    all_goals grind (splits := 40) [s31, check, whT, T0, e0]

def s32 (t : Ty) : Bool × Value := (true, tup [tv (whT t), I (check t)])
theorem fn32 : Fn1 Try.prog 32 Try.f32 := ⟨Try.func32, by kernel_rfl, by kernel_rfl, by kernel_rfl⟩
theorem v32 (t : Ty) (R : Value → Prop) : bodyR Try.prog G4 noL Try.f32 [Enc.enc t] (fun _ => none) 0 (fun v _ _ => R v) = (
    bif check t != 0 then
      R
        (Value.tuple
          (Array.mk
            [Value.agg (Array.mk [Value.int IntKind.i64 0, Value.int IntKind.i64 0, Value.int IntKind.i64 0, Value.bool false, Value.string (ByteArray.mk #[])]),
              Value.int IntKind.i64 (check t)]))
    else
      R
        (Value.tuple
          (Array.mk
            [Value.agg
                (Array.mk
                  [Value.int IntKind.i64 (Ty.k t), Value.int IntKind.i64 (imin (most (Ty.k t)) (IntKind.wrap IntKind.i64 (IntKind.wrap IntKind.i64 (Ty.p t - Ty.q t) + 1))),
                    Value.int IntKind.i64 0, Value.bool false, Value.string (ByteArray.mk #[])]),
              Value.int IntKind.i64 0]))) := by kernel_rfl
theorem ok32 : PureOK Try.prog 32 (sp1 s32) := by
  refine pure1 ok_G4 hmix fn32 lokf_none (Nat.le_of_ble_eq_true (by kernel_rfl)) fun t hc => ?_
  rw [Does, v32]
  by_cases hv : Valid t
  · have rv := valid_r hv
    have rm := most_r t.k
    have br := bnd_range hv
    try simp only [imax_max, imin_min]
    try simp (disch := omega) only [w64]
    repeat' refine cond_intro (fun h => ?_) (fun h => ?_)
    all_goals grind (splits := 40) [s32, check, whT, T0, e0]
  · repeat' refine cond_intro (fun h => ?_) (fun h => ?_)
    all_goals grind (splits := 40) [s32, check, whT, T0, e0]

def s33 (t : Ty) : Bool × Value := (true, tup [tv (totT t), I (check t)])
theorem fn33 : Fn1 Try.prog 33 Try.f33 := ⟨Try.func33, by kernel_rfl, by kernel_rfl, by kernel_rfl⟩
theorem v33 (t : Ty) (R : Value → Prop) : bodyR Try.prog G4 noL Try.f33 [Enc.enc t] (fun _ => none) 0 (fun v _ _ => R v) = (
    bif check t != 0 then
      R
        (Value.tuple
          (Array.mk
            [Value.agg (Array.mk [Value.int IntKind.i64 0, Value.int IntKind.i64 0, Value.int IntKind.i64 0, Value.bool false, Value.string (ByteArray.mk #[])]),
              Value.int IntKind.i64 (check t)]))
    else
      R
        (Value.tuple
          (Array.mk
            [Value.agg (Array.mk [Value.int IntKind.i64 (Ty.k t), Value.int IntKind.i64 (most (Ty.k t)), Value.int IntKind.i64 (Ty.q t), Value.bool (Ty.v t), Value.string (Ty.s t)]),
              Value.int IntKind.i64 0]))) := by kernel_rfl
theorem ok33 : PureOK Try.prog 33 (sp1 s33) := by
  refine pure1 ok_G4 hmix fn33 lokf_none (Nat.le_of_ble_eq_true (by kernel_rfl)) fun t hc => ?_
  rw [Does, v33]
  repeat' refine cond_intro (fun h => ?_) (fun h => ?_)
  all_goals grind (splits := 40) [s33, check, totT, T0, e0, Valid, str_e0]

def s34 (t : Ty) : Bool × Value := (true, tup [tv (totT t), I (check t)])
theorem fn34 : Fn1 Try.prog 34 Try.f34 := ⟨Try.func34, by kernel_rfl, by kernel_rfl, by kernel_rfl⟩
theorem v34 (t : Ty) (R : Value → Prop) : bodyR Try.prog G4 noL Try.f34 [Enc.enc t] (fun _ => none) 0 (fun v _ _ => R v) = (
    bif check t != 0 then
      R
        (Value.tuple
          (Array.mk
            [Value.agg (Array.mk [Value.int IntKind.i64 0, Value.int IntKind.i64 0, Value.int IntKind.i64 0, Value.bool false, Value.string (ByteArray.mk #[])]),
              Value.int IntKind.i64 (check t)]))
    else
      R
        (Value.tuple
          (Array.mk
            [Value.agg
                (Array.mk [Value.int IntKind.i64 (Ty.k t), Value.int IntKind.i64 (most (Ty.k t)), Value.int IntKind.i64 (Ty.q t), Value.bool false, Value.string (ByteArray.mk #[])]),
              Value.int IntKind.i64 0]))) := by kernel_rfl
theorem ok34 : PureOK Try.prog 34 (sp1 s34) := by
  refine pure1 ok_G4 hmix fn34 lokf_none (Nat.le_of_ble_eq_true (by kernel_rfl)) fun t hc => ?_
  rw [Does, v34]
  repeat' refine cond_intro (fun h => ?_) (fun h => ?_)
  all_goals grind (splits := 40) [s34, check, totT, T0, e0]

def s88 (op : Int) (a : Vl) (ta : Ty) (b : Vl) (tb : Ty) : Bool × Value := (true, I (opnds op a ta b tb))
theorem fn88 : Fn1 Try.prog 88 Try.f88 := ⟨Try.func88, by kernel_rfl, by kernel_rfl, by kernel_rfl⟩
theorem v88 (op : Int) (a : Vl) (ta : Ty) (b : Vl) (tb : Ty) (R : Value → Prop) : bodyR Try.prog G4 noL Try.f88 [Enc.enc op, Enc.enc a, Enc.enc ta, Enc.enc b, Enc.enc tb] (fun _ => none) 0 (fun v _ _ => R v) = (
    bif fits a ta != 0 then R (Value.int IntKind.i64 (fits a ta)) else bif unary op then R (Value.int IntKind.i64 (fits a ta)) else R (Value.int IntKind.i64 (fits b tb))) := by kernel_rfl
theorem ok88 : PureOK Try.prog 88 (sp5 s88) := by
  refine pure5 ok_G4 hmix fn88 lokf_none (Nat.le_of_ble_eq_true (by kernel_rfl)) fun op a ta b tb hc => ?_
  rw [Does, v88]
  repeat' refine cond_intro (fun h => ?_) (fun h => ?_)
  all_goals grind (splits := 40) [s88, opnds]

def G5 : Env := (((((((((((G4.add 25 (sp1 s25)).add 26 (sp1 s26)).add 27 (sp3 s27)).add 28 (sp3 s28)).add 29 (sp2 s29)).add 30 (sp2 s30)).add 31 (sp1 s31)).add 32 (sp1 s32)).add 33 (sp1 s33)).add 34 (sp1 s34)).add 88 (sp5 s88))
theorem ok_G5 : EnvOK Try.prog G5 := env_add (env_add (env_add (env_add (env_add (env_add (env_add (env_add (env_add (env_add (env_add (ok_G4) ok25) ok26) ok27) ok28) ok29) ok30) ok31) ok32) ok33) ok34) ok88

end Go.Fx
