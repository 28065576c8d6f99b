/-
  Scaling, cutting, results.
-/
import Derived.Test.YthaedhabookjeaaFx5
set_option linter.unusedVariables false
set_option linter.unusedSimpArgs false
namespace Go.Fx
open Go Go.Ab Go.Proofs

def s79 (op : Int) (a : Ty) (b : Ty) : Bool × Value := (decide (Valid a ∧ Valid b ∧ isOp op = true), tv (rty op a b))
theorem fn79 : Fn1 Try.prog 79 Try.f79 := ⟨Try.func79, by kernel_rfl, by kernel_rfl, by kernel_rfl⟩
theorem v79 (op : Int) (a : Ty) (b : Ty) (R : Value → Prop) : bodyR Try.prog G3 noL Try.f79 [Enc.enc op, Enc.enc a, Enc.enc b] (fun _ => none) 0 (fun v _ _ => R v) = (
    bif op == 6 then
      bif Ty.k a == 2 then
        R
          (Value.agg
            (Array.mk
              [Value.int IntKind.i64 (Ty.k a),
                Value.int IntKind.i64
                  (imin
                    (IntKind.wrap IntKind.i64
                      (IntKind.wrap IntKind.i64 (1 + imax (IntKind.wrap IntKind.i64 (Ty.p a - Ty.q a)) (IntKind.wrap IntKind.i64 (Ty.p b - Ty.q b))) + imax (Ty.q a) (Ty.q b)))
                    (most (Ty.k a))),
                Value.int IntKind.i64 0, Value.bool false, Value.string (ByteArray.mk #[])]))
      else
        R
          (Value.agg
            (Array.mk
              [Value.int IntKind.i64 (Ty.k a),
                Value.int IntKind.i64
                  (imin
                    (IntKind.wrap IntKind.i64
                      (IntKind.wrap IntKind.i64 (1 + imax (IntKind.wrap IntKind.i64 (Ty.p a - Ty.q a)) (IntKind.wrap IntKind.i64 (Ty.p b - Ty.q b))) + imax (Ty.q a) (Ty.q b)))
                    (most (Ty.k a))),
                Value.int IntKind.i64 (imax (Ty.q a) (Ty.q b)), Value.bool false, Value.string (ByteArray.mk #[])]))
    else
      bif op == 7 then
        bif Ty.k a == 2 then
          R
            (Value.agg
              (Array.mk
                [Value.int IntKind.i64 (Ty.k a),
                  Value.int IntKind.i64
                    (imin
                      (IntKind.wrap IntKind.i64
                        (IntKind.wrap IntKind.i64 (1 + imax (IntKind.wrap IntKind.i64 (Ty.p a - Ty.q a)) (IntKind.wrap IntKind.i64 (Ty.p b - Ty.q b))) + imax (Ty.q a) (Ty.q b)))
                      (most (Ty.k a))),
                  Value.int IntKind.i64 0, Value.bool false, Value.string (ByteArray.mk #[])]))
        else
          R
            (Value.agg
              (Array.mk
                [Value.int IntKind.i64 (Ty.k a),
                  Value.int IntKind.i64
                    (imin
                      (IntKind.wrap IntKind.i64
                        (IntKind.wrap IntKind.i64 (1 + imax (IntKind.wrap IntKind.i64 (Ty.p a - Ty.q a)) (IntKind.wrap IntKind.i64 (Ty.p b - Ty.q b))) + imax (Ty.q a) (Ty.q b)))
                      (most (Ty.k a))),
                  Value.int IntKind.i64 (imax (Ty.q a) (Ty.q b)), Value.bool false, Value.string (ByteArray.mk #[])]))
      else
        bif op == 8 then
          bif Ty.k a == 2 then
            R
              (Value.agg
                (Array.mk
                  [Value.int IntKind.i64 (Ty.k a), Value.int IntKind.i64 (imin (IntKind.wrap IntKind.i64 (IntKind.wrap IntKind.i64 (1 + Ty.p a) + Ty.p b)) (most (Ty.k a))),
                    Value.int IntKind.i64 0, Value.bool false, Value.string (ByteArray.mk #[])]))
          else
            R
              (Value.agg
                (Array.mk
                  [Value.int IntKind.i64 (Ty.k a), Value.int IntKind.i64 (imin (IntKind.wrap IntKind.i64 (IntKind.wrap IntKind.i64 (1 + Ty.p a) + Ty.p b)) (most (Ty.k a))),
                    Value.int IntKind.i64 (imin (most (Ty.k a)) (IntKind.wrap IntKind.i64 (Ty.q a + Ty.q b))), Value.bool false, Value.string (ByteArray.mk #[])]))
        else
          bif op == 9 then
            bif Ty.k a == 2 then
              R
                (Value.agg
                  (Array.mk
                    [Value.int IntKind.i64 (Ty.k a), Value.int IntKind.i64 (imin (most (Ty.k a)) (most (Ty.k a))), Value.int IntKind.i64 0, Value.bool false,
                      Value.string (ByteArray.mk #[])]))
            else
              R
                (Value.agg
                  (Array.mk
                    [Value.int IntKind.i64 (Ty.k a), Value.int IntKind.i64 (imin (most (Ty.k a)) (most (Ty.k a))),
                      Value.int IntKind.i64 (imax 0 (IntKind.wrap IntKind.i64 (IntKind.wrap IntKind.i64 (most (Ty.k a) - IntKind.wrap IntKind.i64 (Ty.p a - Ty.q a)) - Ty.q b))),
                      Value.bool false, Value.string (ByteArray.mk #[])]))
          else
            bif op == 10 then
              bif Ty.k a == 2 then
                R
                  (Value.agg
                    (Array.mk
                      [Value.int IntKind.i64 (Ty.k a),
                        Value.int IntKind.i64 (imin (IntKind.wrap IntKind.i64 (IntKind.wrap IntKind.i64 (Ty.p b - Ty.q b) + imax (Ty.q a) (Ty.q b))) (most (Ty.k a))),
                        Value.int IntKind.i64 0, Value.bool false, Value.string (ByteArray.mk #[])]))
              else
                R
                  (Value.agg
                    (Array.mk
                      [Value.int IntKind.i64 (Ty.k a),
                        Value.int IntKind.i64 (imin (IntKind.wrap IntKind.i64 (IntKind.wrap IntKind.i64 (Ty.p b - Ty.q b) + imax (Ty.q a) (Ty.q b))) (most (Ty.k a))),
                        Value.int IntKind.i64 (imax (Ty.q a) (Ty.q b)), Value.bool false, Value.string (ByteArray.mk #[])]))
            else
              bif op == 12 then
                bif Ty.k a == 2 then
                  R
                    (Value.agg
                      (Array.mk
                        [Value.int IntKind.i64 (Ty.k a),
                          Value.int IntKind.i64
                            (imin (IntKind.wrap IntKind.i64 (imax (IntKind.wrap IntKind.i64 (Ty.p a - Ty.q a)) (IntKind.wrap IntKind.i64 (Ty.p b - Ty.q b)) + imax (Ty.q a) (Ty.q b)))
                              (most (Ty.k a))),
                          Value.int IntKind.i64 0, Value.bool false, Value.string (ByteArray.mk #[])]))
                else
                  R
                    (Value.agg
                      (Array.mk
                        [Value.int IntKind.i64 (Ty.k a),
                          Value.int IntKind.i64
                            (imin (IntKind.wrap IntKind.i64 (imax (IntKind.wrap IntKind.i64 (Ty.p a - Ty.q a)) (IntKind.wrap IntKind.i64 (Ty.p b - Ty.q b)) + imax (Ty.q a) (Ty.q b)))
                              (most (Ty.k a))),
                          Value.int IntKind.i64 (imax (Ty.q a) (Ty.q b)), Value.bool false, Value.string (ByteArray.mk #[])]))
              else
                bif op == 13 then
                  bif Ty.k a == 2 then
                    R
                      (Value.agg
                        (Array.mk
                          [Value.int IntKind.i64 (Ty.k a),
                            Value.int IntKind.i64
                              (imin (IntKind.wrap IntKind.i64 (imax (IntKind.wrap IntKind.i64 (Ty.p a - Ty.q a)) (IntKind.wrap IntKind.i64 (Ty.p b - Ty.q b)) + imax (Ty.q a) (Ty.q b)))
                                (most (Ty.k a))),
                            Value.int IntKind.i64 0, Value.bool false, Value.string (ByteArray.mk #[])]))
                  else
                    R
                      (Value.agg
                        (Array.mk
                          [Value.int IntKind.i64 (Ty.k a),
                            Value.int IntKind.i64
                              (imin (IntKind.wrap IntKind.i64 (imax (IntKind.wrap IntKind.i64 (Ty.p a - Ty.q a)) (IntKind.wrap IntKind.i64 (Ty.p b - Ty.q b)) + imax (Ty.q a) (Ty.q b)))
                                (most (Ty.k a))),
                            Value.int IntKind.i64 (imax (Ty.q a) (Ty.q b)), Value.bool false, Value.string (ByteArray.mk #[])]))
                else
                  bif Ty.k a == 2 then
                    R
                      (Value.agg
                        (Array.mk
                          [Value.int IntKind.i64 (Ty.k a), Value.int IntKind.i64 (imin (Ty.p a) (most (Ty.k a))), Value.int IntKind.i64 0, Value.bool false,
                            Value.string (ByteArray.mk #[])]))
                  else
                    R
                      (Value.agg
                        (Array.mk
                          [Value.int IntKind.i64 (Ty.k a), Value.int IntKind.i64 (imin (Ty.p a) (most (Ty.k a))), Value.int IntKind.i64 (Ty.q a), Value.bool false,
                            Value.string (ByteArray.mk #[])]))) := by kernel_rfl
theorem ok79 : PureOK Try.prog 79 (sp3 s79) := by
  refine pure3 ok_G3 hmix fn79 lokf_none (Nat.le_of_ble_eq_true (by kernel_rfl)) fun op a b hc => ?_
  rw [Does, v79]
  have hc : (Valid a ∧ Valid b ∧ isOp op = true) := of_decide_eq_true hc
  have ra := valid_r hc.1
  have rb := valid_r (by exact hc.2.1)
  have rm := most_r a.k
  simp only [imax_max, imin_min]
  simp (disch := omega) only [w64]
  repeat' refine cond_intro (fun h => ?_) (fun h => ?_)
  all_goals grind (splits := 40) [s79, s73, rty, resQ, resD, Valid, most, isOp, e0]

def s82 (op : Int) (a : Ty) (b : Ty) : Bool × Value := (decide (Valid a ∧ Valid b), tv (rty op a b))
theorem fn82 : Fn1 Try.prog 82 Try.f82 := ⟨Try.func82, by kernel_rfl, by kernel_rfl, by kernel_rfl⟩
theorem v82 (op : Int) (a : Ty) (b : Ty) (R : Value → Prop) : bodyR Try.prog G3 noL Try.f82 [Enc.enc op, Enc.enc a, Enc.enc b] (fun _ => none) 0 (fun v _ _ => R v) = (
    bif decide (Valid a ∧ Valid b) then
      bif decide (Valid a ∧ Valid b) then
        R
          (Value.agg
            (Array.mk
              [Value.int IntKind.i64 (Ty.k a), Value.int IntKind.i64 (imin (most (Ty.k a)) (resD op a b)), Value.int IntKind.i64 (resQ op a b), Value.bool false,
                Value.string (ByteArray.mk #[])]))
      else False
    else False) := by kernel_rfl
theorem ok82 : PureOK Try.prog 82 (sp3 s82) := by
  refine pure3 ok_G3 hmix fn82 lokf_none (Nat.le_of_ble_eq_true (by kernel_rfl)) fun op a b hc => ?_
  rw [Does, v82]
  have hc : (Valid a ∧ Valid b) := of_decide_eq_true hc
  repeat' refine cond_intro (fun h => ?_) (fun h => ?_)
  all_goals grind (splits := 40) [s82, s84, s106, s107, rty, Valid, e0, imin, imax, IntKind.wrap_i64]

def s85 (n : Int) (q : Int) (to : Int) : Bool × Value := (decide (-18 ≤ to - q ∧ to - q ≤ 18 ∧ -100 ≤ q ∧ q ≤ 100 ∧ R64 n ∧ R64 (scl n (to - q))), I (scl n (to - q)))
theorem fn85 : Fn1 Try.prog 85 Try.f85 := ⟨Try.func85, by kernel_rfl, by kernel_rfl, by kernel_rfl⟩
theorem v85 (n : Int) (q : Int) (to : Int) (R : Value → Prop) : bodyR Try.prog G3 noL Try.f85 [Enc.enc n, Enc.enc q, Enc.enc to] (fun _ => none) 0 (fun v _ _ => R v) = (
    bif decide (to ≥ q) then
      bif decide (0 ≤ IntKind.wrap IntKind.i64 (to - q) ∧ IntKind.wrap IntKind.i64 (to - q) < 19) && isIntAt IntKind.i64 tensL (Int.toNat (IntKind.wrap IntKind.i64 (to - q))) then
        R (Value.int IntKind.i64 (IntKind.wrap IntKind.i64 (n * intAt tensL (Int.toNat (IntKind.wrap IntKind.i64 (to - q))))))
      else False
    else
      bif decide (0 ≤ IntKind.wrap IntKind.i64 (q - to) ∧ IntKind.wrap IntKind.i64 (q - to) < 19) && isIntAt IntKind.i64 tensL (Int.toNat (IntKind.wrap IntKind.i64 (q - to))) then
        bif decide (intAt tensL (Int.toNat (IntKind.wrap IntKind.i64 (q - to))) ≠ 0) then
          R (Value.int IntKind.i64 (IntKind.wrap IntKind.i64 (Int.tdiv n (intAt tensL (Int.toNat (IntKind.wrap IntKind.i64 (q - to)))))))
        else False
      else False) := by kernel_rfl
theorem ok85 : PureOK Try.prog 85 (sp3 s85) := by
  refine pure3 ok_G3 hmix fn85 lokf_none (Nat.le_of_ble_eq_true (by kernel_rfl)) fun n q to hc => ?_
  rw [Does, v85]
  have hc : (-18 ≤ to - q ∧ to - q ≤ 18 ∧ -100 ≤ q ∧ q ≤ 100 ∧ R64 n ∧ R64 (scl n (to - q))) := of_decide_eq_true hc
  simp (disch := omega) only [w64]
  unfold R64 at hc
  by_cases hq : q ≤ to
  · have t1 := tens_at (p := to - q) (by omega) (by omega)
    have hs : scl n (to - q) = n * pw 10 (to - q) := if_pos (by omega)
    rw [hs] at hc
    have hw := w64 hc.2.2.2.2.2
    have he : (s85 n q to).2 = I (n * pw 10 (to - q)) := by simp only [s85, hs]
    rw [he, t1.2, hw]
    grind
  · have t1 := tens_at (p := q - to) (by omega) (by omega)
    have hs : scl n (to - q) = n.tdiv (pw 10 (q - to)) := by
      rw [scl, if_neg (by omega), show -(to - q) = q - to by omega]
    rw [hs] at hc
    have hw := w64 hc.2.2.2.2.2
    have he : (s85 n q to).2 = I (n.tdiv (pw 10 (q - to))) := by simp only [s85, hs]
    have hp := pw_pos (b := 10) (by omega) (q - to)
    rw [he, t1.2, hw]
    grind

def s89 (n : Int) (by_ : Int) : Bool × Value := (decide (-18 ≤ by_ ∧ by_ ≤ 18 ∧ R64 n ∧ R64 (scl n by_)), I (scl n by_))
theorem fn89 : Fn1 Try.prog 89 Try.f89 := ⟨Try.func89, by kernel_rfl, by kernel_rfl, by kernel_rfl⟩
theorem v89 (n : Int) (by_ : Int) (R : Value → Prop) : bodyR Try.prog G3 noL Try.f89 [Enc.enc n, Enc.enc by_] (fun _ => none) 0 (fun v _ _ => R v) = (
    bif decide (by_ ≥ 0) then bif decide (by_ ≤ 1000) then R (Value.int IntKind.i64 (IntKind.wrap IntKind.i64 (n * IntKind.wrap IntKind.i64 (pw 10 by_)))) else False
    else
      bif decide (IntKind.wrap IntKind.i64 (0 - by_) ≤ 1000) then
        bif decide (IntKind.wrap IntKind.i64 (pw 10 (IntKind.wrap IntKind.i64 (0 - by_))) ≠ 0) then
          R (Value.int IntKind.i64 (IntKind.wrap IntKind.i64 (Int.tdiv n (IntKind.wrap IntKind.i64 (pw 10 (IntKind.wrap IntKind.i64 (0 - by_)))))))
        else False
      else False) := by kernel_rfl
theorem ok89 : PureOK Try.prog 89 (sp2 s89) := by
  refine pure2 ok_G3 hmix fn89 lokf_none (Nat.le_of_ble_eq_true (by kernel_rfl)) fun n by_ hc => ?_
  rw [Does, v89]
  have hc : (-18 ≤ by_ ∧ by_ ≤ 18 ∧ R64 n ∧ R64 (scl n by_)) := of_decide_eq_true hc
  simp (disch := omega) only [w64]
  unfold R64 at hc
  by_cases hq : 0 ≤ by_
  · have hs : scl n by_ = n * pw 10 by_ := if_pos hq
    rw [hs] at hc
    have hw := w64 hc.2.2.2
    have he : (s89 n by_).2 = I (n * pw 10 by_) := by simp only [s89, hs]
    rw [he, pw_w64 (by omega), hw]
    grind
  · have hs : scl n by_ = n.tdiv (pw 10 (0 - by_)) := by
      rw [scl, if_neg hq, show -by_ = 0 - by_ by omega]
    rw [hs] at hc
    have hw := w64 hc.2.2.2
    have he : (s89 n by_).2 = I (n.tdiv (pw 10 (0 - by_))) := by simp only [s89, hs]
    have hp := pw_pos (b := 10) (by omega) (0 - by_)
    rw [he, pw_w64 (p := 0 - by_) (by omega), hw]
    grind

def s87 (n : Int) (t : Ty) (c : Int) : Bool × Value := (decide (Valid t), tup [vv ⟨cutN n t, e0⟩, I (cutC n t c)])
theorem fn87 : Fn1 Try.prog 87 Try.f87 := ⟨Try.func87, by kernel_rfl, by kernel_rfl, by kernel_rfl⟩
theorem v87 (n : Int) (t : Ty) (c : Int) (R : Value → Prop) : bodyR Try.prog G3 noL Try.f87 [Enc.enc n, Enc.enc t, Enc.enc c] (fun _ => none) 0 (fun v _ _ => R v) = (
    bif decide (Valid t) then
      bif decide (n > IntKind.wrap IntKind.i64 (0 - bnd t)) then
        bif decide (n < bnd t) then R (Value.tuple (Array.mk [Value.agg (Array.mk [Value.int IntKind.i64 n, Value.string (ByteArray.mk #[])]), Value.int IntKind.i64 0]))
        else
          bif decide (bnd t ≠ 0) then
            R (Value.tuple (Array.mk [Value.agg (Array.mk [Value.int IntKind.i64 (Int.tmod n (bnd t)), Value.string (ByteArray.mk #[])]), Value.int IntKind.i64 c]))
          else False
      else
        bif decide (bnd t ≠ 0) then
          R (Value.tuple (Array.mk [Value.agg (Array.mk [Value.int IntKind.i64 (Int.tmod n (bnd t)), Value.string (ByteArray.mk #[])]), Value.int IntKind.i64 c]))
        else False
    else False) := by kernel_rfl
theorem ok87 : PureOK Try.prog 87 (sp3 s87) := by
  refine pure3 ok_G3 hmix fn87 lokf_none (Nat.le_of_ble_eq_true (by kernel_rfl)) fun n t c hc => ?_
  rw [Does, v87]
  have hc : (Valid t) := of_decide_eq_true hc
  have br := bnd_range hc
  simp (disch := omega) only [w64]
  repeat' refine cond_intro (fun h => ?_) (fun h => ?_)
  all_goals grind (splits := 40) [s87, s74, cutN, cutC, InB, e0]

def s92 (n : Int) (t : Ty) : Bool × Value := (decide (Valid t), tup [I (cutN n t), B (decide (InB n t))])
theorem fn92 : Fn1 Try.prog 92 Try.f92 := ⟨Try.func92, by kernel_rfl, by kernel_rfl, by kernel_rfl⟩
theorem v92 (n : Int) (t : Ty) (R : Value → Prop) : bodyR Try.prog G3 noL Try.f92 [Enc.enc n, Enc.enc t] (fun _ => none) 0 (fun v _ _ => R v) = (
    bif decide (Valid t) then
      bif decide (n < bnd t) then
        bif decide (Valid t) then
          bif decide (n > IntKind.wrap IntKind.i64 (0 - bnd t)) then R (Value.tuple (Array.mk [Value.int IntKind.i64 n, Value.bool true]))
          else bif decide (Valid t) then bif decide (bnd t ≠ 0) then R (Value.tuple (Array.mk [Value.int IntKind.i64 (Int.tmod n (bnd t)), Value.bool false])) else False else False
        else False
      else bif decide (Valid t) then bif decide (bnd t ≠ 0) then R (Value.tuple (Array.mk [Value.int IntKind.i64 (Int.tmod n (bnd t)), Value.bool false])) else False else False
    else False) := by kernel_rfl
theorem ok92 : PureOK Try.prog 92 (sp2 s92) := by
  refine pure2 ok_G3 hmix fn92 lokf_none (Nat.le_of_ble_eq_true (by kernel_rfl)) fun n t hc => ?_
  rw [Does, v92]
  have hc : (Valid t) := of_decide_eq_true hc
  have br := bnd_range hc
  simp (disch := omega) only [w64]
  repeat' refine cond_intro (fun h => ?_) (fun h => ?_)
  all_goals grind (splits := 40) [s92, s75, cutN, InB]

def s91 (op : Int) (x : Int) (y : Int) : Bool × Value := (decide (-P18 ≤ x ∧ x ≤ P18 ∧ -P18 ≤ y ∧ y ≤ P18 ∧ dvOK op y), I (exN op x y))
theorem fn91 : Fn1 Try.prog 91 Try.f91 := ⟨Try.func91, by kernel_rfl, by kernel_rfl, by kernel_rfl⟩
theorem v91 (op : Int) (x : Int) (y : Int) (R : Value → Prop) : bodyR Try.prog G3 noL Try.f91 [Enc.enc op, Enc.enc x, Enc.enc y] (fun _ => none) 0 (fun v _ _ => R v) = (
    bif op == 5 then R (Value.int IntKind.i64 (IntKind.wrap IntKind.i64 (0 - x)))
    else
      bif op == 11 then R (Value.int IntKind.i64 (imax x (IntKind.wrap IntKind.i64 (0 - x))))
      else
        bif op == 6 then R (Value.int IntKind.i64 (IntKind.wrap IntKind.i64 (x + y)))
        else
          bif op == 7 then R (Value.int IntKind.i64 (IntKind.wrap IntKind.i64 (x - y)))
          else
            bif op == 10 then
              bif decide (imax y (IntKind.wrap IntKind.i64 (0 - y)) ≠ 0) then
                bif decide (Int.tmod x (imax y (IntKind.wrap IntKind.i64 (0 - y))) < 0) then
                  bif decide (imax y (IntKind.wrap IntKind.i64 (0 - y)) ≠ 0) then
                    R (Value.int IntKind.i64 (IntKind.wrap IntKind.i64 (Int.tmod x (imax y (IntKind.wrap IntKind.i64 (0 - y))) + imax y (IntKind.wrap IntKind.i64 (0 - y)))))
                  else False
                else bif decide (imax y (IntKind.wrap IntKind.i64 (0 - y)) ≠ 0) then R (Value.int IntKind.i64 (Int.tmod x (imax y (IntKind.wrap IntKind.i64 (0 - y))))) else False
              else False
            else bif op == 12 then R (Value.int IntKind.i64 (imin x y)) else R (Value.int IntKind.i64 (imax x y))) := by kernel_rfl
theorem ok91 : PureOK Try.prog 91 (sp3 s91) := by
  refine pure3 ok_G3 hmix fn91 lokf_none (Nat.le_of_ble_eq_true (by kernel_rfl)) fun op x y hc => ?_
  rw [Does, v91]
  have hc : (-P18 ≤ x ∧ x ≤ P18 ∧ -P18 ≤ y ∧ y ≤ P18 ∧ dvOK op y) := of_decide_eq_true hc
  unfold P18 dvOK at hc
  simp only [imax_max, imin_min, Int.zero_sub]
  simp (disch := omega) only [w64]
  by_cases ho : op = 10
  · subst ho
    have hz : 0 < max y (-y) := by omega
    have e := tmod_emod (x := x) hz
    have b1 := Int.tmod_lt_of_pos x hz
    have b2 := Int.lt_tmod_of_pos x hz
    have hs : (s91 10 x y).2 = I (x % max y (-y)) := rfl
    rw [hs, e]
    generalize x.tmod (max y (-y)) = m at *
    rw [w64 (n := m + max y (-y)) (by omega)]
    grind
  · generalize x.tmod (max y (-y)) = m at *
    repeat' refine cond_intro (fun h => ?_) (fun h => ?_)
    all_goals grind (splits := 40) [s91, exN]

def s23 (v : Vl) (t : Ty) : Bool × Value := (true, I (fits v t))
theorem fn23 : Fn1 Try.prog 23 Try.f23 := ⟨Try.func23, by kernel_rfl, by kernel_rfl, by kernel_rfl⟩
theorem v23 (v : Vl) (t : Ty) (R : Value → Prop) : bodyR Try.prog G3 noL Try.f23 [Enc.enc v, Enc.enc t] (fun _ => none) 0 (fun v _ _ => R v) = (
    bif check t != 0 then R (Value.int IntKind.i64 (check t))
    else
      bif decide (Valid t) then
        bif !ByteArray.toList (Vl.s v) == ByteArray.toList (ByteArray.mk #[]) then R (Value.int IntKind.i64 6)
        else
          bif decide (Vl.n v ≤ IntKind.wrap IntKind.i64 (0 - bnd t)) then R (Value.int IntKind.i64 6)
          else bif decide (Vl.n v ≥ bnd t) then R (Value.int IntKind.i64 6) else R (Value.int IntKind.i64 0)
      else False) := by kernel_rfl
theorem ok23 : PureOK Try.prog 23 (sp2 s23) := by
  refine pure2 ok_G3 hmix fn23 lokf_none (Nat.le_of_ble_eq_true (by kernel_rfl)) fun v t hc => ?_
  rw [Does, v23]
  by_cases hv : Valid t
  · have br := bnd_range hv
    simp (disch := omega) only [w64]
    repeat' refine cond_intro (fun h => ?_) (fun h => ?_)
    all_goals grind (splits := 40) [s23, s21, s74, fits, check, Fit, str0]
  · repeat' refine cond_intro (fun h => ?_) (fun h => ?_)
    all_goals grind (splits := 40) [s23, s21, s74, fits, check, Fit, str0]

def s24 (v : Vl) (t : Ty) : Bool × Value := (true, I (fits v t))
theorem fn24 : Fn1 Try.prog 24 Try.f24 := ⟨Try.func24, by kernel_rfl, by kernel_rfl, by kernel_rfl⟩
theorem v24 (v : Vl) (t : Ty) (R : Value → Prop) : bodyR Try.prog G3 noL Try.f24 [Enc.enc v, Enc.enc t] (fun _ => none) 0 (fun v _ _ => R v) = (
    bif check t != 0 then R (Value.int IntKind.i64 (check t))
    else
      bif !ByteArray.toList (Vl.s v) == ByteArray.toList (ByteArray.mk #[]) then R (Value.int IntKind.i64 6)
      else
        bif decide (Valid t) then
          bif decide (Vl.n v ≥ bnd t) then R (Value.int IntKind.i64 6)
          else bif decide (Valid t) then bif decide (Vl.n v ≤ IntKind.wrap IntKind.i64 (0 - bnd t)) then R (Value.int IntKind.i64 6) else R (Value.int IntKind.i64 0) else False
        else False) := by kernel_rfl
theorem ok24 : PureOK Try.prog 24 (sp2 s24) := by
  refine pure2 ok_G3 hmix fn24 lokf_none (Nat.le_of_ble_eq_true (by kernel_rfl)) fun v t hc => ?_
  rw [Does, v24]
  by_cases hv : Valid t
  · have br := bnd_range hv
    simp (disch := omega) only [w64]
    repeat' refine cond_intro (fun h => ?_) (fun h => ?_)
    all_goals grind (splits := 40) [s24, s22, s75, fits, check, Fit, str0]
  · repeat' refine cond_intro (fun h => ?_) (fun h => ?_)
    all_goals grind (splits := 40) [s24, s22, s75, fits, check, Fit, str0]

def s96 (x : Int) (y : Int) : Bool × Value := (true, I (cmpI x y))
theorem fn96 : Fn1 Try.prog 96 Try.f96 := ⟨Try.func96, by kernel_rfl, by kernel_rfl, by kernel_rfl⟩
theorem v96 (x : Int) (y : Int) (R : Value → Prop) : bodyR Try.prog G3 noL Try.f96 [Enc.enc x, Enc.enc y] (fun _ => none) 0 (fun v _ _ => R v) = (
    bif decide (x < y) then R (Value.int IntKind.i64 (-1)) else bif decide (x > y) then R (Value.int IntKind.i64 1) else R (Value.int IntKind.i64 0)) := by kernel_rfl
theorem ok96 : PureOK Try.prog 96 (sp2 s96) := by
  refine pure2 ok_G3 hmix fn96 lokf_none (Nat.le_of_ble_eq_true (by kernel_rfl)) fun x y hc => ?_
  rw [Does, v96]
  repeat' refine cond_intro (fun h => ?_) (fun h => ?_)
  all_goals grind (splits := 40) [s96, cmpI]

def G4 : Env := ((((((((((G3.add 79 (sp3 s79)).add 82 (sp3 s82)).add 85 (sp3 s85)).add 89 (sp2 s89)).add 87 (sp3 s87)).add 92 (sp2 s92)).add 91 (sp3 s91)).add 23 (sp2 s23)).add 24 (sp2 s24)).add 96 (sp2 s96))
theorem ok_G4 : EnvOK Try.prog G4 := env_add (env_add (env_add (env_add (env_add (env_add (env_add (env_add (env_add (env_add (ok_G3) ok79) ok82) ok85) ok89) ok87) ok92) ok91) ok23) ok24) ok96

end Go.Fx
