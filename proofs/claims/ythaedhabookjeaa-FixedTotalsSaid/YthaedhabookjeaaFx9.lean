/-
  Do.
-/
import Derived.Test.YthaedhabookjeaaFx8
set_option linter.unusedVariables false
set_option linter.unusedSimpArgs false
namespace Go.Fx
open Go Go.Ab Go.Proofs

def s90 (a : Int) (ta : Ty) (b : Int) (tb : Ty) (q : Int) : Bool × Value := (decide (0 ≤ ta.q ∧ ta.q ≤ 9 ∧ 0 ≤ tb.q ∧ tb.q ≤ 9 ∧ 0 ≤ q ∧ q ≤ 9 ∧ quoOK a b (tb.q + q - ta.q)), I (quoN a b (tb.q + q - ta.q)))
theorem fn90 : Fn1 Try.prog 90 Try.f90 := ⟨Try.func90, by kernel_rfl, by kernel_rfl, by kernel_rfl⟩
theorem v90 (a : Int) (ta : Ty) (b : Int) (tb : Ty) (q : Int) (R : Value → Prop) : bodyR Try.prog G5 noL Try.f90 [Enc.enc a, Enc.enc ta, Enc.enc b, Enc.enc tb, Enc.enc q] (fun _ => none) 0 (fun v _ _ => R v) = (
    bif decide (IntKind.wrap IntKind.i64 (IntKind.wrap IntKind.i64 (q + Ty.q tb) - Ty.q ta) ≥ 0) then
      bif decide (IntKind.wrap IntKind.i64 (IntKind.wrap IntKind.i64 (q + Ty.q tb) - Ty.q ta) ≤ 1000) then
        bif decide (b ≠ 0) then
          R
            (Value.int IntKind.i64
              (IntKind.wrap IntKind.i64
                (Int.tdiv (IntKind.wrap IntKind.i64 (a * IntKind.wrap IntKind.i64 (pw 10 (IntKind.wrap IntKind.i64 (IntKind.wrap IntKind.i64 (q + Ty.q tb) - Ty.q ta))))) b)))
        else False
      else False
    else
      bif decide (IntKind.wrap IntKind.i64 (0 - IntKind.wrap IntKind.i64 (IntKind.wrap IntKind.i64 (q + Ty.q tb) - Ty.q ta)) ≤ 1000) then
        bif
            decide
              (IntKind.wrap IntKind.i64
                  (b * IntKind.wrap IntKind.i64 (pw 10 (IntKind.wrap IntKind.i64 (0 - IntKind.wrap IntKind.i64 (IntKind.wrap IntKind.i64 (q + Ty.q tb) - Ty.q ta))))) ≠
                0) then
          R
            (Value.int IntKind.i64
              (IntKind.wrap IntKind.i64
                (Int.tdiv a
                  (IntKind.wrap IntKind.i64
                    (b * IntKind.wrap IntKind.i64 (pw 10 (IntKind.wrap IntKind.i64 (0 - IntKind.wrap IntKind.i64 (IntKind.wrap IntKind.i64 (q + Ty.q tb) - Ty.q ta)))))))))
        else False
      else False) := by kernel_rfl
theorem ok90 : PureOK Try.prog 90 (sp5 s90) := by
  refine pure5 ok_G5 hmix fn90 lokf_none (Nat.le_of_ble_eq_true (by kernel_rfl)) fun a ta b tb q hc => ?_
  rw [Does, v90]
  have hc : (0 ≤ ta.q ∧ ta.q ≤ 9 ∧ 0 ≤ tb.q ∧ tb.q ≤ 9 ∧ 0 ≤ q ∧ q ≤ 9 ∧ quoOK a b (tb.q + q - ta.q)) := of_decide_eq_true hc
  obtain ⟨h1, h2, h3, h4, h5, h6, h7, h8, h9, h10, h11, h12, h13⟩ := hc
  simp (disch := omega) only [w64]
  unfold Q18 at *
  rw [Int.add_comm q tb.q]
  generalize hu : tb.q + q - ta.q = up at *
  by_cases hq : 0 ≤ up
  · have hb := h12 hq
    have hs : (s90 a ta b tb q).2 = I ((a * pw 10 up).tdiv b) := by simp only [s90, hu, quoN, if_pos hq]
    have hd := tdiv_rng (x := a * pw 10 up) (y := b) (A := 4000000000000000000) (by omega)
    rw [hs, pw_w64 (by omega), w64 (n := a * pw 10 up) (by omega), w64 (by omega)]
    grind
  · have hb := h13 (by omega)
    have hs : (s90 a ta b tb q).2 = I (a.tdiv (b * pw 10 (-up))) := by simp only [s90, hu, quoN, if_neg hq]
    have hd := tdiv_rng (x := a) (y := b * pw 10 (-up)) (A := 4000000000000000000) (by omega)
    have hp := pw_pos (b := 10) (by omega) (-up)
    have hz : b * pw 10 (-up) ≠ 0 := by
      rw [Ne, Int.mul_eq_zero]
      omega
    rw [hs, Int.zero_sub, pw_w64 (b := 10) (p := -up) (by omega), w64 (n := b * pw 10 (-up)) (by omega), w64 (n := a.tdiv (b * pw 10 (-up))) (by omega)]
    grind

def G6 : Env := (G5.add 90 (sp5 s90))
theorem ok_G6 : EnvOK Try.prog G6 := env_add (ok_G5) ok90

def G6x : Env := ((G6.add 80 (sp1 fun op : Int => (decide (isOp op = false), B false))).add 76 (sp1 fun op : Int => (decide (isOp op = false), tup [B false, B false])))

theorem ok_G6x : EnvOK Try.prog G6x := env_add (env_add ok_G6 (pure_weak ok80 fun args bs v h => by
  simp only [sp1] at h ⊢
  split at h
  · split at h
    · simp only [Option.some.injEq, Prod.mk.injEq, decide_eq_true_eq] at h
      simp [s80, h.1, ← h.2]
    · cases h
  · cases h)) (pure_weak ok76 fun args bs v h => by
  simp only [sp1] at h ⊢
  split at h
  · split at h
    · simp only [Option.some.injEq, Prod.mk.injEq, decide_eq_true_eq] at h
      rename_i op _
      have hu : unary op = false := by grind [isOp, unary]
      simp [s76, h.1, hu, ← h.2]
    · cases h
  · cases h)

theorem d36_5 (a : Vl) (ta : Ty) (b : Vl) (tb : Ty) (R : Value → Prop) : bodyR Try.prog G6 noL Try.f36 [Enc.enc (5 : Int), Enc.enc a, Enc.enc ta, Enc.enc b, Enc.enc tb] (fun _ => none) 0 (fun v _ _ => R v) = (
    bif opnds 5 a ta b tb != 0 then
      R (Value.tuple (Array.mk [Value.agg (Array.mk [Value.int IntKind.i64 0, Value.string (ByteArray.mk #[])]), Value.int IntKind.i64 0, Value.int IntKind.i64 (opnds 5 a ta b tb)]))
    else
      bif Ty.k ta != Ty.k ta then
        R (Value.tuple (Array.mk [Value.agg (Array.mk [Value.int IntKind.i64 0, Value.string (ByteArray.mk #[])]), Value.int IntKind.i64 0, Value.int IntKind.i64 5]))
      else
        bif decide (Valid ta ∧ Valid ta) then
          bif
              decide
                (-18 ≤ IntKind.wrap IntKind.i64 (imax (Ty.q ta) (Ty.q ta) - Ty.q ta) ∧
                  IntKind.wrap IntKind.i64 (imax (Ty.q ta) (Ty.q ta) - Ty.q ta) ≤ 18 ∧
                    R64 (Vl.n a) ∧ R64 (scl (Vl.n a) (IntKind.wrap IntKind.i64 (imax (Ty.q ta) (Ty.q ta) - Ty.q ta)))) then
            bif
                decide
                  (-18 ≤ IntKind.wrap IntKind.i64 (imax (Ty.q ta) (Ty.q ta) - Ty.q ta) ∧
                    IntKind.wrap IntKind.i64 (imax (Ty.q ta) (Ty.q ta) - Ty.q ta) ≤ 18 ∧
                      R64 (Vl.n a) ∧ R64 (scl (Vl.n a) (IntKind.wrap IntKind.i64 (imax (Ty.q ta) (Ty.q ta) - Ty.q ta)))) then
              bif
                  decide
                    (-P18 ≤ scl (Vl.n a) (IntKind.wrap IntKind.i64 (imax (Ty.q ta) (Ty.q ta) - Ty.q ta)) ∧
                      scl (Vl.n a) (IntKind.wrap IntKind.i64 (imax (Ty.q ta) (Ty.q ta) - Ty.q ta)) ≤ P18 ∧
                        -P18 ≤ scl (Vl.n a) (IntKind.wrap IntKind.i64 (imax (Ty.q ta) (Ty.q ta) - Ty.q ta)) ∧
                          scl (Vl.n a) (IntKind.wrap IntKind.i64 (imax (Ty.q ta) (Ty.q ta) - Ty.q ta)) ≤ P18 ∧
                            dvOK 5 (scl (Vl.n a) (IntKind.wrap IntKind.i64 (imax (Ty.q ta) (Ty.q ta) - Ty.q ta)))) then
                bif decide (Valid (rty 5 ta ta)) then
                  bif
                      !decide
                          (InB
                            (exN 5 (scl (Vl.n a) (IntKind.wrap IntKind.i64 (imax (Ty.q ta) (Ty.q ta) - Ty.q ta)))
                              (scl (Vl.n a) (IntKind.wrap IntKind.i64 (imax (Ty.q ta) (Ty.q ta) - Ty.q ta))))
                            (rty 5 ta ta)) then
                    R
                      (Value.tuple
                        (Array.mk
                          [Value.agg
                              (Array.mk
                                [Value.int IntKind.i64
                                    (cutN
                                      (exN 5 (scl (Vl.n a) (IntKind.wrap IntKind.i64 (imax (Ty.q ta) (Ty.q ta) - Ty.q ta)))
                                        (scl (Vl.n a) (IntKind.wrap IntKind.i64 (imax (Ty.q ta) (Ty.q ta) - Ty.q ta))))
                                      (rty 5 ta ta)),
                                  Value.string (ByteArray.mk #[])]),
                            Value.int IntKind.i64 2, Value.int IntKind.i64 0]))
                  else
                    R
                      (Value.tuple
                        (Array.mk
                          [Value.agg
                              (Array.mk
                                [Value.int IntKind.i64
                                    (cutN
                                      (exN 5 (scl (Vl.n a) (IntKind.wrap IntKind.i64 (imax (Ty.q ta) (Ty.q ta) - Ty.q ta)))
                                        (scl (Vl.n a) (IntKind.wrap IntKind.i64 (imax (Ty.q ta) (Ty.q ta) - Ty.q ta))))
                                      (rty 5 ta ta)),
                                  Value.string (ByteArray.mk #[])]),
                            Value.int IntKind.i64 0, Value.int IntKind.i64 0]))
                else False
              else False
            else False
          else False
        else False) := by kernel_rfl

theorem d36_6 (a : Vl) (ta : Ty) (b : Vl) (tb : Ty) (R : Value → Prop) : bodyR Try.prog G6 noL Try.f36 [Enc.enc (6 : Int), Enc.enc a, Enc.enc ta, Enc.enc b, Enc.enc tb] (fun _ => none) 0 (fun v _ _ => R v) = (
    bif opnds 6 a ta b tb != 0 then
      R (Value.tuple (Array.mk [Value.agg (Array.mk [Value.int IntKind.i64 0, Value.string (ByteArray.mk #[])]), Value.int IntKind.i64 0, Value.int IntKind.i64 (opnds 6 a ta b tb)]))
    else
      bif Ty.k ta != Ty.k tb then
        R (Value.tuple (Array.mk [Value.agg (Array.mk [Value.int IntKind.i64 0, Value.string (ByteArray.mk #[])]), Value.int IntKind.i64 0, Value.int IntKind.i64 5]))
      else
        bif decide (Valid ta ∧ Valid tb) then
          bif
              decide
                (-18 ≤ IntKind.wrap IntKind.i64 (imax (Ty.q ta) (Ty.q tb) - Ty.q ta) ∧
                  IntKind.wrap IntKind.i64 (imax (Ty.q ta) (Ty.q tb) - Ty.q ta) ≤ 18 ∧
                    R64 (Vl.n a) ∧ R64 (scl (Vl.n a) (IntKind.wrap IntKind.i64 (imax (Ty.q ta) (Ty.q tb) - Ty.q ta)))) then
            bif
                decide
                  (-18 ≤ IntKind.wrap IntKind.i64 (imax (Ty.q ta) (Ty.q tb) - Ty.q tb) ∧
                    IntKind.wrap IntKind.i64 (imax (Ty.q ta) (Ty.q tb) - Ty.q tb) ≤ 18 ∧
                      R64 (Vl.n b) ∧ R64 (scl (Vl.n b) (IntKind.wrap IntKind.i64 (imax (Ty.q ta) (Ty.q tb) - Ty.q tb)))) then
              bif
                  decide
                    (-P18 ≤ scl (Vl.n a) (IntKind.wrap IntKind.i64 (imax (Ty.q ta) (Ty.q tb) - Ty.q ta)) ∧
                      scl (Vl.n a) (IntKind.wrap IntKind.i64 (imax (Ty.q ta) (Ty.q tb) - Ty.q ta)) ≤ P18 ∧
                        -P18 ≤ scl (Vl.n b) (IntKind.wrap IntKind.i64 (imax (Ty.q ta) (Ty.q tb) - Ty.q tb)) ∧
                          scl (Vl.n b) (IntKind.wrap IntKind.i64 (imax (Ty.q ta) (Ty.q tb) - Ty.q tb)) ≤ P18 ∧
                            dvOK 6 (scl (Vl.n b) (IntKind.wrap IntKind.i64 (imax (Ty.q ta) (Ty.q tb) - Ty.q tb)))) then
                bif decide (Valid (rty 6 ta tb)) then
                  bif
                      !decide
                          (InB
                            (exN 6 (scl (Vl.n a) (IntKind.wrap IntKind.i64 (imax (Ty.q ta) (Ty.q tb) - Ty.q ta)))
                              (scl (Vl.n b) (IntKind.wrap IntKind.i64 (imax (Ty.q ta) (Ty.q tb) - Ty.q tb))))
                            (rty 6 ta tb)) then
                    R
                      (Value.tuple
                        (Array.mk
                          [Value.agg
                              (Array.mk
                                [Value.int IntKind.i64
                                    (cutN
                                      (exN 6 (scl (Vl.n a) (IntKind.wrap IntKind.i64 (imax (Ty.q ta) (Ty.q tb) - Ty.q ta)))
                                        (scl (Vl.n b) (IntKind.wrap IntKind.i64 (imax (Ty.q ta) (Ty.q tb) - Ty.q tb))))
                                      (rty 6 ta tb)),
                                  Value.string (ByteArray.mk #[])]),
                            Value.int IntKind.i64 2, Value.int IntKind.i64 0]))
                  else
                    R
                      (Value.tuple
                        (Array.mk
                          [Value.agg
                              (Array.mk
                                [Value.int IntKind.i64
                                    (cutN
                                      (exN 6 (scl (Vl.n a) (IntKind.wrap IntKind.i64 (imax (Ty.q ta) (Ty.q tb) - Ty.q ta)))
                                        (scl (Vl.n b) (IntKind.wrap IntKind.i64 (imax (Ty.q ta) (Ty.q tb) - Ty.q tb))))
                                      (rty 6 ta tb)),
                                  Value.string (ByteArray.mk #[])]),
                            Value.int IntKind.i64 0, Value.int IntKind.i64 0]))
                else False
              else False
            else False
          else False
        else False) := by kernel_rfl

theorem d36_7 (a : Vl) (ta : Ty) (b : Vl) (tb : Ty) (R : Value → Prop) : bodyR Try.prog G6 noL Try.f36 [Enc.enc (7 : Int), Enc.enc a, Enc.enc ta, Enc.enc b, Enc.enc tb] (fun _ => none) 0 (fun v _ _ => R v) = (
    bif opnds 7 a ta b tb != 0 then
      R (Value.tuple (Array.mk [Value.agg (Array.mk [Value.int IntKind.i64 0, Value.string (ByteArray.mk #[])]), Value.int IntKind.i64 0, Value.int IntKind.i64 (opnds 7 a ta b tb)]))
    else
      bif Ty.k ta != Ty.k tb then
        R (Value.tuple (Array.mk [Value.agg (Array.mk [Value.int IntKind.i64 0, Value.string (ByteArray.mk #[])]), Value.int IntKind.i64 0, Value.int IntKind.i64 5]))
      else
        bif decide (Valid ta ∧ Valid tb) then
          bif
              decide
                (-18 ≤ IntKind.wrap IntKind.i64 (imax (Ty.q ta) (Ty.q tb) - Ty.q ta) ∧
                  IntKind.wrap IntKind.i64 (imax (Ty.q ta) (Ty.q tb) - Ty.q ta) ≤ 18 ∧
                    R64 (Vl.n a) ∧ R64 (scl (Vl.n a) (IntKind.wrap IntKind.i64 (imax (Ty.q ta) (Ty.q tb) - Ty.q ta)))) then
            bif
                decide
                  (-18 ≤ IntKind.wrap IntKind.i64 (imax (Ty.q ta) (Ty.q tb) - Ty.q tb) ∧
                    IntKind.wrap IntKind.i64 (imax (Ty.q ta) (Ty.q tb) - Ty.q tb) ≤ 18 ∧
                      R64 (Vl.n b) ∧ R64 (scl (Vl.n b) (IntKind.wrap IntKind.i64 (imax (Ty.q ta) (Ty.q tb) - Ty.q tb)))) then
              bif
                  decide
                    (-P18 ≤ scl (Vl.n a) (IntKind.wrap IntKind.i64 (imax (Ty.q ta) (Ty.q tb) - Ty.q ta)) ∧
                      scl (Vl.n a) (IntKind.wrap IntKind.i64 (imax (Ty.q ta) (Ty.q tb) - Ty.q ta)) ≤ P18 ∧
                        -P18 ≤ scl (Vl.n b) (IntKind.wrap IntKind.i64 (imax (Ty.q ta) (Ty.q tb) - Ty.q tb)) ∧
                          scl (Vl.n b) (IntKind.wrap IntKind.i64 (imax (Ty.q ta) (Ty.q tb) - Ty.q tb)) ≤ P18 ∧
                            dvOK 7 (scl (Vl.n b) (IntKind.wrap IntKind.i64 (imax (Ty.q ta) (Ty.q tb) - Ty.q tb)))) then
                bif decide (Valid (rty 7 ta tb)) then
                  bif
                      !decide
                          (InB
                            (exN 7 (scl (Vl.n a) (IntKind.wrap IntKind.i64 (imax (Ty.q ta) (Ty.q tb) - Ty.q ta)))
                              (scl (Vl.n b) (IntKind.wrap IntKind.i64 (imax (Ty.q ta) (Ty.q tb) - Ty.q tb))))
                            (rty 7 ta tb)) then
                    R
                      (Value.tuple
                        (Array.mk
                          [Value.agg
                              (Array.mk
                                [Value.int IntKind.i64
                                    (cutN
                                      (exN 7 (scl (Vl.n a) (IntKind.wrap IntKind.i64 (imax (Ty.q ta) (Ty.q tb) - Ty.q ta)))
                                        (scl (Vl.n b) (IntKind.wrap IntKind.i64 (imax (Ty.q ta) (Ty.q tb) - Ty.q tb))))
                                      (rty 7 ta tb)),
                                  Value.string (ByteArray.mk #[])]),
                            Value.int IntKind.i64 2, Value.int IntKind.i64 0]))
                  else
                    R
                      (Value.tuple
                        (Array.mk
                          [Value.agg
                              (Array.mk
                                [Value.int IntKind.i64
                                    (cutN
                                      (exN 7 (scl (Vl.n a) (IntKind.wrap IntKind.i64 (imax (Ty.q ta) (Ty.q tb) - Ty.q ta)))
                                        (scl (Vl.n b) (IntKind.wrap IntKind.i64 (imax (Ty.q ta) (Ty.q tb) - Ty.q tb))))
                                      (rty 7 ta tb)),
                                  Value.string (ByteArray.mk #[])]),
                            Value.int IntKind.i64 0, Value.int IntKind.i64 0]))
                else False
              else False
            else False
          else False
        else False) := by kernel_rfl

theorem d36_8 (a : Vl) (ta : Ty) (b : Vl) (tb : Ty) (R : Value → Prop) : bodyR Try.prog G6 noL Try.f36 [Enc.enc (8 : Int), Enc.enc a, Enc.enc ta, Enc.enc b, Enc.enc tb] (fun _ => none) 0 (fun v _ _ => R v) = (
    bif opnds 8 a ta b tb != 0 then
      R (Value.tuple (Array.mk [Value.agg (Array.mk [Value.int IntKind.i64 0, Value.string (ByteArray.mk #[])]), Value.int IntKind.i64 0, Value.int IntKind.i64 (opnds 8 a ta b tb)]))
    else
      bif Ty.k ta != Ty.k tb then
        R (Value.tuple (Array.mk [Value.agg (Array.mk [Value.int IntKind.i64 0, Value.string (ByteArray.mk #[])]), Value.int IntKind.i64 0, Value.int IntKind.i64 5]))
      else
        bif decide (Valid ta ∧ Valid tb) then
          bif
              decide
                (-18 ≤ IntKind.wrap IntKind.i64 (Ty.q (rty 8 ta tb) - IntKind.wrap IntKind.i64 (Ty.q ta + Ty.q tb)) ∧
                  IntKind.wrap IntKind.i64 (Ty.q (rty 8 ta tb) - IntKind.wrap IntKind.i64 (Ty.q ta + Ty.q tb)) ≤ 18 ∧
                    R64 (IntKind.wrap IntKind.i64 (Vl.n a * Vl.n b)) ∧
                      R64 (scl (IntKind.wrap IntKind.i64 (Vl.n a * Vl.n b)) (IntKind.wrap IntKind.i64 (Ty.q (rty 8 ta tb) - IntKind.wrap IntKind.i64 (Ty.q ta + Ty.q tb))))) then
            bif decide (Valid (rty 8 ta tb)) then
              bif
                  !decide
                      (InB (scl (IntKind.wrap IntKind.i64 (Vl.n a * Vl.n b)) (IntKind.wrap IntKind.i64 (Ty.q (rty 8 ta tb) - IntKind.wrap IntKind.i64 (Ty.q ta + Ty.q tb))))
                        (rty 8 ta tb)) then
                R
                  (Value.tuple
                    (Array.mk
                      [Value.agg
                          (Array.mk
                            [Value.int IntKind.i64
                                (cutN (scl (IntKind.wrap IntKind.i64 (Vl.n a * Vl.n b)) (IntKind.wrap IntKind.i64 (Ty.q (rty 8 ta tb) - IntKind.wrap IntKind.i64 (Ty.q ta + Ty.q tb))))
                                  (rty 8 ta tb)),
                              Value.string (ByteArray.mk #[])]),
                        Value.int IntKind.i64 2, Value.int IntKind.i64 0]))
              else
                R
                  (Value.tuple
                    (Array.mk
                      [Value.agg
                          (Array.mk
                            [Value.int IntKind.i64
                                (cutN (scl (IntKind.wrap IntKind.i64 (Vl.n a * Vl.n b)) (IntKind.wrap IntKind.i64 (Ty.q (rty 8 ta tb) - IntKind.wrap IntKind.i64 (Ty.q ta + Ty.q tb))))
                                  (rty 8 ta tb)),
                              Value.string (ByteArray.mk #[])]),
                        Value.int IntKind.i64 0, Value.int IntKind.i64 0]))
            else False
          else False
        else False) := by kernel_rfl

theorem d36_9 (a : Vl) (ta : Ty) (b : Vl) (tb : Ty) (R : Value → Prop) : bodyR Try.prog G6 noL Try.f36 [Enc.enc (9 : Int), Enc.enc a, Enc.enc ta, Enc.enc b, Enc.enc tb] (fun _ => none) 0 (fun v _ _ => R v) = (
    bif opnds 9 a ta b tb != 0 then
      R (Value.tuple (Array.mk [Value.agg (Array.mk [Value.int IntKind.i64 0, Value.string (ByteArray.mk #[])]), Value.int IntKind.i64 0, Value.int IntKind.i64 (opnds 9 a ta b tb)]))
    else
      bif Ty.k ta != Ty.k tb then
        R (Value.tuple (Array.mk [Value.agg (Array.mk [Value.int IntKind.i64 0, Value.string (ByteArray.mk #[])]), Value.int IntKind.i64 0, Value.int IntKind.i64 5]))
      else
        bif Vl.n b == 0 then
          R (Value.tuple (Array.mk [Value.agg (Array.mk [Value.int IntKind.i64 0, Value.string (ByteArray.mk #[])]), Value.int IntKind.i64 3, Value.int IntKind.i64 0]))
        else
          bif decide (Valid ta ∧ Valid tb) then
            bif
                decide
                  (0 ≤ Ty.q ta ∧
                    Ty.q ta ≤ 9 ∧ 0 ≤ Ty.q tb ∧ Ty.q tb ≤ 9 ∧ 0 ≤ Ty.q (rty 9 ta tb) ∧ Ty.q (rty 9 ta tb) ≤ 9 ∧ quoOK (Vl.n a) (Vl.n b) (Ty.q tb + Ty.q (rty 9 ta tb) - Ty.q ta)) then
              bif decide (Valid (rty 9 ta tb)) then
                bif !decide (InB (quoN (Vl.n a) (Vl.n b) (Ty.q tb + Ty.q (rty 9 ta tb) - Ty.q ta)) (rty 9 ta tb)) then
                  R
                    (Value.tuple
                      (Array.mk
                        [Value.agg
                            (Array.mk [Value.int IntKind.i64 (cutN (quoN (Vl.n a) (Vl.n b) (Ty.q tb + Ty.q (rty 9 ta tb) - Ty.q ta)) (rty 9 ta tb)), Value.string (ByteArray.mk #[])]),
                          Value.int IntKind.i64 2, Value.int IntKind.i64 0]))
                else
                  R
                    (Value.tuple
                      (Array.mk
                        [Value.agg
                            (Array.mk [Value.int IntKind.i64 (cutN (quoN (Vl.n a) (Vl.n b) (Ty.q tb + Ty.q (rty 9 ta tb) - Ty.q ta)) (rty 9 ta tb)), Value.string (ByteArray.mk #[])]),
                          Value.int IntKind.i64 0, Value.int IntKind.i64 0]))
              else False
            else False
          else False) := by kernel_rfl

theorem d36_10 (a : Vl) (ta : Ty) (b : Vl) (tb : Ty) (R : Value → Prop) : bodyR Try.prog G6 noL Try.f36 [Enc.enc (10 : Int), Enc.enc a, Enc.enc ta, Enc.enc b, Enc.enc tb] (fun _ => none) 0 (fun v _ _ => R v) = (
    bif opnds 10 a ta b tb != 0 then
      R (Value.tuple (Array.mk [Value.agg (Array.mk [Value.int IntKind.i64 0, Value.string (ByteArray.mk #[])]), Value.int IntKind.i64 0, Value.int IntKind.i64 (opnds 10 a ta b tb)]))
    else
      bif Ty.k ta != Ty.k tb then
        R (Value.tuple (Array.mk [Value.agg (Array.mk [Value.int IntKind.i64 0, Value.string (ByteArray.mk #[])]), Value.int IntKind.i64 0, Value.int IntKind.i64 5]))
      else
        bif Vl.n b == 0 then
          R (Value.tuple (Array.mk [Value.agg (Array.mk [Value.int IntKind.i64 0, Value.string (ByteArray.mk #[])]), Value.int IntKind.i64 3, Value.int IntKind.i64 0]))
        else
          bif decide (Valid ta ∧ Valid tb) then
            bif
                decide
                  (-18 ≤ IntKind.wrap IntKind.i64 (imax (Ty.q ta) (Ty.q tb) - Ty.q ta) ∧
                    IntKind.wrap IntKind.i64 (imax (Ty.q ta) (Ty.q tb) - Ty.q ta) ≤ 18 ∧
                      R64 (Vl.n a) ∧ R64 (scl (Vl.n a) (IntKind.wrap IntKind.i64 (imax (Ty.q ta) (Ty.q tb) - Ty.q ta)))) then
              bif
                  decide
                    (-18 ≤ IntKind.wrap IntKind.i64 (imax (Ty.q ta) (Ty.q tb) - Ty.q tb) ∧
                      IntKind.wrap IntKind.i64 (imax (Ty.q ta) (Ty.q tb) - Ty.q tb) ≤ 18 ∧
                        R64 (Vl.n b) ∧ R64 (scl (Vl.n b) (IntKind.wrap IntKind.i64 (imax (Ty.q ta) (Ty.q tb) - Ty.q tb)))) then
                bif
                    decide
                      (-P18 ≤ scl (Vl.n a) (IntKind.wrap IntKind.i64 (imax (Ty.q ta) (Ty.q tb) - Ty.q ta)) ∧
                        scl (Vl.n a) (IntKind.wrap IntKind.i64 (imax (Ty.q ta) (Ty.q tb) - Ty.q ta)) ≤ P18 ∧
                          -P18 ≤ scl (Vl.n b) (IntKind.wrap IntKind.i64 (imax (Ty.q ta) (Ty.q tb) - Ty.q tb)) ∧
                            scl (Vl.n b) (IntKind.wrap IntKind.i64 (imax (Ty.q ta) (Ty.q tb) - Ty.q tb)) ≤ P18 ∧
                              dvOK 10 (scl (Vl.n b) (IntKind.wrap IntKind.i64 (imax (Ty.q ta) (Ty.q tb) - Ty.q tb)))) then
                  bif decide (Valid (rty 10 ta tb)) then
                    bif
                        !decide
                            (InB
                              (exN 10 (scl (Vl.n a) (IntKind.wrap IntKind.i64 (imax (Ty.q ta) (Ty.q tb) - Ty.q ta)))
                                (scl (Vl.n b) (IntKind.wrap IntKind.i64 (imax (Ty.q ta) (Ty.q tb) - Ty.q tb))))
                              (rty 10 ta tb)) then
                      R
                        (Value.tuple
                          (Array.mk
                            [Value.agg
                                (Array.mk
                                  [Value.int IntKind.i64
                                      (cutN
                                        (exN 10 (scl (Vl.n a) (IntKind.wrap IntKind.i64 (imax (Ty.q ta) (Ty.q tb) - Ty.q ta)))
                                          (scl (Vl.n b) (IntKind.wrap IntKind.i64 (imax (Ty.q ta) (Ty.q tb) - Ty.q tb))))
                                        (rty 10 ta tb)),
                                    Value.string (ByteArray.mk #[])]),
                              Value.int IntKind.i64 2, Value.int IntKind.i64 0]))
                    else
                      R
                        (Value.tuple
                          (Array.mk
                            [Value.agg
                                (Array.mk
                                  [Value.int IntKind.i64
                                      (cutN
                                        (exN 10 (scl (Vl.n a) (IntKind.wrap IntKind.i64 (imax (Ty.q ta) (Ty.q tb) - Ty.q ta)))
                                          (scl (Vl.n b) (IntKind.wrap IntKind.i64 (imax (Ty.q ta) (Ty.q tb) - Ty.q tb))))
                                        (rty 10 ta tb)),
                                    Value.string (ByteArray.mk #[])]),
                              Value.int IntKind.i64 0, Value.int IntKind.i64 0]))
                  else False
                else False
              else False
            else False
          else False) := by kernel_rfl

theorem d36_11 (a : Vl) (ta : Ty) (b : Vl) (tb : Ty) (R : Value → Prop) : bodyR Try.prog G6 noL Try.f36 [Enc.enc (11 : Int), Enc.enc a, Enc.enc ta, Enc.enc b, Enc.enc tb] (fun _ => none) 0 (fun v _ _ => R v) = (
    bif opnds 11 a ta b tb != 0 then
      R (Value.tuple (Array.mk [Value.agg (Array.mk [Value.int IntKind.i64 0, Value.string (ByteArray.mk #[])]), Value.int IntKind.i64 0, Value.int IntKind.i64 (opnds 11 a ta b tb)]))
    else
      bif Ty.k ta != Ty.k ta then
        R (Value.tuple (Array.mk [Value.agg (Array.mk [Value.int IntKind.i64 0, Value.string (ByteArray.mk #[])]), Value.int IntKind.i64 0, Value.int IntKind.i64 5]))
      else
        bif decide (Valid ta ∧ Valid ta) then
          bif
              decide
                (-18 ≤ IntKind.wrap IntKind.i64 (imax (Ty.q ta) (Ty.q ta) - Ty.q ta) ∧
                  IntKind.wrap IntKind.i64 (imax (Ty.q ta) (Ty.q ta) - Ty.q ta) ≤ 18 ∧
                    R64 (Vl.n a) ∧ R64 (scl (Vl.n a) (IntKind.wrap IntKind.i64 (imax (Ty.q ta) (Ty.q ta) - Ty.q ta)))) then
            bif
                decide
                  (-18 ≤ IntKind.wrap IntKind.i64 (imax (Ty.q ta) (Ty.q ta) - Ty.q ta) ∧
                    IntKind.wrap IntKind.i64 (imax (Ty.q ta) (Ty.q ta) - Ty.q ta) ≤ 18 ∧
                      R64 (Vl.n a) ∧ R64 (scl (Vl.n a) (IntKind.wrap IntKind.i64 (imax (Ty.q ta) (Ty.q ta) - Ty.q ta)))) then
              bif
                  decide
                    (-P18 ≤ scl (Vl.n a) (IntKind.wrap IntKind.i64 (imax (Ty.q ta) (Ty.q ta) - Ty.q ta)) ∧
                      scl (Vl.n a) (IntKind.wrap IntKind.i64 (imax (Ty.q ta) (Ty.q ta) - Ty.q ta)) ≤ P18 ∧
                        -P18 ≤ scl (Vl.n a) (IntKind.wrap IntKind.i64 (imax (Ty.q ta) (Ty.q ta) - Ty.q ta)) ∧
                          scl (Vl.n a) (IntKind.wrap IntKind.i64 (imax (Ty.q ta) (Ty.q ta) - Ty.q ta)) ≤ P18 ∧
                            dvOK 11 (scl (Vl.n a) (IntKind.wrap IntKind.i64 (imax (Ty.q ta) (Ty.q ta) - Ty.q ta)))) then
                bif decide (Valid (rty 11 ta ta)) then
                  bif
                      !decide
                          (InB
                            (exN 11 (scl (Vl.n a) (IntKind.wrap IntKind.i64 (imax (Ty.q ta) (Ty.q ta) - Ty.q ta)))
                              (scl (Vl.n a) (IntKind.wrap IntKind.i64 (imax (Ty.q ta) (Ty.q ta) - Ty.q ta))))
                            (rty 11 ta ta)) then
                    R
                      (Value.tuple
                        (Array.mk
                          [Value.agg
                              (Array.mk
                                [Value.int IntKind.i64
                                    (cutN
                                      (exN 11 (scl (Vl.n a) (IntKind.wrap IntKind.i64 (imax (Ty.q ta) (Ty.q ta) - Ty.q ta)))
                                        (scl (Vl.n a) (IntKind.wrap IntKind.i64 (imax (Ty.q ta) (Ty.q ta) - Ty.q ta))))
                                      (rty 11 ta ta)),
                                  Value.string (ByteArray.mk #[])]),
                            Value.int IntKind.i64 2, Value.int IntKind.i64 0]))
                  else
                    R
                      (Value.tuple
                        (Array.mk
                          [Value.agg
                              (Array.mk
                                [Value.int IntKind.i64
                                    (cutN
                                      (exN 11 (scl (Vl.n a) (IntKind.wrap IntKind.i64 (imax (Ty.q ta) (Ty.q ta) - Ty.q ta)))
                                        (scl (Vl.n a) (IntKind.wrap IntKind.i64 (imax (Ty.q ta) (Ty.q ta) - Ty.q ta))))
                                      (rty 11 ta ta)),
                                  Value.string (ByteArray.mk #[])]),
                            Value.int IntKind.i64 0, Value.int IntKind.i64 0]))
                else False
              else False
            else False
          else False
        else False) := by kernel_rfl

theorem d36_12 (a : Vl) (ta : Ty) (b : Vl) (tb : Ty) (R : Value → Prop) : bodyR Try.prog G6 noL Try.f36 [Enc.enc (12 : Int), Enc.enc a, Enc.enc ta, Enc.enc b, Enc.enc tb] (fun _ => none) 0 (fun v _ _ => R v) = (
    bif opnds 12 a ta b tb != 0 then
      R (Value.tuple (Array.mk [Value.agg (Array.mk [Value.int IntKind.i64 0, Value.string (ByteArray.mk #[])]), Value.int IntKind.i64 0, Value.int IntKind.i64 (opnds 12 a ta b tb)]))
    else
      bif Ty.k ta != Ty.k tb then
        R (Value.tuple (Array.mk [Value.agg (Array.mk [Value.int IntKind.i64 0, Value.string (ByteArray.mk #[])]), Value.int IntKind.i64 0, Value.int IntKind.i64 5]))
      else
        bif decide (Valid ta ∧ Valid tb) then
          bif
              decide
                (-18 ≤ IntKind.wrap IntKind.i64 (imax (Ty.q ta) (Ty.q tb) - Ty.q ta) ∧
                  IntKind.wrap IntKind.i64 (imax (Ty.q ta) (Ty.q tb) - Ty.q ta) ≤ 18 ∧
                    R64 (Vl.n a) ∧ R64 (scl (Vl.n a) (IntKind.wrap IntKind.i64 (imax (Ty.q ta) (Ty.q tb) - Ty.q ta)))) then
            bif
                decide
                  (-18 ≤ IntKind.wrap IntKind.i64 (imax (Ty.q ta) (Ty.q tb) - Ty.q tb) ∧
                    IntKind.wrap IntKind.i64 (imax (Ty.q ta) (Ty.q tb) - Ty.q tb) ≤ 18 ∧
                      R64 (Vl.n b) ∧ R64 (scl (Vl.n b) (IntKind.wrap IntKind.i64 (imax (Ty.q ta) (Ty.q tb) - Ty.q tb)))) then
              bif
                  decide
                    (-P18 ≤ scl (Vl.n a) (IntKind.wrap IntKind.i64 (imax (Ty.q ta) (Ty.q tb) - Ty.q ta)) ∧
                      scl (Vl.n a) (IntKind.wrap IntKind.i64 (imax (Ty.q ta) (Ty.q tb) - Ty.q ta)) ≤ P18 ∧
                        -P18 ≤ scl (Vl.n b) (IntKind.wrap IntKind.i64 (imax (Ty.q ta) (Ty.q tb) - Ty.q tb)) ∧
                          scl (Vl.n b) (IntKind.wrap IntKind.i64 (imax (Ty.q ta) (Ty.q tb) - Ty.q tb)) ≤ P18 ∧
                            dvOK 12 (scl (Vl.n b) (IntKind.wrap IntKind.i64 (imax (Ty.q ta) (Ty.q tb) - Ty.q tb)))) then
                bif decide (Valid (rty 12 ta tb)) then
                  bif
                      !decide
                          (InB
                            (exN 12 (scl (Vl.n a) (IntKind.wrap IntKind.i64 (imax (Ty.q ta) (Ty.q tb) - Ty.q ta)))
                              (scl (Vl.n b) (IntKind.wrap IntKind.i64 (imax (Ty.q ta) (Ty.q tb) - Ty.q tb))))
                            (rty 12 ta tb)) then
                    R
                      (Value.tuple
                        (Array.mk
                          [Value.agg
                              (Array.mk
                                [Value.int IntKind.i64
                                    (cutN
                                      (exN 12 (scl (Vl.n a) (IntKind.wrap IntKind.i64 (imax (Ty.q ta) (Ty.q tb) - Ty.q ta)))
                                        (scl (Vl.n b) (IntKind.wrap IntKind.i64 (imax (Ty.q ta) (Ty.q tb) - Ty.q tb))))
                                      (rty 12 ta tb)),
                                  Value.string (ByteArray.mk #[])]),
                            Value.int IntKind.i64 2, Value.int IntKind.i64 0]))
                  else
                    R
                      (Value.tuple
                        (Array.mk
                          [Value.agg
                              (Array.mk
                                [Value.int IntKind.i64
                                    (cutN
                                      (exN 12 (scl (Vl.n a) (IntKind.wrap IntKind.i64 (imax (Ty.q ta) (Ty.q tb) - Ty.q ta)))
                                        (scl (Vl.n b) (IntKind.wrap IntKind.i64 (imax (Ty.q ta) (Ty.q tb) - Ty.q tb))))
                                      (rty 12 ta tb)),
                                  Value.string (ByteArray.mk #[])]),
                            Value.int IntKind.i64 0, Value.int IntKind.i64 0]))
                else False
              else False
            else False
          else False
        else False) := by kernel_rfl

theorem d36_13 (a : Vl) (ta : Ty) (b : Vl) (tb : Ty) (R : Value → Prop) : bodyR Try.prog G6 noL Try.f36 [Enc.enc (13 : Int), Enc.enc a, Enc.enc ta, Enc.enc b, Enc.enc tb] (fun _ => none) 0 (fun v _ _ => R v) = (
    bif opnds 13 a ta b tb != 0 then
      R (Value.tuple (Array.mk [Value.agg (Array.mk [Value.int IntKind.i64 0, Value.string (ByteArray.mk #[])]), Value.int IntKind.i64 0, Value.int IntKind.i64 (opnds 13 a ta b tb)]))
    else
      bif Ty.k ta != Ty.k tb then
        R (Value.tuple (Array.mk [Value.agg (Array.mk [Value.int IntKind.i64 0, Value.string (ByteArray.mk #[])]), Value.int IntKind.i64 0, Value.int IntKind.i64 5]))
      else
        bif decide (Valid ta ∧ Valid tb) then
          bif
              decide
                (-18 ≤ IntKind.wrap IntKind.i64 (imax (Ty.q ta) (Ty.q tb) - Ty.q ta) ∧
                  IntKind.wrap IntKind.i64 (imax (Ty.q ta) (Ty.q tb) - Ty.q ta) ≤ 18 ∧
                    R64 (Vl.n a) ∧ R64 (scl (Vl.n a) (IntKind.wrap IntKind.i64 (imax (Ty.q ta) (Ty.q tb) - Ty.q ta)))) then
            bif
                decide
                  (-18 ≤ IntKind.wrap IntKind.i64 (imax (Ty.q ta) (Ty.q tb) - Ty.q tb) ∧
                    IntKind.wrap IntKind.i64 (imax (Ty.q ta) (Ty.q tb) - Ty.q tb) ≤ 18 ∧
                      R64 (Vl.n b) ∧ R64 (scl (Vl.n b) (IntKind.wrap IntKind.i64 (imax (Ty.q ta) (Ty.q tb) - Ty.q tb)))) then
              bif
                  decide
                    (-P18 ≤ scl (Vl.n a) (IntKind.wrap IntKind.i64 (imax (Ty.q ta) (Ty.q tb) - Ty.q ta)) ∧
                      scl (Vl.n a) (IntKind.wrap IntKind.i64 (imax (Ty.q ta) (Ty.q tb) - Ty.q ta)) ≤ P18 ∧
                        -P18 ≤ scl (Vl.n b) (IntKind.wrap IntKind.i64 (imax (Ty.q ta) (Ty.q tb) - Ty.q tb)) ∧
                          scl (Vl.n b) (IntKind.wrap IntKind.i64 (imax (Ty.q ta) (Ty.q tb) - Ty.q tb)) ≤ P18 ∧
                            dvOK 13 (scl (Vl.n b) (IntKind.wrap IntKind.i64 (imax (Ty.q ta) (Ty.q tb) - Ty.q tb)))) then
                bif decide (Valid (rty 13 ta tb)) then
                  bif
                      !decide
                          (InB
                            (exN 13 (scl (Vl.n a) (IntKind.wrap IntKind.i64 (imax (Ty.q ta) (Ty.q tb) - Ty.q ta)))
                              (scl (Vl.n b) (IntKind.wrap IntKind.i64 (imax (Ty.q ta) (Ty.q tb) - Ty.q tb))))
                            (rty 13 ta tb)) then
                    R
                      (Value.tuple
                        (Array.mk
                          [Value.agg
                              (Array.mk
                                [Value.int IntKind.i64
                                    (cutN
                                      (exN 13 (scl (Vl.n a) (IntKind.wrap IntKind.i64 (imax (Ty.q ta) (Ty.q tb) - Ty.q ta)))
                                        (scl (Vl.n b) (IntKind.wrap IntKind.i64 (imax (Ty.q ta) (Ty.q tb) - Ty.q tb))))
                                      (rty 13 ta tb)),
                                  Value.string (ByteArray.mk #[])]),
                            Value.int IntKind.i64 2, Value.int IntKind.i64 0]))
                  else
                    R
                      (Value.tuple
                        (Array.mk
                          [Value.agg
                              (Array.mk
                                [Value.int IntKind.i64
                                    (cutN
                                      (exN 13 (scl (Vl.n a) (IntKind.wrap IntKind.i64 (imax (Ty.q ta) (Ty.q tb) - Ty.q ta)))
                                        (scl (Vl.n b) (IntKind.wrap IntKind.i64 (imax (Ty.q ta) (Ty.q tb) - Ty.q tb))))
                                      (rty 13 ta tb)),
                                  Value.string (ByteArray.mk #[])]),
                            Value.int IntKind.i64 0, Value.int IntKind.i64 0]))
                else False
              else False
            else False
          else False
        else False) := by kernel_rfl

def s36x (op : Int) (a : Vl) (ta : Ty) (b : Vl) (tb : Ty) : Bool × Value := (decide (isOp op = false), tup [vv V0, I 0, I 1])
theorem fn36 : Fn1 Try.prog 36 Try.f36 := ⟨Try.func36, by kernel_rfl, by kernel_rfl, by kernel_rfl⟩
theorem v36x (op : Int) (a : Vl) (ta : Ty) (b : Vl) (tb : Ty) (R : Value → Prop) : bodyR Try.prog G6x noL Try.f36 [Enc.enc op, Enc.enc a, Enc.enc ta, Enc.enc b, Enc.enc tb] (fun _ => none) 0 (fun v _ _ => R v) = (
    bif decide (isOp op = false) then
      R (Value.tuple (Array.mk [Value.agg (Array.mk [Value.int IntKind.i64 0, Value.string (ByteArray.mk #[])]), Value.int IntKind.i64 0, Value.int IntKind.i64 1]))
    else False) := by kernel_rfl
theorem ok36x : PureOK Try.prog 36 (sp5 s36x) := by
  refine pure5 ok_G6x hmix fn36 lokf_none (Nat.le_of_ble_eq_true (by kernel_rfl)) fun op a ta b tb hc => ?_
  rw [Does, v36x]
  have hc : (isOp op = false) := of_decide_eq_true hc
  repeat' refine cond_intro (fun h => ?_) (fun h => ?_)
  all_goals grind (splits := 40) [s36x, V0, isOp]

theorem w36_5 (a : Vl) (ta : Ty) (b : Vl) (tb : Ty) : Does Try.prog G6 noL Try.f36 [Enc.enc (5 : Int), Enc.enc a, Enc.enc ta, Enc.enc b, Enc.enc tb] (doR 5 a ta b tb) := by
  rw [Does, d36_5]
  by_cases ea : fits a ta = 0
  · obtain ⟨va, fa⟩ := fits0.1 ea
    have ra := valid_r va
    have fa2 := fa.2
    have ba := bnd_range va
    have sa := (scl_max va va rfl fa.2).1
    unfold P18 at sa
    have rv := rty_valid (op := 5) va va rfl (by decide)
    have hd := do_un (op := 5) (b := b) (tb := tb) (by decide) (by decide) ea
    rw [hd.1]
    try simp only [imax_max, rty_q]
    try simp (disch := omega) only [w64]
    ((repeat' refine cond_intro (fun h => ?_) (fun h => ?_)); all_goals grind (splits := 40) [doN1, doC1, zer, cutC, e0, R64, P18, dvOK, opN_8, opN_9, opN_x])
  · ((repeat' refine cond_intro (fun h => ?_) (fun h => ?_)); all_goals grind (splits := 40) [opnds, unary, isOp, doN, doC, doE, e0])


theorem w36_6 (a : Vl) (ta : Ty) (b : Vl) (tb : Ty) : Does Try.prog G6 noL Try.f36 [Enc.enc (6 : Int), Enc.enc a, Enc.enc ta, Enc.enc b, Enc.enc tb] (doR 6 a ta b tb) := by
  rw [Does, d36_6]
  by_cases ea : fits a ta = 0
  · obtain ⟨va, fa⟩ := fits0.1 ea
    have ra := valid_r va
    have fa2 := fa.2
    have ba := bnd_range va
    by_cases eb : fits b tb = 0
    · obtain ⟨vb, fb⟩ := fits0.1 eb
      have rb := valid_r vb
      have fb2 := fb.2
      have bb := bnd_range vb
      by_cases ek : ta.k = tb.k
      · have sa := (scl_max va vb ek fa.2).1
        have sb := (scl_max vb va ek.symm fb.2).2
        unfold P18 at sa sb
        have rv := rty_valid (op := 6) va vb ek (by decide)
        have hd := do_bin (op := 6) (by decide) (by decide) ea eb ek
        rw [hd.1]
        try simp only [imax_max, imin_min, rty_q]
        try simp (disch := omega) only [w64]
        ((repeat' refine cond_intro (fun h => ?_) (fun h => ?_)); all_goals grind (splits := 40) [doN1, doC1, zer, cutC, e0, R64, P18, dvOK, opN_8, opN_9, opN_x])
      · ((repeat' refine cond_intro (fun h => ?_) (fun h => ?_)); all_goals grind (splits := 40) [opnds, unary, isOp, doN, doC, doE, e0])
    · ((repeat' refine cond_intro (fun h => ?_) (fun h => ?_)); all_goals grind (splits := 40) [opnds, unary, isOp, doN, doC, doE, e0])
  · ((repeat' refine cond_intro (fun h => ?_) (fun h => ?_)); all_goals grind (splits := 40) [opnds, unary, isOp, doN, doC, doE, e0])


theorem w36_7 (a : Vl) (ta : Ty) (b : Vl) (tb : Ty) : Does Try.prog G6 noL Try.f36 [Enc.enc (7 : Int), Enc.enc a, Enc.enc ta, Enc.enc b, Enc.enc tb] (doR 7 a ta b tb) := by
  rw [Does, d36_7]
  by_cases ea : fits a ta = 0
  · obtain ⟨va, fa⟩ := fits0.1 ea
    have ra := valid_r va
    have fa2 := fa.2
    have ba := bnd_range va
    by_cases eb : fits b tb = 0
    · obtain ⟨vb, fb⟩ := fits0.1 eb
      have rb := valid_r vb
      have fb2 := fb.2
      have bb := bnd_range vb
      by_cases ek : ta.k = tb.k
      · have sa := (scl_max va vb ek fa.2).1
        have sb := (scl_max vb va ek.symm fb.2).2
        unfold P18 at sa sb
        have rv := rty_valid (op := 7) va vb ek (by decide)
        have hd := do_bin (op := 7) (by decide) (by decide) ea eb ek
        rw [hd.1]
        try simp only [imax_max, imin_min, rty_q]
        try simp (disch := omega) only [w64]
        ((repeat' refine cond_intro (fun h => ?_) (fun h => ?_)); all_goals grind (splits := 40) [doN1, doC1, zer, cutC, e0, R64, P18, dvOK, opN_8, opN_9, opN_x])
      · ((repeat' refine cond_intro (fun h => ?_) (fun h => ?_)); all_goals grind (splits := 40) [opnds, unary, isOp, doN, doC, doE, e0])
    · ((repeat' refine cond_intro (fun h => ?_) (fun h => ?_)); all_goals grind (splits := 40) [opnds, unary, isOp, doN, doC, doE, e0])
  · ((repeat' refine cond_intro (fun h => ?_) (fun h => ?_)); all_goals grind (splits := 40) [opnds, unary, isOp, doN, doC, doE, e0])


theorem w36_8 (a : Vl) (ta : Ty) (b : Vl) (tb : Ty) : Does Try.prog G6 noL Try.f36 [Enc.enc (8 : Int), Enc.enc a, Enc.enc ta, Enc.enc b, Enc.enc tb] (doR 8 a ta b tb) := by
  rw [Does, d36_8]
  by_cases ea : fits a ta = 0
  · obtain ⟨va, fa⟩ := fits0.1 ea
    have ra := valid_r va
    have fa2 := fa.2
    have ba := bnd_range va
    by_cases eb : fits b tb = 0
    · obtain ⟨vb, fb⟩ := fits0.1 eb
      have rb := valid_r vb
      have fb2 := fb.2
      have bb := bnd_range vb
      by_cases ek : ta.k = tb.k
      · have sa := (scl_max va vb ek fa.2).1
        have sb := (scl_max vb va ek.symm fb.2).2
        unfold P18 at sa sb
        have rv := rty_valid (op := 8) va vb ek (by decide)
        have hd := do_bin (op := 8) (by decide) (by decide) ea eb ek
        rw [hd.1]
        have mr := mul_fit va vb ek fa.2 fb.2
        have rq := resQ_mul va vb ek
        have ms := scl_neg (n := a.n * b.n) (d := resQ 8 ta tb - (ta.q + tb.q)) (A := 4611686018427387904) (by omega) mr
        try simp only [imax_max, imin_min, rty_q]
        try simp (disch := omega) only [w64]
        ((repeat' refine cond_intro (fun h => ?_) (fun h => ?_)); all_goals grind (splits := 40) [doN1, doC1, zer, cutC, e0, R64, P18, dvOK, opN_8, opN_9, opN_x])
      · ((repeat' refine cond_intro (fun h => ?_) (fun h => ?_)); all_goals grind (splits := 40) [opnds, unary, isOp, doN, doC, doE, e0])
    · ((repeat' refine cond_intro (fun h => ?_) (fun h => ?_)); all_goals grind (splits := 40) [opnds, unary, isOp, doN, doC, doE, e0])
  · ((repeat' refine cond_intro (fun h => ?_) (fun h => ?_)); all_goals grind (splits := 40) [opnds, unary, isOp, doN, doC, doE, e0])


theorem w36_9 (a : Vl) (ta : Ty) (b : Vl) (tb : Ty) : Does Try.prog G6 noL Try.f36 [Enc.enc (9 : Int), Enc.enc a, Enc.enc ta, Enc.enc b, Enc.enc tb] (doR 9 a ta b tb) := by
  rw [Does, d36_9]
  by_cases ea : fits a ta = 0
  · obtain ⟨va, fa⟩ := fits0.1 ea
    have ra := valid_r va
    have fa2 := fa.2
    have ba := bnd_range va
    by_cases eb : fits b tb = 0
    · obtain ⟨vb, fb⟩ := fits0.1 eb
      have rb := valid_r vb
      have fb2 := fb.2
      have bb := bnd_range vb
      by_cases ek : ta.k = tb.k
      · have sa := (scl_max va vb ek fa.2).1
        have sb := (scl_max vb va ek.symm fb.2).2
        unfold P18 at sa sb
        have rv := rty_valid (op := 9) va vb ek (by decide)
        have hd := do_bin (op := 9) (by decide) (by decide) ea eb ek
        rw [hd.1]
        have qo := div_ok va vb ek fa.2 fb.2
        try simp only [imax_max, imin_min, rty_q]
        try simp (disch := omega) only [w64]
        ((repeat' refine cond_intro (fun h => ?_) (fun h => ?_)); all_goals grind (splits := 40) [doN1, doC1, zer, cutC, e0, R64, P18, dvOK, opN_8, opN_9, opN_x])
      · ((repeat' refine cond_intro (fun h => ?_) (fun h => ?_)); all_goals grind (splits := 40) [opnds, unary, isOp, doN, doC, doE, e0])
    · ((repeat' refine cond_intro (fun h => ?_) (fun h => ?_)); all_goals grind (splits := 40) [opnds, unary, isOp, doN, doC, doE, e0])
  · ((repeat' refine cond_intro (fun h => ?_) (fun h => ?_)); all_goals grind (splits := 40) [opnds, unary, isOp, doN, doC, doE, e0])


theorem w36_10 (a : Vl) (ta : Ty) (b : Vl) (tb : Ty) : Does Try.prog G6 noL Try.f36 [Enc.enc (10 : Int), Enc.enc a, Enc.enc ta, Enc.enc b, Enc.enc tb] (doR 10 a ta b tb) := by
  rw [Does, d36_10]
  by_cases ea : fits a ta = 0
  · obtain ⟨va, fa⟩ := fits0.1 ea
    have ra := valid_r va
    have fa2 := fa.2
    have ba := bnd_range va
    by_cases eb : fits b tb = 0
    · obtain ⟨vb, fb⟩ := fits0.1 eb
      have rb := valid_r vb
      have fb2 := fb.2
      have bb := bnd_range vb
      by_cases ek : ta.k = tb.k
      · have sa := (scl_max va vb ek fa.2).1
        have sb := (scl_max vb va ek.symm fb.2).2
        unfold P18 at sa sb
        have rv := rty_valid (op := 10) va vb ek (by decide)
        have hd := do_bin (op := 10) (by decide) (by decide) ea eb ek
        rw [hd.1]
        have zb := scl_ne (n := b.n) (d := max ta.q tb.q - tb.q) (by omega)
        try simp only [imax_max, imin_min, rty_q]
        try simp (disch := omega) only [w64]
        ((repeat' refine cond_intro (fun h => ?_) (fun h => ?_)); all_goals grind (splits := 40) [doN1, doC1, zer, cutC, e0, R64, P18, dvOK, opN_8, opN_9, opN_x])
      · ((repeat' refine cond_intro (fun h => ?_) (fun h => ?_)); all_goals grind (splits := 40) [opnds, unary, isOp, doN, doC, doE, e0])
    · ((repeat' refine cond_intro (fun h => ?_) (fun h => ?_)); all_goals grind (splits := 40) [opnds, unary, isOp, doN, doC, doE, e0])
  · ((repeat' refine cond_intro (fun h => ?_) (fun h => ?_)); all_goals grind (splits := 40) [opnds, unary, isOp, doN, doC, doE, e0])


theorem w36_11 (a : Vl) (ta : Ty) (b : Vl) (tb : Ty) : Does Try.prog G6 noL Try.f36 [Enc.enc (11 : Int), Enc.enc a, Enc.enc ta, Enc.enc b, Enc.enc tb] (doR 11 a ta b tb) := by
  rw [Does, d36_11]
  by_cases ea : fits a ta = 0
  · obtain ⟨va, fa⟩ := fits0.1 ea
    have ra := valid_r va
    have fa2 := fa.2
    have ba := bnd_range va
    have sa := (scl_max va va rfl fa.2).1
    unfold P18 at sa
    have rv := rty_valid (op := 11) va va rfl (by decide)
    have hd := do_un (op := 11) (b := b) (tb := tb) (by decide) (by decide) ea
    rw [hd.1]
    try simp only [imax_max, rty_q]
    try simp (disch := omega) only [w64]
    ((repeat' refine cond_intro (fun h => ?_) (fun h => ?_)); all_goals grind (splits := 40) [doN1, doC1, zer, cutC, e0, R64, P18, dvOK, opN_8, opN_9, opN_x])
  · ((repeat' refine cond_intro (fun h => ?_) (fun h => ?_)); all_goals grind (splits := 40) [opnds, unary, isOp, doN, doC, doE, e0])


theorem w36_12 (a : Vl) (ta : Ty) (b : Vl) (tb : Ty) : Does Try.prog G6 noL Try.f36 [Enc.enc (12 : Int), Enc.enc a, Enc.enc ta, Enc.enc b, Enc.enc tb] (doR 12 a ta b tb) := by
  rw [Does, d36_12]
  by_cases ea : fits a ta = 0
  · obtain ⟨va, fa⟩ := fits0.1 ea
    have ra := valid_r va
    have fa2 := fa.2
    have ba := bnd_range va
    by_cases eb : fits b tb = 0
    · obtain ⟨vb, fb⟩ := fits0.1 eb
      have rb := valid_r vb
      have fb2 := fb.2
      have bb := bnd_range vb
      by_cases ek : ta.k = tb.k
      · have sa := (scl_max va vb ek fa.2).1
        have sb := (scl_max vb va ek.symm fb.2).2
        unfold P18 at sa sb
        have rv := rty_valid (op := 12) va vb ek (by decide)
        have hd := do_bin (op := 12) (by decide) (by decide) ea eb ek
        rw [hd.1]
        try simp only [imax_max, imin_min, rty_q]
        try simp (disch := omega) only [w64]
        ((repeat' refine cond_intro (fun h => ?_) (fun h => ?_)); all_goals grind (splits := 40) [doN1, doC1, zer, cutC, e0, R64, P18, dvOK, opN_8, opN_9, opN_x])
      · ((repeat' refine cond_intro (fun h => ?_) (fun h => ?_)); all_goals grind (splits := 40) [opnds, unary, isOp, doN, doC, doE, e0])
    · ((repeat' refine cond_intro (fun h => ?_) (fun h => ?_)); all_goals grind (splits := 40) [opnds, unary, isOp, doN, doC, doE, e0])
  · ((repeat' refine cond_intro (fun h => ?_) (fun h => ?_)); all_goals grind (splits := 40) [opnds, unary, isOp, doN, doC, doE, e0])


theorem w36_13 (a : Vl) (ta : Ty) (b : Vl) (tb : Ty) : Does Try.prog G6 noL Try.f36 [Enc.enc (13 : Int), Enc.enc a, Enc.enc ta, Enc.enc b, Enc.enc tb] (doR 13 a ta b tb) := by
  rw [Does, d36_13]
  by_cases ea : fits a ta = 0
  · obtain ⟨va, fa⟩ := fits0.1 ea
    have ra := valid_r va
    have fa2 := fa.2
    have ba := bnd_range va
    by_cases eb : fits b tb = 0
    · obtain ⟨vb, fb⟩ := fits0.1 eb
      have rb := valid_r vb
      have fb2 := fb.2
      have bb := bnd_range vb
      by_cases ek : ta.k = tb.k
      · have sa := (scl_max va vb ek fa.2).1
        have sb := (scl_max vb va ek.symm fb.2).2
        unfold P18 at sa sb
        have rv := rty_valid (op := 13) va vb ek (by decide)
        have hd := do_bin (op := 13) (by decide) (by decide) ea eb ek
        rw [hd.1]
        try simp only [imax_max, imin_min, rty_q]
        try simp (disch := omega) only [w64]
        ((repeat' refine cond_intro (fun h => ?_) (fun h => ?_)); all_goals grind (splits := 40) [doN1, doC1, zer, cutC, e0, R64, P18, dvOK, opN_8, opN_9, opN_x])
      · ((repeat' refine cond_intro (fun h => ?_) (fun h => ?_)); all_goals grind (splits := 40) [opnds, unary, isOp, doN, doC, doE, e0])
    · ((repeat' refine cond_intro (fun h => ?_) (fun h => ?_)); all_goals grind (splits := 40) [opnds, unary, isOp, doN, doC, doE, e0])
  · ((repeat' refine cond_intro (fun h => ?_) (fun h => ?_)); all_goals grind (splits := 40) [opnds, unary, isOp, doN, doC, doE, e0])


theorem w36 (op : Int) (a : Vl) (ta : Ty) (b : Vl) (tb : Ty) (h : isOp op = true) : Does Try.prog G6 noL Try.f36 [Enc.enc op, Enc.enc a, Enc.enc ta, Enc.enc b, Enc.enc tb] (doR op a ta b tb) :=
  op_cases (p := fun op => Does Try.prog G6 noL Try.f36 [Enc.enc op, Enc.enc a, Enc.enc ta, Enc.enc b, Enc.enc tb] (doR op a ta b tb)) h (w36_5 a ta b tb) (w36_6 a ta b tb) (w36_7 a ta b tb) (w36_8 a ta b tb) (w36_9 a ta b tb) (w36_10 a ta b tb) (w36_11 a ta b tb) (w36_12 a ta b tb) (w36_13 a ta b tb)

def s36y (op : Int) (a : Vl) (ta : Ty) (b : Vl) (tb : Ty) : Bool × Value := (decide (isOp op = true), doR op a ta b tb)
theorem ok36y : PureOK Try.prog 36 (sp5 s36y) :=
  pure5 ok_G6 hmix fn36 lokf_none (Nat.le_of_ble_eq_true (by kernel_rfl)) fun op a ta b tb hc => w36 op a ta b tb (of_decide_eq_true hc)
def s36 (op : Int) (a : Vl) (ta : Ty) (b : Vl) (tb : Ty) : Bool × Value := (true, doR op a ta b tb)
theorem ok36 : PureOK Try.prog 36 (sp5 s36) := or5 ok36x ok36y fun op a ta b tb => by
  cases h : isOp op
  · left
    simp [s36x, s36, h, doN, doC, doE, V0, e0]
  · right
    simp [s36y, s36, h]

theorem d35_5 (a : Vl) (ta : Ty) (b : Vl) (tb : Ty) (R : Value → Prop) : bodyR Try.prog G6 noL Try.f35 [Enc.enc (5 : Int), Enc.enc a, Enc.enc ta, Enc.enc b, Enc.enc tb] (fun _ => none) 0 (fun v _ _ => R v) = (
    bif fst3 (fits a ta) (fits a ta) (same1 ta ta) != 0 then
      R
        (Value.tuple
          (Array.mk
            [Value.agg (Array.mk [Value.int IntKind.i64 0, Value.string (ByteArray.mk #[])]), Value.int IntKind.i64 0,
              Value.int IntKind.i64 (fst3 (fits a ta) (fits a ta) (same1 ta ta))]))
    else
      bif decide (Valid ta ∧ Valid ta ∧ isOp 5 = true) then
        bif
            decide
              (-18 ≤ imax (Ty.q ta) (Ty.q ta) - Ty.q ta ∧
                imax (Ty.q ta) (Ty.q ta) - Ty.q ta ≤ 18 ∧ -100 ≤ Ty.q ta ∧ Ty.q ta ≤ 100 ∧ R64 (Vl.n a) ∧ R64 (scl (Vl.n a) (imax (Ty.q ta) (Ty.q ta) - Ty.q ta))) then
          bif
              decide
                (-18 ≤ imax (Ty.q ta) (Ty.q ta) - Ty.q ta ∧
                  imax (Ty.q ta) (Ty.q ta) - Ty.q ta ≤ 18 ∧ -100 ≤ Ty.q ta ∧ Ty.q ta ≤ 100 ∧ R64 (Vl.n a) ∧ R64 (scl (Vl.n a) (imax (Ty.q ta) (Ty.q ta) - Ty.q ta))) then
            bif decide (Valid (rty 5 ta ta)) then
              R
                (Value.tuple
                  (Array.mk
                    [Value.agg
                        (Array.mk [Value.int IntKind.i64 (cutN (IntKind.wrap IntKind.i64 (0 - scl (Vl.n a) (imax (Ty.q ta) (Ty.q ta) - Ty.q ta))) (rty 5 ta ta)), Value.string e0]),
                      Value.int IntKind.i64 (cutC (IntKind.wrap IntKind.i64 (0 - scl (Vl.n a) (imax (Ty.q ta) (Ty.q ta) - Ty.q ta))) (rty 5 ta ta) 2), Value.int IntKind.i64 0]))
            else False
          else False
        else False
      else False) := by kernel_rfl

theorem d35_6 (a : Vl) (ta : Ty) (b : Vl) (tb : Ty) (R : Value → Prop) : bodyR Try.prog G6 noL Try.f35 [Enc.enc (6 : Int), Enc.enc a, Enc.enc ta, Enc.enc b, Enc.enc tb] (fun _ => none) 0 (fun v _ _ => R v) = (
    bif fst3 (fits a ta) (fits b tb) (same1 ta tb) != 0 then
      R
        (Value.tuple
          (Array.mk
            [Value.agg (Array.mk [Value.int IntKind.i64 0, Value.string (ByteArray.mk #[])]), Value.int IntKind.i64 0,
              Value.int IntKind.i64 (fst3 (fits a ta) (fits b tb) (same1 ta tb))]))
    else
      bif decide (Valid ta ∧ Valid tb ∧ isOp 6 = true) then
        bif
            decide
              (-18 ≤ imax (Ty.q ta) (Ty.q tb) - Ty.q ta ∧
                imax (Ty.q ta) (Ty.q tb) - Ty.q ta ≤ 18 ∧ -100 ≤ Ty.q ta ∧ Ty.q ta ≤ 100 ∧ R64 (Vl.n a) ∧ R64 (scl (Vl.n a) (imax (Ty.q ta) (Ty.q tb) - Ty.q ta))) then
          bif
              decide
                (-18 ≤ imax (Ty.q ta) (Ty.q tb) - Ty.q tb ∧
                  imax (Ty.q ta) (Ty.q tb) - Ty.q tb ≤ 18 ∧ -100 ≤ Ty.q tb ∧ Ty.q tb ≤ 100 ∧ R64 (Vl.n b) ∧ R64 (scl (Vl.n b) (imax (Ty.q ta) (Ty.q tb) - Ty.q tb))) then
            bif decide (Valid (rty 6 ta tb)) then
              R
                (Value.tuple
                  (Array.mk
                    [Value.agg
                        (Array.mk
                          [Value.int IntKind.i64
                              (cutN (IntKind.wrap IntKind.i64 (scl (Vl.n a) (imax (Ty.q ta) (Ty.q tb) - Ty.q ta) + scl (Vl.n b) (imax (Ty.q ta) (Ty.q tb) - Ty.q tb))) (rty 6 ta tb)),
                            Value.string e0]),
                      Value.int IntKind.i64
                        (cutC (IntKind.wrap IntKind.i64 (scl (Vl.n a) (imax (Ty.q ta) (Ty.q tb) - Ty.q ta) + scl (Vl.n b) (imax (Ty.q ta) (Ty.q tb) - Ty.q tb))) (rty 6 ta tb) 2),
                      Value.int IntKind.i64 0]))
            else False
          else False
        else False
      else False) := by kernel_rfl

theorem d35_7 (a : Vl) (ta : Ty) (b : Vl) (tb : Ty) (R : Value → Prop) : bodyR Try.prog G6 noL Try.f35 [Enc.enc (7 : Int), Enc.enc a, Enc.enc ta, Enc.enc b, Enc.enc tb] (fun _ => none) 0 (fun v _ _ => R v) = (
    bif fst3 (fits a ta) (fits b tb) (same1 ta tb) != 0 then
      R
        (Value.tuple
          (Array.mk
            [Value.agg (Array.mk [Value.int IntKind.i64 0, Value.string (ByteArray.mk #[])]), Value.int IntKind.i64 0,
              Value.int IntKind.i64 (fst3 (fits a ta) (fits b tb) (same1 ta tb))]))
    else
      bif decide (Valid ta ∧ Valid tb ∧ isOp 7 = true) then
        bif
            decide
              (-18 ≤ imax (Ty.q ta) (Ty.q tb) - Ty.q ta ∧
                imax (Ty.q ta) (Ty.q tb) - Ty.q ta ≤ 18 ∧ -100 ≤ Ty.q ta ∧ Ty.q ta ≤ 100 ∧ R64 (Vl.n a) ∧ R64 (scl (Vl.n a) (imax (Ty.q ta) (Ty.q tb) - Ty.q ta))) then
          bif
              decide
                (-18 ≤ imax (Ty.q ta) (Ty.q tb) - Ty.q tb ∧
                  imax (Ty.q ta) (Ty.q tb) - Ty.q tb ≤ 18 ∧ -100 ≤ Ty.q tb ∧ Ty.q tb ≤ 100 ∧ R64 (Vl.n b) ∧ R64 (scl (Vl.n b) (imax (Ty.q ta) (Ty.q tb) - Ty.q tb))) then
            bif decide (Valid (rty 7 ta tb)) then
              R
                (Value.tuple
                  (Array.mk
                    [Value.agg
                        (Array.mk
                          [Value.int IntKind.i64
                              (cutN (IntKind.wrap IntKind.i64 (scl (Vl.n a) (imax (Ty.q ta) (Ty.q tb) - Ty.q ta) - scl (Vl.n b) (imax (Ty.q ta) (Ty.q tb) - Ty.q tb))) (rty 7 ta tb)),
                            Value.string e0]),
                      Value.int IntKind.i64
                        (cutC (IntKind.wrap IntKind.i64 (scl (Vl.n a) (imax (Ty.q ta) (Ty.q tb) - Ty.q ta) - scl (Vl.n b) (imax (Ty.q ta) (Ty.q tb) - Ty.q tb))) (rty 7 ta tb) 2),
                      Value.int IntKind.i64 0]))
            else False
          else False
        else False
      else False) := by kernel_rfl

theorem d35_8 (a : Vl) (ta : Ty) (b : Vl) (tb : Ty) (R : Value → Prop) : bodyR Try.prog G6 noL Try.f35 [Enc.enc (8 : Int), Enc.enc a, Enc.enc ta, Enc.enc b, Enc.enc tb] (fun _ => none) 0 (fun v _ _ => R v) = (
    bif fst3 (fits a ta) (fits b tb) (same1 ta tb) != 0 then
      R
        (Value.tuple
          (Array.mk
            [Value.agg (Array.mk [Value.int IntKind.i64 0, Value.string (ByteArray.mk #[])]), Value.int IntKind.i64 0,
              Value.int IntKind.i64 (fst3 (fits a ta) (fits b tb) (same1 ta tb))]))
    else
      bif decide (Valid ta ∧ Valid tb ∧ isOp 8 = true) then
        bif
            decide
              (-18 ≤ imax (Ty.q ta) (Ty.q tb) - Ty.q ta ∧
                imax (Ty.q ta) (Ty.q tb) - Ty.q ta ≤ 18 ∧ -100 ≤ Ty.q ta ∧ Ty.q ta ≤ 100 ∧ R64 (Vl.n a) ∧ R64 (scl (Vl.n a) (imax (Ty.q ta) (Ty.q tb) - Ty.q ta))) then
          bif
              decide
                (-18 ≤ imax (Ty.q ta) (Ty.q tb) - Ty.q tb ∧
                  imax (Ty.q ta) (Ty.q tb) - Ty.q tb ≤ 18 ∧ -100 ≤ Ty.q tb ∧ Ty.q tb ≤ 100 ∧ R64 (Vl.n b) ∧ R64 (scl (Vl.n b) (imax (Ty.q ta) (Ty.q tb) - Ty.q tb))) then
            bif
                decide
                  (-18 ≤ Ty.q (rty 8 ta tb) - IntKind.wrap IntKind.i64 (Ty.q ta + Ty.q tb) ∧
                    Ty.q (rty 8 ta tb) - IntKind.wrap IntKind.i64 (Ty.q ta + Ty.q tb) ≤ 18 ∧
                      -100 ≤ IntKind.wrap IntKind.i64 (Ty.q ta + Ty.q tb) ∧
                        IntKind.wrap IntKind.i64 (Ty.q ta + Ty.q tb) ≤ 100 ∧
                          R64 (IntKind.wrap IntKind.i64 (Vl.n a * Vl.n b)) ∧
                            R64 (scl (IntKind.wrap IntKind.i64 (Vl.n a * Vl.n b)) (Ty.q (rty 8 ta tb) - IntKind.wrap IntKind.i64 (Ty.q ta + Ty.q tb)))) then
              bif decide (Valid (rty 8 ta tb)) then
                R
                  (Value.tuple
                    (Array.mk
                      [Value.agg
                          (Array.mk
                            [Value.int IntKind.i64
                                (cutN (scl (IntKind.wrap IntKind.i64 (Vl.n a * Vl.n b)) (Ty.q (rty 8 ta tb) - IntKind.wrap IntKind.i64 (Ty.q ta + Ty.q tb))) (rty 8 ta tb)),
                              Value.string e0]),
                        Value.int IntKind.i64
                          (cutC (scl (IntKind.wrap IntKind.i64 (Vl.n a * Vl.n b)) (Ty.q (rty 8 ta tb) - IntKind.wrap IntKind.i64 (Ty.q ta + Ty.q tb))) (rty 8 ta tb) 2),
                        Value.int IntKind.i64 0]))
              else False
            else False
          else False
        else False
      else False) := by kernel_rfl

theorem d35_9 (a : Vl) (ta : Ty) (b : Vl) (tb : Ty) (R : Value → Prop) : bodyR Try.prog G6 noL Try.f35 [Enc.enc (9 : Int), Enc.enc a, Enc.enc ta, Enc.enc b, Enc.enc tb] (fun _ => none) 0 (fun v _ _ => R v) = (
    bif fst3 (fits a ta) (fits b tb) (same1 ta tb) != 0 then
      R
        (Value.tuple
          (Array.mk
            [Value.agg (Array.mk [Value.int IntKind.i64 0, Value.string (ByteArray.mk #[])]), Value.int IntKind.i64 0,
              Value.int IntKind.i64 (fst3 (fits a ta) (fits b tb) (same1 ta tb))]))
    else
      bif decide (Valid ta ∧ Valid tb ∧ isOp 9 = true) then
        bif Vl.n b == 0 then
          R (Value.tuple (Array.mk [Value.agg (Array.mk [Value.int IntKind.i64 0, Value.string (ByteArray.mk #[])]), Value.int IntKind.i64 3, Value.int IntKind.i64 0]))
        else
          bif
              decide
                (-18 ≤ imax (Ty.q ta) (Ty.q tb) - Ty.q ta ∧
                  imax (Ty.q ta) (Ty.q tb) - Ty.q ta ≤ 18 ∧ -100 ≤ Ty.q ta ∧ Ty.q ta ≤ 100 ∧ R64 (Vl.n a) ∧ R64 (scl (Vl.n a) (imax (Ty.q ta) (Ty.q tb) - Ty.q ta))) then
            bif
                decide
                  (-18 ≤ imax (Ty.q ta) (Ty.q tb) - Ty.q tb ∧
                    imax (Ty.q ta) (Ty.q tb) - Ty.q tb ≤ 18 ∧ -100 ≤ Ty.q tb ∧ Ty.q tb ≤ 100 ∧ R64 (Vl.n b) ∧ R64 (scl (Vl.n b) (imax (Ty.q ta) (Ty.q tb) - Ty.q tb))) then
              bif decide (IntKind.wrap IntKind.i64 (IntKind.wrap IntKind.i64 (Ty.q tb + Ty.q (rty 9 ta tb)) - Ty.q ta) ≥ 0) then
                bif
                    decide
                        (0 ≤ IntKind.wrap IntKind.i64 (IntKind.wrap IntKind.i64 (Ty.q tb + Ty.q (rty 9 ta tb)) - Ty.q ta) ∧
                          IntKind.wrap IntKind.i64 (IntKind.wrap IntKind.i64 (Ty.q tb + Ty.q (rty 9 ta tb)) - Ty.q ta) < 19) &&
                      isIntAt IntKind.i64 tensL (Int.toNat (IntKind.wrap IntKind.i64 (IntKind.wrap IntKind.i64 (Ty.q tb + Ty.q (rty 9 ta tb)) - Ty.q ta))) then
                  bif decide (Vl.n b ≠ 0) then
                    bif decide (Valid (rty 9 ta tb)) then
                      R
                        (Value.tuple
                          (Array.mk
                            [Value.agg
                                (Array.mk
                                  [Value.int IntKind.i64
                                      (cutN
                                        (IntKind.wrap IntKind.i64
                                          (Int.tdiv
                                            (IntKind.wrap IntKind.i64
                                              (Vl.n a * intAt tensL (Int.toNat (IntKind.wrap IntKind.i64 (IntKind.wrap IntKind.i64 (Ty.q tb + Ty.q (rty 9 ta tb)) - Ty.q ta)))))
                                            (Vl.n b)))
                                        (rty 9 ta tb)),
                                    Value.string e0]),
                              Value.int IntKind.i64
                                (cutC
                                  (IntKind.wrap IntKind.i64
                                    (Int.tdiv
                                      (IntKind.wrap IntKind.i64
                                        (Vl.n a * intAt tensL (Int.toNat (IntKind.wrap IntKind.i64 (IntKind.wrap IntKind.i64 (Ty.q tb + Ty.q (rty 9 ta tb)) - Ty.q ta)))))
                                      (Vl.n b)))
                                  (rty 9 ta tb) 2),
                              Value.int IntKind.i64 0]))
                    else False
                  else False
                else False
              else
                bif
                    decide
                        (0 ≤ IntKind.wrap IntKind.i64 (0 - IntKind.wrap IntKind.i64 (IntKind.wrap IntKind.i64 (Ty.q tb + Ty.q (rty 9 ta tb)) - Ty.q ta)) ∧
                          IntKind.wrap IntKind.i64 (0 - IntKind.wrap IntKind.i64 (IntKind.wrap IntKind.i64 (Ty.q tb + Ty.q (rty 9 ta tb)) - Ty.q ta)) < 19) &&
                      isIntAt IntKind.i64 tensL
                        (Int.toNat (IntKind.wrap IntKind.i64 (0 - IntKind.wrap IntKind.i64 (IntKind.wrap IntKind.i64 (Ty.q tb + Ty.q (rty 9 ta tb)) - Ty.q ta)))) then
                  bif
                      decide
                        (IntKind.wrap IntKind.i64
                            (Vl.n b *
                              intAt tensL (Int.toNat (IntKind.wrap IntKind.i64 (0 - IntKind.wrap IntKind.i64 (IntKind.wrap IntKind.i64 (Ty.q tb + Ty.q (rty 9 ta tb)) - Ty.q ta))))) ≠
                          0) then
                    bif decide (Valid (rty 9 ta tb)) then
                      R
                        (Value.tuple
                          (Array.mk
                            [Value.agg
                                (Array.mk
                                  [Value.int IntKind.i64
                                      (cutN
                                        (IntKind.wrap IntKind.i64
                                          (Int.tdiv (Vl.n a)
                                            (IntKind.wrap IntKind.i64
                                              (Vl.n b *
                                                intAt tensL
                                                  (Int.toNat
                                                    (IntKind.wrap IntKind.i64 (0 - IntKind.wrap IntKind.i64 (IntKind.wrap IntKind.i64 (Ty.q tb + Ty.q (rty 9 ta tb)) - Ty.q ta))))))))
                                        (rty 9 ta tb)),
                                    Value.string e0]),
                              Value.int IntKind.i64
                                (cutC
                                  (IntKind.wrap IntKind.i64
                                    (Int.tdiv (Vl.n a)
                                      (IntKind.wrap IntKind.i64
                                        (Vl.n b *
                                          intAt tensL
                                            (Int.toNat
                                              (IntKind.wrap IntKind.i64 (0 - IntKind.wrap IntKind.i64 (IntKind.wrap IntKind.i64 (Ty.q tb + Ty.q (rty 9 ta tb)) - Ty.q ta))))))))
                                  (rty 9 ta tb) 2),
                              Value.int IntKind.i64 0]))
                    else False
                  else False
                else False
            else False
          else False
      else False) := by kernel_rfl

theorem d35_10 (a : Vl) (ta : Ty) (b : Vl) (tb : Ty) (R : Value → Prop) : bodyR Try.prog G6 noL Try.f35 [Enc.enc (10 : Int), Enc.enc a, Enc.enc ta, Enc.enc b, Enc.enc tb] (fun _ => none) 0 (fun v _ _ => R v) = (
    bif fst3 (fits a ta) (fits b tb) (same1 ta tb) != 0 then
      R
        (Value.tuple
          (Array.mk
            [Value.agg (Array.mk [Value.int IntKind.i64 0, Value.string (ByteArray.mk #[])]), Value.int IntKind.i64 0,
              Value.int IntKind.i64 (fst3 (fits a ta) (fits b tb) (same1 ta tb))]))
    else
      bif decide (Valid ta ∧ Valid tb ∧ isOp 10 = true) then
        bif Vl.n b == 0 then
          R (Value.tuple (Array.mk [Value.agg (Array.mk [Value.int IntKind.i64 0, Value.string (ByteArray.mk #[])]), Value.int IntKind.i64 3, Value.int IntKind.i64 0]))
        else
          bif
              decide
                (-18 ≤ imax (Ty.q ta) (Ty.q tb) - Ty.q ta ∧
                  imax (Ty.q ta) (Ty.q tb) - Ty.q ta ≤ 18 ∧ -100 ≤ Ty.q ta ∧ Ty.q ta ≤ 100 ∧ R64 (Vl.n a) ∧ R64 (scl (Vl.n a) (imax (Ty.q ta) (Ty.q tb) - Ty.q ta))) then
            bif
                decide
                  (-18 ≤ imax (Ty.q ta) (Ty.q tb) - Ty.q tb ∧
                    imax (Ty.q ta) (Ty.q tb) - Ty.q tb ≤ 18 ∧ -100 ≤ Ty.q tb ∧ Ty.q tb ≤ 100 ∧ R64 (Vl.n b) ∧ R64 (scl (Vl.n b) (imax (Ty.q ta) (Ty.q tb) - Ty.q tb))) then
              bif decide (imax (scl (Vl.n b) (imax (Ty.q ta) (Ty.q tb) - Ty.q tb)) (IntKind.wrap IntKind.i64 (0 - scl (Vl.n b) (imax (Ty.q ta) (Ty.q tb) - Ty.q tb))) ≠ 0) then
                bif decide (imax (scl (Vl.n b) (imax (Ty.q ta) (Ty.q tb) - Ty.q tb)) (IntKind.wrap IntKind.i64 (0 - scl (Vl.n b) (imax (Ty.q ta) (Ty.q tb) - Ty.q tb))) ≠ 0) then
                  bif decide (Valid (rty 10 ta tb)) then
                    R
                      (Value.tuple
                        (Array.mk
                          [Value.agg
                              (Array.mk
                                [Value.int IntKind.i64
                                    (cutN
                                      (Int.tmod
                                        (IntKind.wrap IntKind.i64
                                          (Int.tmod (scl (Vl.n a) (imax (Ty.q ta) (Ty.q tb) - Ty.q ta))
                                              (imax (scl (Vl.n b) (imax (Ty.q ta) (Ty.q tb) - Ty.q tb))
                                                (IntKind.wrap IntKind.i64 (0 - scl (Vl.n b) (imax (Ty.q ta) (Ty.q tb) - Ty.q tb)))) +
                                            imax (scl (Vl.n b) (imax (Ty.q ta) (Ty.q tb) - Ty.q tb))
                                              (IntKind.wrap IntKind.i64 (0 - scl (Vl.n b) (imax (Ty.q ta) (Ty.q tb) - Ty.q tb)))))
                                        (imax (scl (Vl.n b) (imax (Ty.q ta) (Ty.q tb) - Ty.q tb)) (IntKind.wrap IntKind.i64 (0 - scl (Vl.n b) (imax (Ty.q ta) (Ty.q tb) - Ty.q tb)))))
                                      (rty 10 ta tb)),
                                  Value.string e0]),
                            Value.int IntKind.i64
                              (cutC
                                (Int.tmod
                                  (IntKind.wrap IntKind.i64
                                    (Int.tmod (scl (Vl.n a) (imax (Ty.q ta) (Ty.q tb) - Ty.q ta))
                                        (imax (scl (Vl.n b) (imax (Ty.q ta) (Ty.q tb) - Ty.q tb)) (IntKind.wrap IntKind.i64 (0 - scl (Vl.n b) (imax (Ty.q ta) (Ty.q tb) - Ty.q tb)))) +
                                      imax (scl (Vl.n b) (imax (Ty.q ta) (Ty.q tb) - Ty.q tb)) (IntKind.wrap IntKind.i64 (0 - scl (Vl.n b) (imax (Ty.q ta) (Ty.q tb) - Ty.q tb)))))
                                  (imax (scl (Vl.n b) (imax (Ty.q ta) (Ty.q tb) - Ty.q tb)) (IntKind.wrap IntKind.i64 (0 - scl (Vl.n b) (imax (Ty.q ta) (Ty.q tb) - Ty.q tb)))))
                                (rty 10 ta tb) 2),
                            Value.int IntKind.i64 0]))
                  else False
                else False
              else False
            else False
          else False
      else False) := by kernel_rfl

theorem d35_11 (a : Vl) (ta : Ty) (b : Vl) (tb : Ty) (R : Value → Prop) : bodyR Try.prog G6 noL Try.f35 [Enc.enc (11 : Int), Enc.enc a, Enc.enc ta, Enc.enc b, Enc.enc tb] (fun _ => none) 0 (fun v _ _ => R v) = (
    bif fst3 (fits a ta) (fits a ta) (same1 ta ta) != 0 then
      R
        (Value.tuple
          (Array.mk
            [Value.agg (Array.mk [Value.int IntKind.i64 0, Value.string (ByteArray.mk #[])]), Value.int IntKind.i64 0,
              Value.int IntKind.i64 (fst3 (fits a ta) (fits a ta) (same1 ta ta))]))
    else
      bif decide (Valid ta ∧ Valid ta ∧ isOp 11 = true) then
        bif
            decide
              (-18 ≤ imax (Ty.q ta) (Ty.q ta) - Ty.q ta ∧
                imax (Ty.q ta) (Ty.q ta) - Ty.q ta ≤ 18 ∧ -100 ≤ Ty.q ta ∧ Ty.q ta ≤ 100 ∧ R64 (Vl.n a) ∧ R64 (scl (Vl.n a) (imax (Ty.q ta) (Ty.q ta) - Ty.q ta))) then
          bif
              decide
                (-18 ≤ imax (Ty.q ta) (Ty.q ta) - Ty.q ta ∧
                  imax (Ty.q ta) (Ty.q ta) - Ty.q ta ≤ 18 ∧ -100 ≤ Ty.q ta ∧ Ty.q ta ≤ 100 ∧ R64 (Vl.n a) ∧ R64 (scl (Vl.n a) (imax (Ty.q ta) (Ty.q ta) - Ty.q ta))) then
            bif decide (Valid (rty 11 ta ta)) then
              R
                (Value.tuple
                  (Array.mk
                    [Value.agg
                        (Array.mk
                          [Value.int IntKind.i64
                              (cutN (imax (scl (Vl.n a) (imax (Ty.q ta) (Ty.q ta) - Ty.q ta)) (IntKind.wrap IntKind.i64 (0 - scl (Vl.n a) (imax (Ty.q ta) (Ty.q ta) - Ty.q ta))))
                                (rty 11 ta ta)),
                            Value.string e0]),
                      Value.int IntKind.i64
                        (cutC (imax (scl (Vl.n a) (imax (Ty.q ta) (Ty.q ta) - Ty.q ta)) (IntKind.wrap IntKind.i64 (0 - scl (Vl.n a) (imax (Ty.q ta) (Ty.q ta) - Ty.q ta))))
                          (rty 11 ta ta) 2),
                      Value.int IntKind.i64 0]))
            else False
          else False
        else False
      else False) := by kernel_rfl

theorem d35_12 (a : Vl) (ta : Ty) (b : Vl) (tb : Ty) (R : Value → Prop) : bodyR Try.prog G6 noL Try.f35 [Enc.enc (12 : Int), Enc.enc a, Enc.enc ta, Enc.enc b, Enc.enc tb] (fun _ => none) 0 (fun v _ _ => R v) = (
    bif fst3 (fits a ta) (fits b tb) (same1 ta tb) != 0 then
      R
        (Value.tuple
          (Array.mk
            [Value.agg (Array.mk [Value.int IntKind.i64 0, Value.string (ByteArray.mk #[])]), Value.int IntKind.i64 0,
              Value.int IntKind.i64 (fst3 (fits a ta) (fits b tb) (same1 ta tb))]))
    else
      bif decide (Valid ta ∧ Valid tb ∧ isOp 12 = true) then
        bif
            decide
              (-18 ≤ imax (Ty.q ta) (Ty.q tb) - Ty.q ta ∧
                imax (Ty.q ta) (Ty.q tb) - Ty.q ta ≤ 18 ∧ -100 ≤ Ty.q ta ∧ Ty.q ta ≤ 100 ∧ R64 (Vl.n a) ∧ R64 (scl (Vl.n a) (imax (Ty.q ta) (Ty.q tb) - Ty.q ta))) then
          bif
              decide
                (-18 ≤ imax (Ty.q ta) (Ty.q tb) - Ty.q tb ∧
                  imax (Ty.q ta) (Ty.q tb) - Ty.q tb ≤ 18 ∧ -100 ≤ Ty.q tb ∧ Ty.q tb ≤ 100 ∧ R64 (Vl.n b) ∧ R64 (scl (Vl.n b) (imax (Ty.q ta) (Ty.q tb) - Ty.q tb))) then
            bif decide (Valid (rty 12 ta tb)) then
              R
                (Value.tuple
                  (Array.mk
                    [Value.agg
                        (Array.mk
                          [Value.int IntKind.i64 (cutN (imin (scl (Vl.n a) (imax (Ty.q ta) (Ty.q tb) - Ty.q ta)) (scl (Vl.n b) (imax (Ty.q ta) (Ty.q tb) - Ty.q tb))) (rty 12 ta tb)),
                            Value.string e0]),
                      Value.int IntKind.i64 (cutC (imin (scl (Vl.n a) (imax (Ty.q ta) (Ty.q tb) - Ty.q ta)) (scl (Vl.n b) (imax (Ty.q ta) (Ty.q tb) - Ty.q tb))) (rty 12 ta tb) 2),
                      Value.int IntKind.i64 0]))
            else False
          else False
        else False
      else False) := by kernel_rfl

theorem d35_13 (a : Vl) (ta : Ty) (b : Vl) (tb : Ty) (R : Value → Prop) : bodyR Try.prog G6 noL Try.f35 [Enc.enc (13 : Int), Enc.enc a, Enc.enc ta, Enc.enc b, Enc.enc tb] (fun _ => none) 0 (fun v _ _ => R v) = (
    bif fst3 (fits a ta) (fits b tb) (same1 ta tb) != 0 then
      R
        (Value.tuple
          (Array.mk
            [Value.agg (Array.mk [Value.int IntKind.i64 0, Value.string (ByteArray.mk #[])]), Value.int IntKind.i64 0,
              Value.int IntKind.i64 (fst3 (fits a ta) (fits b tb) (same1 ta tb))]))
    else
      bif decide (Valid ta ∧ Valid tb ∧ isOp 13 = true) then
        bif
            decide
              (-18 ≤ imax (Ty.q ta) (Ty.q tb) - Ty.q ta ∧
                imax (Ty.q ta) (Ty.q tb) - Ty.q ta ≤ 18 ∧ -100 ≤ Ty.q ta ∧ Ty.q ta ≤ 100 ∧ R64 (Vl.n a) ∧ R64 (scl (Vl.n a) (imax (Ty.q ta) (Ty.q tb) - Ty.q ta))) then
          bif
              decide
                (-18 ≤ imax (Ty.q ta) (Ty.q tb) - Ty.q tb ∧
                  imax (Ty.q ta) (Ty.q tb) - Ty.q tb ≤ 18 ∧ -100 ≤ Ty.q tb ∧ Ty.q tb ≤ 100 ∧ R64 (Vl.n b) ∧ R64 (scl (Vl.n b) (imax (Ty.q ta) (Ty.q tb) - Ty.q tb))) then
            bif decide (Valid (rty 13 ta tb)) then
              R
                (Value.tuple
                  (Array.mk
                    [Value.agg
                        (Array.mk
                          [Value.int IntKind.i64 (cutN (imax (scl (Vl.n a) (imax (Ty.q ta) (Ty.q tb) - Ty.q ta)) (scl (Vl.n b) (imax (Ty.q ta) (Ty.q tb) - Ty.q tb))) (rty 13 ta tb)),
                            Value.string e0]),
                      Value.int IntKind.i64 (cutC (imax (scl (Vl.n a) (imax (Ty.q ta) (Ty.q tb) - Ty.q ta)) (scl (Vl.n b) (imax (Ty.q ta) (Ty.q tb) - Ty.q tb))) (rty 13 ta tb) 2),
                      Value.int IntKind.i64 0]))
            else False
          else False
        else False
      else False) := by kernel_rfl

def s35x (op : Int) (a : Vl) (ta : Ty) (b : Vl) (tb : Ty) : Bool × Value := (decide (isOp op = false), tup [vv V0, I 0, I 1])
theorem fn35 : Fn1 Try.prog 35 Try.f35 := ⟨Try.func35, by kernel_rfl, by kernel_rfl, by kernel_rfl⟩
theorem v35x (op : Int) (a : Vl) (ta : Ty) (b : Vl) (tb : Ty) (R : Value → Prop) : bodyR Try.prog G6x noL Try.f35 [Enc.enc op, Enc.enc a, Enc.enc ta, Enc.enc b, Enc.enc tb] (fun _ => none) 0 (fun v _ _ => R v) = (
    bif decide (isOp op = false) then
      R (Value.tuple (Array.mk [Value.agg (Array.mk [Value.int IntKind.i64 0, Value.string (ByteArray.mk #[])]), Value.int IntKind.i64 0, Value.int IntKind.i64 1]))
    else False) := by kernel_rfl
theorem ok35x : PureOK Try.prog 35 (sp5 s35x) := by
  refine pure5 ok_G6x hmix fn35 lokf_none (Nat.le_of_ble_eq_true (by kernel_rfl)) fun op a ta b tb hc => ?_
  rw [Does, v35x]
  have hc : (isOp op = false) := of_decide_eq_true hc
  repeat' refine cond_intro (fun h => ?_) (fun h => ?_)
  all_goals grind (splits := 40) [s35x, V0, isOp]

theorem w35_5 (a : Vl) (ta : Ty) (b : Vl) (tb : Ty) : Does Try.prog G6 noL Try.f35 [Enc.enc (5 : Int), Enc.enc a, Enc.enc ta, Enc.enc b, Enc.enc tb] (doR 5 a ta b tb) := by
  rw [Does, d35_5]
  by_cases ea : fits a ta = 0
  · obtain ⟨va, fa⟩ := fits0.1 ea
    have ra := valid_r va
    have fa2 := fa.2
    have ba := bnd_range va
    have sa := (scl_max va va rfl fa.2).1
    unfold P18 at sa
    have rv := rty_valid (op := 5) va va rfl (by decide)
    have hd := do_un (op := 5) (b := b) (tb := tb) (by decide) (by decide) ea
    rw [hd.1]
    try simp only [imax_max, rty_q]
    try simp (disch := omega) only [w64]
    ((repeat' refine cond_intro (fun h => ?_) (fun h => ?_)); all_goals grind (splits := 40) [doN1, doC1, zer, cutC, e0, R64, P18, dvOK, opN_8, opN_9, opN_x, fst3, same1, isOp, exN])
  · ((repeat' refine cond_intro (fun h => ?_) (fun h => ?_)); all_goals grind (splits := 40) [opnds, unary, isOp, doN, doC, doE, e0, fst3, same1])


theorem w35_6 (a : Vl) (ta : Ty) (b : Vl) (tb : Ty) : Does Try.prog G6 noL Try.f35 [Enc.enc (6 : Int), Enc.enc a, Enc.enc ta, Enc.enc b, Enc.enc tb] (doR 6 a ta b tb) := by
  rw [Does, d35_6]
  by_cases ea : fits a ta = 0
  · obtain ⟨va, fa⟩ := fits0.1 ea
    have ra := valid_r va
    have fa2 := fa.2
    have ba := bnd_range va
    by_cases eb : fits b tb = 0
    · obtain ⟨vb, fb⟩ := fits0.1 eb
      have rb := valid_r vb
      have fb2 := fb.2
      have bb := bnd_range vb
      by_cases ek : ta.k = tb.k
      · have sa := (scl_max va vb ek fa.2).1
        have sb := (scl_max vb va ek.symm fb.2).2
        unfold P18 at sa sb
        have rv := rty_valid (op := 6) va vb ek (by decide)
        have hd := do_bin (op := 6) (by decide) (by decide) ea eb ek
        rw [hd.1]
        try simp only [imax_max, imin_min, rty_q]
        try simp (disch := omega) only [w64]
        ((repeat' refine cond_intro (fun h => ?_) (fun h => ?_)); all_goals grind (splits := 40) [doN1, doC1, zer, cutC, e0, R64, P18, dvOK, opN_8, opN_9, opN_x, fst3, same1, isOp, exN])
      · ((repeat' refine cond_intro (fun h => ?_) (fun h => ?_)); all_goals grind (splits := 40) [opnds, unary, isOp, doN, doC, doE, e0, fst3, same1])
    · ((repeat' refine cond_intro (fun h => ?_) (fun h => ?_)); all_goals grind (splits := 40) [opnds, unary, isOp, doN, doC, doE, e0, fst3, same1])
  · ((repeat' refine cond_intro (fun h => ?_) (fun h => ?_)); all_goals grind (splits := 40) [opnds, unary, isOp, doN, doC, doE, e0, fst3, same1])


theorem w35_7 (a : Vl) (ta : Ty) (b : Vl) (tb : Ty) : Does Try.prog G6 noL Try.f35 [Enc.enc (7 : Int), Enc.enc a, Enc.enc ta, Enc.enc b, Enc.enc tb] (doR 7 a ta b tb) := by
  rw [Does, d35_7]
  by_cases ea : fits a ta = 0
  · obtain ⟨va, fa⟩ := fits0.1 ea
    have ra := valid_r va
    have fa2 := fa.2
    have ba := bnd_range va
    by_cases eb : fits b tb = 0
    · obtain ⟨vb, fb⟩ := fits0.1 eb
      have rb := valid_r vb
      have fb2 := fb.2
      have bb := bnd_range vb
      by_cases ek : ta.k = tb.k
      · have sa := (scl_max va vb ek fa.2).1
        have sb := (scl_max vb va ek.symm fb.2).2
        unfold P18 at sa sb
        have rv := rty_valid (op := 7) va vb ek (by decide)
        have hd := do_bin (op := 7) (by decide) (by decide) ea eb ek
        rw [hd.1]
        try simp only [imax_max, imin_min, rty_q]
        try simp (disch := omega) only [w64]
        ((repeat' refine cond_intro (fun h => ?_) (fun h => ?_)); all_goals grind (splits := 40) [doN1, doC1, zer, cutC, e0, R64, P18, dvOK, opN_8, opN_9, opN_x, fst3, same1, isOp, exN])
      · ((repeat' refine cond_intro (fun h => ?_) (fun h => ?_)); all_goals grind (splits := 40) [opnds, unary, isOp, doN, doC, doE, e0, fst3, same1])
    · ((repeat' refine cond_intro (fun h => ?_) (fun h => ?_)); all_goals grind (splits := 40) [opnds, unary, isOp, doN, doC, doE, e0, fst3, same1])
  · ((repeat' refine cond_intro (fun h => ?_) (fun h => ?_)); all_goals grind (splits := 40) [opnds, unary, isOp, doN, doC, doE, e0, fst3, same1])


theorem w35_8 (a : Vl) (ta : Ty) (b : Vl) (tb : Ty) : Does Try.prog G6 noL Try.f35 [Enc.enc (8 : Int), Enc.enc a, Enc.enc ta, Enc.enc b, Enc.enc tb] (doR 8 a ta b tb) := by
  rw [Does, d35_8]
  by_cases ea : fits a ta = 0
  · obtain ⟨va, fa⟩ := fits0.1 ea
    have ra := valid_r va
    have fa2 := fa.2
    have ba := bnd_range va
    by_cases eb : fits b tb = 0
    · obtain ⟨vb, fb⟩ := fits0.1 eb
      have rb := valid_r vb
      have fb2 := fb.2
      have bb := bnd_range vb
      by_cases ek : ta.k = tb.k
      · have sa := (scl_max va vb ek fa.2).1
        have sb := (scl_max vb va ek.symm fb.2).2
        unfold P18 at sa sb
        have rv := rty_valid (op := 8) va vb ek (by decide)
        have hd := do_bin (op := 8) (by decide) (by decide) ea eb ek
        rw [hd.1]
        have mr := mul_fit va vb ek fa.2 fb.2
        have rq := resQ_mul va vb ek
        have ms := scl_neg (n := a.n * b.n) (d := resQ 8 ta tb - (ta.q + tb.q)) (A := 4611686018427387904) (by omega) mr
        try simp only [imax_max, imin_min, rty_q]
        try simp (disch := omega) only [w64]
        ((repeat' refine cond_intro (fun h => ?_) (fun h => ?_)); all_goals grind (splits := 40) [doN1, doC1, zer, cutC, e0, R64, P18, dvOK, opN_8, opN_9, opN_x, fst3, same1, isOp, exN])
      · ((repeat' refine cond_intro (fun h => ?_) (fun h => ?_)); all_goals grind (splits := 40) [opnds, unary, isOp, doN, doC, doE, e0, fst3, same1])
    · ((repeat' refine cond_intro (fun h => ?_) (fun h => ?_)); all_goals grind (splits := 40) [opnds, unary, isOp, doN, doC, doE, e0, fst3, same1])
  · ((repeat' refine cond_intro (fun h => ?_) (fun h => ?_)); all_goals grind (splits := 40) [opnds, unary, isOp, doN, doC, doE, e0, fst3, same1])


theorem w35_9 (a : Vl) (ta : Ty) (b : Vl) (tb : Ty) : Does Try.prog G6 noL Try.f35 [Enc.enc (9 : Int), Enc.enc a, Enc.enc ta, Enc.enc b, Enc.enc tb] (doR 9 a ta b tb) := by
  rw [Does, d35_9]
  by_cases ea : fits a ta = 0
  · obtain ⟨va, fa⟩ := fits0.1 ea
    have ra := valid_r va
    have fa2 := fa.2
    have ba := bnd_range va
    by_cases eb : fits b tb = 0
    · obtain ⟨vb, fb⟩ := fits0.1 eb
      have rb := valid_r vb
      have fb2 := fb.2
      have bb := bnd_range vb
      by_cases ek : ta.k = tb.k
      · have sa := (scl_max va vb ek fa.2).1
        have sb := (scl_max vb va ek.symm fb.2).2
        unfold P18 at sa sb
        have rv := rty_valid (op := 9) va vb ek (by decide)
        have hd := do_bin (op := 9) (by decide) (by decide) ea eb ek
        rw [hd.1]
        have qo := div_ok va vb ek fa.2 fb.2
        simp only [imax_max, rty_q]
        simp (disch := omega) only [w64]
        have on := opN_9 a.n ta b.n tb
        generalize hup : tb.q + resQ 9 ta tb - ta.q = up at *
        by_cases hz : b.n = 0
        · ((repeat' refine cond_intro (fun h => ?_) (fun h => ?_)); all_goals grind (splits := 40) [doN1, doC1, zer, cutC, e0, R64, fst3, same1, isOp])
        · have q := qo.2.2.2.2 hz
          by_cases hu : 0 ≤ up
          · have k := quo_up q hu
            rw [k.2]
            generalize quoN a.n b.n up = M at *
            ((repeat' refine cond_intro (fun h => ?_) (fun h => ?_)); all_goals grind (splits := 40) [doN1, doC1, zer, cutC, e0, R64, fst3, same1, isOp])
          · have k := quo_dn q (by omega)
            have k2 := k.2.1
            rw [k.2.2]
            generalize quoN a.n b.n up = M at *
            ((repeat' refine cond_intro (fun h => ?_) (fun h => ?_)); all_goals grind (splits := 40) [doN1, doC1, zer, cutC, e0, R64, fst3, same1, isOp])
      · ((repeat' refine cond_intro (fun h => ?_) (fun h => ?_)); all_goals grind (splits := 40) [opnds, unary, isOp, doN, doC, doE, e0, fst3, same1])
    · ((repeat' refine cond_intro (fun h => ?_) (fun h => ?_)); all_goals grind (splits := 40) [opnds, unary, isOp, doN, doC, doE, e0, fst3, same1])
  · ((repeat' refine cond_intro (fun h => ?_) (fun h => ?_)); all_goals grind (splits := 40) [opnds, unary, isOp, doN, doC, doE, e0, fst3, same1])


theorem w35_10 (a : Vl) (ta : Ty) (b : Vl) (tb : Ty) : Does Try.prog G6 noL Try.f35 [Enc.enc (10 : Int), Enc.enc a, Enc.enc ta, Enc.enc b, Enc.enc tb] (doR 10 a ta b tb) := by
  rw [Does, d35_10]
  by_cases ea : fits a ta = 0
  · obtain ⟨va, fa⟩ := fits0.1 ea
    have ra := valid_r va
    have fa2 := fa.2
    have ba := bnd_range va
    by_cases eb : fits b tb = 0
    · obtain ⟨vb, fb⟩ := fits0.1 eb
      have rb := valid_r vb
      have fb2 := fb.2
      have bb := bnd_range vb
      by_cases ek : ta.k = tb.k
      · have sa := (scl_max va vb ek fa.2).1
        have sb := (scl_max vb va ek.symm fb.2).2
        unfold P18 at sa sb
        have rv := rty_valid (op := 10) va vb ek (by decide)
        have hd := do_bin (op := 10) (by decide) (by decide) ea eb ek
        rw [hd.1]
        have mt := fun h => mod_twice (x := scl a.n (max ta.q tb.q - ta.q)) (y := max (scl b.n (max ta.q tb.q - tb.q)) (-scl b.n (max ta.q tb.q - tb.q))) h
        have mb := fun h => Int.tmod_lt_of_pos (scl a.n (max ta.q tb.q - ta.q)) (b := max (scl b.n (max ta.q tb.q - tb.q)) (-scl b.n (max ta.q tb.q - tb.q))) h
        have mc := fun h => Int.lt_tmod_of_pos (scl a.n (max ta.q tb.q - ta.q)) (b := max (scl b.n (max ta.q tb.q - tb.q)) (-scl b.n (max ta.q tb.q - tb.q))) h
        simp only [imax_max, Int.zero_sub]
        rw [w64 (n := -scl b.n (max ta.q tb.q - tb.q)) (by omega)]
        generalize (scl a.n (max ta.q tb.q - ta.q)).tmod (max (scl b.n (max ta.q tb.q - tb.q)) (-scl b.n (max ta.q tb.q - tb.q))) = M at *
        have zb := scl_ne (n := b.n) (d := max ta.q tb.q - tb.q) (by omega)
        have on : opN 10 a.n ta b.n tb = scl a.n (max ta.q tb.q - ta.q) % max (scl b.n (max ta.q tb.q - tb.q)) (-scl b.n (max ta.q tb.q - tb.q)) := rfl
        try simp (disch := omega) only [w64]
        by_cases hz : b.n = 0
        · ((repeat' refine cond_intro (fun h => ?_) (fun h => ?_)); all_goals grind (splits := 40) [doN1, doC1, zer, cutC, e0, R64, fst3, same1, isOp])
        · have hy : 0 < max (scl b.n (max ta.q tb.q - tb.q)) (-scl b.n (max ta.q tb.q - tb.q)) := by omega
          have m1 := mb hy
          have m2 := mc hy
          rw [w64 (n := M + max (scl b.n (max ta.q tb.q - tb.q)) (-scl b.n (max ta.q tb.q - tb.q))) (by omega), mt hy]
          generalize scl a.n (max ta.q tb.q - ta.q) % max (scl b.n (max ta.q tb.q - tb.q)) (-scl b.n (max ta.q tb.q - tb.q)) = E at *
          generalize scl a.n (max ta.q tb.q - ta.q) = X at *
          generalize scl b.n (max ta.q tb.q - tb.q) = Y at *
          ((repeat' refine cond_intro (fun h => ?_) (fun h => ?_)); all_goals grind (splits := 40) [doN1, doC1, zer, cutC, e0, R64, fst3, same1, isOp])
      · ((repeat' refine cond_intro (fun h => ?_) (fun h => ?_)); all_goals grind (splits := 40) [opnds, unary, isOp, doN, doC, doE, e0, fst3, same1])
    · ((repeat' refine cond_intro (fun h => ?_) (fun h => ?_)); all_goals grind (splits := 40) [opnds, unary, isOp, doN, doC, doE, e0, fst3, same1])
  · ((repeat' refine cond_intro (fun h => ?_) (fun h => ?_)); all_goals grind (splits := 40) [opnds, unary, isOp, doN, doC, doE, e0, fst3, same1])


theorem w35_11 (a : Vl) (ta : Ty) (b : Vl) (tb : Ty) : Does Try.prog G6 noL Try.f35 [Enc.enc (11 : Int), Enc.enc a, Enc.enc ta, Enc.enc b, Enc.enc tb] (doR 11 a ta b tb) := by
  rw [Does, d35_11]
  by_cases ea : fits a ta = 0
  · obtain ⟨va, fa⟩ := fits0.1 ea
    have ra := valid_r va
    have fa2 := fa.2
    have ba := bnd_range va
    have sa := (scl_max va va rfl fa.2).1
    unfold P18 at sa
    have rv := rty_valid (op := 11) va va rfl (by decide)
    have hd := do_un (op := 11) (b := b) (tb := tb) (by decide) (by decide) ea
    rw [hd.1]
    try simp only [imax_max, rty_q]
    try simp (disch := omega) only [w64]
    ((repeat' refine cond_intro (fun h => ?_) (fun h => ?_)); all_goals grind (splits := 40) [doN1, doC1, zer, cutC, e0, R64, P18, dvOK, opN_8, opN_9, opN_x, fst3, same1, isOp, exN])
  · ((repeat' refine cond_intro (fun h => ?_) (fun h => ?_)); all_goals grind (splits := 40) [opnds, unary, isOp, doN, doC, doE, e0, fst3, same1])


theorem w35_12 (a : Vl) (ta : Ty) (b : Vl) (tb : Ty) : Does Try.prog G6 noL Try.f35 [Enc.enc (12 : Int), Enc.enc a, Enc.enc ta, Enc.enc b, Enc.enc tb] (doR 12 a ta b tb) := by
  rw [Does, d35_12]
  by_cases ea : fits a ta = 0
  · obtain ⟨va, fa⟩ := fits0.1 ea
    have ra := valid_r va
    have fa2 := fa.2
    have ba := bnd_range va
    by_cases eb : fits b tb = 0
    · obtain ⟨vb, fb⟩ := fits0.1 eb
      have rb := valid_r vb
      have fb2 := fb.2
      have bb := bnd_range vb
      by_cases ek : ta.k = tb.k
      · have sa := (scl_max va vb ek fa.2).1
        have sb := (scl_max vb va ek.symm fb.2).2
        unfold P18 at sa sb
        have rv := rty_valid (op := 12) va vb ek (by decide)
        have hd := do_bin (op := 12) (by decide) (by decide) ea eb ek
        rw [hd.1]
        try simp only [imax_max, imin_min, rty_q]
        try simp (disch := omega) only [w64]
        ((repeat' refine cond_intro (fun h => ?_) (fun h => ?_)); all_goals grind (splits := 40) [doN1, doC1, zer, cutC, e0, R64, P18, dvOK, opN_8, opN_9, opN_x, fst3, same1, isOp, exN])
      · ((repeat' refine cond_intro (fun h => ?_) (fun h => ?_)); all_goals grind (splits := 40) [opnds, unary, isOp, doN, doC, doE, e0, fst3, same1])
    · ((repeat' refine cond_intro (fun h => ?_) (fun h => ?_)); all_goals grind (splits := 40) [opnds, unary, isOp, doN, doC, doE, e0, fst3, same1])
  · ((repeat' refine cond_intro (fun h => ?_) (fun h => ?_)); all_goals grind (splits := 40) [opnds, unary, isOp, doN, doC, doE, e0, fst3, same1])


theorem w35_13 (a : Vl) (ta : Ty) (b : Vl) (tb : Ty) : Does Try.prog G6 noL Try.f35 [Enc.enc (13 : Int), Enc.enc a, Enc.enc ta, Enc.enc b, Enc.enc tb] (doR 13 a ta b tb) := by
  rw [Does, d35_13]
  by_cases ea : fits a ta = 0
  · obtain ⟨va, fa⟩ := fits0.1 ea
    have ra := valid_r va
    have fa2 := fa.2
    have ba := bnd_range va
    by_cases eb : fits b tb = 0
    · obtain ⟨vb, fb⟩ := fits0.1 eb
      have rb := valid_r vb
      have fb2 := fb.2
      have bb := bnd_range vb
      by_cases ek : ta.k = tb.k
      · have sa := (scl_max va vb ek fa.2).1
        have sb := (scl_max vb va ek.symm fb.2).2
        unfold P18 at sa sb
        have rv := rty_valid (op := 13) va vb ek (by decide)
        have hd := do_bin (op := 13) (by decide) (by decide) ea eb ek
        rw [hd.1]
        try simp only [imax_max, imin_min, rty_q]
        try simp (disch := omega) only [w64]
        ((repeat' refine cond_intro (fun h => ?_) (fun h => ?_)); all_goals grind (splits := 40) [doN1, doC1, zer, cutC, e0, R64, P18, dvOK, opN_8, opN_9, opN_x, fst3, same1, isOp, exN])
      · ((repeat' refine cond_intro (fun h => ?_) (fun h => ?_)); all_goals grind (splits := 40) [opnds, unary, isOp, doN, doC, doE, e0, fst3, same1])
    · ((repeat' refine cond_intro (fun h => ?_) (fun h => ?_)); all_goals grind (splits := 40) [opnds, unary, isOp, doN, doC, doE, e0, fst3, same1])
  · ((repeat' refine cond_intro (fun h => ?_) (fun h => ?_)); all_goals grind (splits := 40) [opnds, unary, isOp, doN, doC, doE, e0, fst3, same1])


theorem w35 (op : Int) (a : Vl) (ta : Ty) (b : Vl) (tb : Ty) (h : isOp op = true) : Does Try.prog G6 noL Try.f35 [Enc.enc op, Enc.enc a, Enc.enc ta, Enc.enc b, Enc.enc tb] (doR op a ta b tb) :=
  op_cases (p := fun op => Does Try.prog G6 noL Try.f35 [Enc.enc op, Enc.enc a, Enc.enc ta, Enc.enc b, Enc.enc tb] (doR op a ta b tb)) h (w35_5 a ta b tb) (w35_6 a ta b tb) (w35_7 a ta b tb) (w35_8 a ta b tb) (w35_9 a ta b tb) (w35_10 a ta b tb) (w35_11 a ta b tb) (w35_12 a ta b tb) (w35_13 a ta b tb)

def s35y (op : Int) (a : Vl) (ta : Ty) (b : Vl) (tb : Ty) : Bool × Value := (decide (isOp op = true), doR op a ta b tb)
theorem ok35y : PureOK Try.prog 35 (sp5 s35y) :=
  pure5 ok_G6 hmix fn35 lokf_none (Nat.le_of_ble_eq_true (by kernel_rfl)) fun op a ta b tb hc => w35 op a ta b tb (of_decide_eq_true hc)
def s35 (op : Int) (a : Vl) (ta : Ty) (b : Vl) (tb : Ty) : Bool × Value := (true, doR op a ta b tb)
theorem ok35 : PureOK Try.prog 35 (sp5 s35) := or5 ok35x ok35y fun op a ta b tb => by
  cases h : isOp op
  · left
    simp [s35x, s35, h, doN, doC, doE, V0, e0]
  · right
    simp [s35y, s35, h]

def G7 : Env := ((G6.add 36 (sp5 s36)).add 35 (sp5 s35))
theorem ok_G7 : EnvOK Try.prog G7 := env_add (env_add (ok_G6) ok36) ok35

end Go.Fx
