/-
  The laws of widths and remainders.
-/
import Derived.Test.YthaedhabookjeaaFx26
set_option linter.unusedVariables false
set_option linter.unusedSimpArgs false
namespace Go.Fx
open Go Go.Ab Go.Proofs

def s10 (op : Int) (a : Vl) (ta : Ty) (b : Vl) (tb : Ty) : Bool × Value := (true, B true)
theorem fn10 : Fn1 Try.prog 10 Try.f10 := ⟨Try.func10, by kernel_rfl, by kernel_rfl, by kernel_rfl⟩
theorem v10 (op : Int) (a : Vl) (ta : Ty) (b : Vl) (tb : Ty) (R : Value → Prop) : bodyR Try.prog G19 noL Try.f10 [Enc.enc op, Enc.enc a, Enc.enc ta, Enc.enc b, Enc.enc tb] (fun _ => none) 0 (fun v _ _ => R v) = (
    bif !(fits a ta == 0 && fits b tb == 0 && Ty.k ta == Ty.k tb) then R (Value.bool true)
    else
      bif decide (op ≥ 5) then
        bif !(resE op ta tb == 0) == decide (op ≤ 13) then R (Value.bool false)
        else
          bif resE op ta tb != 0 then R (Value.bool true)
          else
            bif decide (Ty.p (resT op ta tb) > most (Ty.k ta)) then R (Value.bool false)
            else
              bif decide (Ty.p (resT op ta tb) < 1) then R (Value.bool false)
              else
                bif decide (Ty.q (resT op ta tb) < 0) then R (Value.bool false)
                else
                  bif decide (Ty.q (resT op ta tb) > Ty.p (resT op ta tb)) then R (Value.bool false)
                  else
                    bif Ty.k (resT op ta tb) != Ty.k ta then R (Value.bool false)
                    else
                      bif doE op a ta b tb != 0 then R (Value.bool false)
                      else
                        bif !fits (Vl.mk (doN op a ta b tb) e0) (resT op ta tb) == 0 then R (Value.bool false)
                        else
                          bif decide (Ty.p (resT op ta tb) < most (Ty.k ta)) then
                            bif doC op a ta b tb == 2 then R (Value.bool false)
                            else
                              bif decide (Ty.p ta ≤ Ty.p ta ∧ Valid ta ∨ Ty.p ta = most (Ty.k ta)) then
                                bif resE 6 ta ta != 0 then R (Value.bool false)
                                else
                                  bif
                                      doE 6 (Vl.mk (IntKind.wrap IntKind.i64 (pw (base (Ty.k ta)) (Ty.p ta) - 1)) e0) ta
                                          (Vl.mk (IntKind.wrap IntKind.i64 (pw (base (Ty.k ta)) (Ty.p ta) - 1)) e0) ta !=
                                        0 then
                                    R (Value.bool false)
                                  else
                                    bif Ty.p ta == most (Ty.k ta) then
                                      R
                                        (Value.bool
                                          (doC 6 (Vl.mk (IntKind.wrap IntKind.i64 (pw (base (Ty.k ta)) (Ty.p ta) - 1)) e0) ta
                                              (Vl.mk (IntKind.wrap IntKind.i64 (pw (base (Ty.k ta)) (Ty.p ta) - 1)) e0) ta ==
                                            2))
                                    else
                                      bif
                                          doC 6 (Vl.mk (IntKind.wrap IntKind.i64 (pw (base (Ty.k ta)) (Ty.p ta) - 1)) e0) ta
                                              (Vl.mk (IntKind.wrap IntKind.i64 (pw (base (Ty.k ta)) (Ty.p ta) - 1)) e0) ta ==
                                            0 then
                                        bif Ty.p (resT 6 ta ta) == IntKind.wrap IntKind.i64 (Ty.p ta + 1) then
                                          bif decide (Ty.p ta ≤ Ty.p ta ∧ Valid ta ∨ Ty.p ta = most (Ty.k ta)) then
                                            R
                                              (Value.bool
                                                (decide
                                                  (doN 6 (Vl.mk (IntKind.wrap IntKind.i64 (pw (base (Ty.k ta)) (Ty.p ta) - 1)) e0) ta
                                                      (Vl.mk (IntKind.wrap IntKind.i64 (pw (base (Ty.k ta)) (Ty.p ta) - 1)) e0) ta ≥
                                                    pw (base (Ty.k ta)) (Ty.p ta))))
                                          else False
                                        else R (Value.bool false)
                                      else R (Value.bool false)
                              else False
                          else
                            bif decide (Ty.p ta ≤ Ty.p ta ∧ Valid ta ∨ Ty.p ta = most (Ty.k ta)) then
                              bif resE 6 ta ta != 0 then R (Value.bool false)
                              else
                                bif
                                    doE 6 (Vl.mk (IntKind.wrap IntKind.i64 (pw (base (Ty.k ta)) (Ty.p ta) - 1)) e0) ta
                                        (Vl.mk (IntKind.wrap IntKind.i64 (pw (base (Ty.k ta)) (Ty.p ta) - 1)) e0) ta !=
                                      0 then
                                  R (Value.bool false)
                                else
                                  bif Ty.p ta == most (Ty.k ta) then
                                    R
                                      (Value.bool
                                        (doC 6 (Vl.mk (IntKind.wrap IntKind.i64 (pw (base (Ty.k ta)) (Ty.p ta) - 1)) e0) ta
                                            (Vl.mk (IntKind.wrap IntKind.i64 (pw (base (Ty.k ta)) (Ty.p ta) - 1)) e0) ta ==
                                          2))
                                  else
                                    bif
                                        doC 6 (Vl.mk (IntKind.wrap IntKind.i64 (pw (base (Ty.k ta)) (Ty.p ta) - 1)) e0) ta
                                            (Vl.mk (IntKind.wrap IntKind.i64 (pw (base (Ty.k ta)) (Ty.p ta) - 1)) e0) ta ==
                                          0 then
                                      bif Ty.p (resT 6 ta ta) == IntKind.wrap IntKind.i64 (Ty.p ta + 1) then
                                        bif decide (Ty.p ta ≤ Ty.p ta ∧ Valid ta ∨ Ty.p ta = most (Ty.k ta)) then
                                          R
                                            (Value.bool
                                              (decide
                                                (doN 6 (Vl.mk (IntKind.wrap IntKind.i64 (pw (base (Ty.k ta)) (Ty.p ta) - 1)) e0) ta
                                                    (Vl.mk (IntKind.wrap IntKind.i64 (pw (base (Ty.k ta)) (Ty.p ta) - 1)) e0) ta ≥
                                                  pw (base (Ty.k ta)) (Ty.p ta))))
                                        else False
                                      else R (Value.bool false)
                                    else R (Value.bool false)
                            else False
      else
        bif !(resE op ta tb == 0) == false then R (Value.bool false)
        else
          bif resE op ta tb != 0 then R (Value.bool true)
          else
            bif decide (Ty.p (resT op ta tb) > most (Ty.k ta)) then R (Value.bool false)
            else
              bif decide (Ty.p (resT op ta tb) < 1) then R (Value.bool false)
              else
                bif decide (Ty.q (resT op ta tb) < 0) then R (Value.bool false)
                else
                  bif decide (Ty.q (resT op ta tb) > Ty.p (resT op ta tb)) then R (Value.bool false)
                  else
                    bif Ty.k (resT op ta tb) != Ty.k ta then R (Value.bool false)
                    else
                      bif doE op a ta b tb != 0 then R (Value.bool false)
                      else
                        bif !fits (Vl.mk (doN op a ta b tb) e0) (resT op ta tb) == 0 then R (Value.bool false)
                        else
                          bif decide (Ty.p (resT op ta tb) < most (Ty.k ta)) then
                            bif doC op a ta b tb == 2 then R (Value.bool false)
                            else
                              bif decide (Ty.p ta ≤ Ty.p ta ∧ Valid ta ∨ Ty.p ta = most (Ty.k ta)) then
                                bif resE 6 ta ta != 0 then R (Value.bool false)
                                else
                                  bif
                                      doE 6 (Vl.mk (IntKind.wrap IntKind.i64 (pw (base (Ty.k ta)) (Ty.p ta) - 1)) e0) ta
                                          (Vl.mk (IntKind.wrap IntKind.i64 (pw (base (Ty.k ta)) (Ty.p ta) - 1)) e0) ta !=
                                        0 then
                                    R (Value.bool false)
                                  else
                                    bif Ty.p ta == most (Ty.k ta) then
                                      R
                                        (Value.bool
                                          (doC 6 (Vl.mk (IntKind.wrap IntKind.i64 (pw (base (Ty.k ta)) (Ty.p ta) - 1)) e0) ta
                                              (Vl.mk (IntKind.wrap IntKind.i64 (pw (base (Ty.k ta)) (Ty.p ta) - 1)) e0) ta ==
                                            2))
                                    else
                                      bif
                                          doC 6 (Vl.mk (IntKind.wrap IntKind.i64 (pw (base (Ty.k ta)) (Ty.p ta) - 1)) e0) ta
                                              (Vl.mk (IntKind.wrap IntKind.i64 (pw (base (Ty.k ta)) (Ty.p ta) - 1)) e0) ta ==
                                            0 then
                                        bif Ty.p (resT 6 ta ta) == IntKind.wrap IntKind.i64 (Ty.p ta + 1) then
                                          bif decide (Ty.p ta ≤ Ty.p ta ∧ Valid ta ∨ Ty.p ta = most (Ty.k ta)) then
                                            R
                                              (Value.bool
                                                (decide
                                                  (doN 6 (Vl.mk (IntKind.wrap IntKind.i64 (pw (base (Ty.k ta)) (Ty.p ta) - 1)) e0) ta
                                                      (Vl.mk (IntKind.wrap IntKind.i64 (pw (base (Ty.k ta)) (Ty.p ta) - 1)) e0) ta ≥
                                                    pw (base (Ty.k ta)) (Ty.p ta))))
                                          else False
                                        else R (Value.bool false)
                                      else R (Value.bool false)
                              else False
                          else
                            bif decide (Ty.p ta ≤ Ty.p ta ∧ Valid ta ∨ Ty.p ta = most (Ty.k ta)) then
                              bif resE 6 ta ta != 0 then R (Value.bool false)
                              else
                                bif
                                    doE 6 (Vl.mk (IntKind.wrap IntKind.i64 (pw (base (Ty.k ta)) (Ty.p ta) - 1)) e0) ta
                                        (Vl.mk (IntKind.wrap IntKind.i64 (pw (base (Ty.k ta)) (Ty.p ta) - 1)) e0) ta !=
                                      0 then
                                  R (Value.bool false)
                                else
                                  bif Ty.p ta == most (Ty.k ta) then
                                    R
                                      (Value.bool
                                        (doC 6 (Vl.mk (IntKind.wrap IntKind.i64 (pw (base (Ty.k ta)) (Ty.p ta) - 1)) e0) ta
                                            (Vl.mk (IntKind.wrap IntKind.i64 (pw (base (Ty.k ta)) (Ty.p ta) - 1)) e0) ta ==
                                          2))
                                  else
                                    bif
                                        doC 6 (Vl.mk (IntKind.wrap IntKind.i64 (pw (base (Ty.k ta)) (Ty.p ta) - 1)) e0) ta
                                            (Vl.mk (IntKind.wrap IntKind.i64 (pw (base (Ty.k ta)) (Ty.p ta) - 1)) e0) ta ==
                                          0 then
                                      bif Ty.p (resT 6 ta ta) == IntKind.wrap IntKind.i64 (Ty.p ta + 1) then
                                        bif decide (Ty.p ta ≤ Ty.p ta ∧ Valid ta ∨ Ty.p ta = most (Ty.k ta)) then
                                          R
                                            (Value.bool
                                              (decide
                                                (doN 6 (Vl.mk (IntKind.wrap IntKind.i64 (pw (base (Ty.k ta)) (Ty.p ta) - 1)) e0) ta
                                                    (Vl.mk (IntKind.wrap IntKind.i64 (pw (base (Ty.k ta)) (Ty.p ta) - 1)) e0) ta ≥
                                                  pw (base (Ty.k ta)) (Ty.p ta))))
                                        else False
                                      else R (Value.bool false)
                                    else R (Value.bool false)
                            else False) := by kernel_rfl
theorem ok10 : PureOK Try.prog 10 (sp5 s10) := by
  refine pure5 ok_G19 hmix fn10 lokf_none (Nat.le_of_ble_eq_true (by kernel_rfl)) fun op a ta b tb hc => ?_
  rw [Does, v10]
  refine cond_intro (fun _ => rfl) (fun h => ?_)
  obtain ⟨ha, hb, hk⟩ := both_of h
  have T := twiceP ha.1
  refine cond_intro (fun h5 => ?_) (fun h5 => ?_)
  · have h5 := of_decide_eq_true h5
    by_cases h13 : op ≤ 13
    · have P := wideP (op := op) ⟨h5, h13⟩ ha hb hk
      have r := valid_r P.v
      refine c_f (by rw [P.e, decide_eq_true h13]; rfl) (c_f (by rw [P.e]; rfl) (c_f (decide_eq_false (by have := P.m; omega)) (c_f (decide_eq_false (by omega)) (c_f (decide_eq_false (by omega)) (c_f (decide_eq_false (by omega)) (c_f (by rw [P.k]; simp) (c_f (by rw [P.d]; rfl) (c_f (by rw [P.g]; rfl) ?_))))))))
      refine cond_intro (fun h6 => ?_) (fun h6 => ?_)
      · refine c_f (by have := P.c (of_decide_eq_true h6); simp [this]) ?_
        refine c_t (by simp [ha.1]) ?_
        rw [T.w]
        refine c_f (by rw [T.e]; rfl) (c_f (by rw [T.d]; rfl) ?_)
        refine cond_intro (fun t1 => ?_) (fun t1 => ?_)
        · rw [T.o (by simpa using t1)]; rfl
        · obtain ⟨u1, u2, u3⟩ := T.u (by simpa using t1)
          refine c_t (by rw [u1]; rfl) (c_t (by rw [u2]; simp) (c_t (by simp [ha.1]) ?_))
          rw [decide_eq_true (show _ ≥ _ from u3)]
          rfl
      · refine c_t (by simp [ha.1]) ?_
        rw [T.w]
        refine c_f (by rw [T.e]; rfl) (c_f (by rw [T.d]; rfl) ?_)
        refine cond_intro (fun t1 => ?_) (fun t1 => ?_)
        · rw [T.o (by simpa using t1)]; rfl
        · obtain ⟨u1, u2, u3⟩ := T.u (by simpa using t1)
          refine c_t (by rw [u1]; rfl) (c_t (by rw [u2]; simp) (c_t (by simp [ha.1]) ?_))
          rw [decide_eq_true (show _ ≥ _ from u3)]
          rfl
    · have e := resE_op (op := op) (a := ta) (b := tb) (by omega)
      refine c_f (by rw [e, decide_eq_false h13]; rfl) (c_t (by rw [e]; rfl) rfl)
  · have h5 := of_decide_eq_false h5
    have e := resE_op (op := op) (a := ta) (b := tb) (by omega)
    exact c_f (by rw [e]; rfl) (c_t (by rw [e]; rfl) rfl)

theorem mod_neg {a b : Vl} {ta tb : Ty} (ha : Gd a ta) (hb : Gd b tb) (hk : ta.k = tb.k) (bz : b.n ≠ 0) :
    doE 10 a ta ⟨-b.n, e0⟩ tb = 0 ∧ doN 10 a ta ⟨-b.n, e0⟩ tb = doN 10 a ta b tb ∧ doC 10 a ta ⟨-b.n, e0⟩ tb = doC 10 a ta b tb := by
  obtain ⟨_, gn⟩ := gd_neg hb
  have P := modP ha hb hk
  have Q := modP ha gn hk
  have ra := valid_r ha.1
  have rb := valid_r hb.1
  have e : scl (-b.n) (max ta.q tb.q - tb.q) = -scl b.n (max ta.q tb.q - tb.q) := by rw [scl_up (by omega), scl_up (by omega), Int.neg_mul]
  have e2 : max (-scl b.n (max ta.q tb.q - tb.q)) (- -scl b.n (max ta.q tb.q - tb.q)) = max (scl b.n (max ta.q tb.q - tb.q)) (-scl b.n (max ta.q tb.q - tb.q)) := by omega
  obtain ⟨p1, p2⟩ := P.n bz
  obtain ⟨q1, q2⟩ := Q.n (show -b.n ≠ 0 by omega)
  simp only [e, e2] at q1 q2
  exact ⟨Q.d, q1.trans p1.symm, q2.trans p2.symm⟩
theorem mod_zero {a b : Vl} {ta tb : Ty} (ha : Gd a ta) (hb : Gd b tb) (hk : ta.k = tb.k) (bz : b.n ≠ 0) {X Y : Int} (hX : scl a.n (max ta.q tb.q - ta.q) = X) (hY : scl b.n (max ta.q tb.q - tb.q) = Y)
    (c : doC 10 a ta b tb = 0) : 0 ≤ doN 10 a ta b tb ∧ doN 10 a ta b tb < max Y (-Y) ∧ (X - doN 10 a ta b tb).tmod (max Y (-Y)) = 0 := by
  obtain ⟨p1, p2⟩ := (modP ha hb hk).n bz
  rw [hX, hY] at p1 p2
  rw [p2, cutC0 (by decide)] at c
  have ra := valid_r ha.1
  have rb := valid_r hb.1
  have y0 : Y ≠ 0 := by rw [← hY, Ne, scl_ne (by omega)]; exact bz
  rw [p1, cutN_in c]
  refine ⟨Int.emod_nonneg _ (by omega), Int.emod_lt_of_pos _ (by omega), ?_⟩
  have := Int.mul_ediv_add_emod X (max Y (-Y))
  rw [show X - X % max Y (-Y) = max Y (-Y) * (X / max Y (-Y)) by omega, Int.mul_tmod_right]
theorem mod_sum {a b : Vl} {ta tb : Ty} (ha : Gd a ta) (hb : Gd b tb) (hk : ta.k = tb.k) (bz : b.n ≠ 0) {X Y u : Int} (hu : pw 10 (max ta.q tb.q - ta.q) = u) (hX : scl a.n (max ta.q tb.q - ta.q) = X) (hY : scl b.n (max ta.q tb.q - tb.q) = Y)
    (h : (X + Y).tmod u = 0) (g : Gd ⟨(X + Y).tdiv u, e0⟩ ta) :
    doE 10 ⟨(X + Y).tdiv u, e0⟩ ta b tb = 0 ∧ doN 10 ⟨(X + Y).tdiv u, e0⟩ ta b tb = doN 10 a ta b tb ∧ doC 10 ⟨(X + Y).tdiv u, e0⟩ ta b tb = doC 10 a ta b tb := by
  have P := modP ha hb hk
  have Q := modP g hb hk
  have ra := valid_r ha.1
  have rb := valid_r hb.1
  have e : scl ((X + Y).tdiv u) (max ta.q tb.q - ta.q) = X + Y := by
    rw [scl_up (by omega), hu]
    have := Int.mul_tdiv_add_tmod (X + Y) u
    rw [Int.mul_comm]; omega
  obtain ⟨p1, p2⟩ := P.n bz
  obtain ⟨q1, q2⟩ := Q.n bz
  simp only [e, hX, hY] at p1 p2 q1 q2
  have y0 : Y ≠ 0 := by rw [← hY, Ne, scl_ne (by omega)]; exact bz
  have e2 : (X + Y) % max Y (-Y) = X % max Y (-Y) := by
    rcases Int.le_total 0 Y with h0 | h0
    · rw [show max Y (-Y) = Y by omega, Int.add_emod_right]
    · rw [show max Y (-Y) = -Y by omega, Int.emod_neg, Int.emod_neg, Int.add_emod_right]
  rw [e2] at q1 q2
  exact ⟨Q.d, q1.trans p1.symm, q2.trans p2.symm⟩

def s12 (a : Vl) (ta : Ty) (b : Vl) (tb : Ty) : Bool × Value := (true, B true)
theorem fn12 : Fn1 Try.prog 12 Try.f12 := ⟨Try.func12, by kernel_rfl, by kernel_rfl, by kernel_rfl⟩
theorem v12 (a : Vl) (ta : Ty) (b : Vl) (tb : Ty) (R : Value → Prop) : bodyR Try.prog G19 noL Try.f12 [Enc.enc a, Enc.enc ta, Enc.enc b, Enc.enc tb] (fun _ => none) 0 (fun v _ _ => R v) = (
    bif !(fits a ta == 0 && fits b tb == 0 && Ty.k ta == Ty.k tb) then R (Value.bool true)
    else
      bif resE 10 ta tb != 0 then R (Value.bool false)
      else
        bif doE 10 a ta b tb != 0 then R (Value.bool false)
        else
          bif Ty.q (resT 10 ta tb) != imax (Ty.q ta) (Ty.q tb) then R (Value.bool false)
          else
            bif Vl.n b == 0 then bif doC 10 a ta b tb == 3 then R (Value.bool (doN 10 a ta b tb == 0 && (ByteArray.toList e0 == ByteArray.toList e0 && true))) else R (Value.bool false)
            else
              bif doE 10 a ta (Vl.mk (IntKind.wrap IntKind.i64 (0 - Vl.n b)) e0) tb != 0 then R (Value.bool false)
              else
                bif !(doN 10 a ta (Vl.mk (IntKind.wrap IntKind.i64 (0 - Vl.n b)) e0) tb == doN 10 a ta b tb && (ByteArray.toList e0 == ByteArray.toList e0 && true)) then
                  R (Value.bool false)
                else
                  bif doC 10 a ta (Vl.mk (IntKind.wrap IntKind.i64 (0 - Vl.n b)) e0) tb != doC 10 a ta b tb then R (Value.bool false)
                  else
                    bif decide (pwOK 10 (IntKind.wrap IntKind.i64 (Ty.q (resT 10 ta tb) - Ty.q ta))) then
                      bif decide (R63 (Vl.n b)) then
                        bif decide (pwOK 10 (IntKind.wrap IntKind.i64 (Ty.q (resT 10 ta tb) - Ty.q tb))) then
                          bif doC 10 a ta b tb == 0 then
                            bif decide (doN 10 a ta b tb < 0) then R (Value.bool false)
                            else
                              bif decide (doN 10 a ta b tb ≥ IntKind.wrap IntKind.i64 (max (Vl.n b) (-Vl.n b) * pw 10 (IntKind.wrap IntKind.i64 (Ty.q (resT 10 ta tb) - Ty.q tb)))) then
                                R (Value.bool false)
                              else
                                bif !fits (Vl.mk (doN 10 a ta b tb) e0) (resT 10 ta tb) == 0 then R (Value.bool false)
                                else
                                  bif decide (IntKind.wrap IntKind.i64 (max (Vl.n b) (-Vl.n b) * pw 10 (IntKind.wrap IntKind.i64 (Ty.q (resT 10 ta tb) - Ty.q tb))) ≠ 0) then
                                    bif
                                        Int.tmod
                                            (IntKind.wrap IntKind.i64
                                              (IntKind.wrap IntKind.i64 (Vl.n a * pw 10 (IntKind.wrap IntKind.i64 (Ty.q (resT 10 ta tb) - Ty.q ta))) - doN 10 a ta b tb))
                                            (IntKind.wrap IntKind.i64 (max (Vl.n b) (-Vl.n b) * pw 10 (IntKind.wrap IntKind.i64 (Ty.q (resT 10 ta tb) - Ty.q tb)))) !=
                                          0 then
                                      R (Value.bool false)
                                    else
                                      bif decide (pwOK 10 (IntKind.wrap IntKind.i64 (Ty.q (resT 10 ta tb) - Ty.q tb))) then
                                        bif decide (pwOK 10 (IntKind.wrap IntKind.i64 (Ty.q (resT 10 ta tb) - Ty.q ta))) then
                                          bif decide (pw 10 (IntKind.wrap IntKind.i64 (Ty.q (resT 10 ta tb) - Ty.q ta)) ≠ 0) then
                                            bif
                                                Int.tmod
                                                    (IntKind.wrap IntKind.i64
                                                      (IntKind.wrap IntKind.i64 (Vl.n a * pw 10 (IntKind.wrap IntKind.i64 (Ty.q (resT 10 ta tb) - Ty.q ta))) +
                                                        IntKind.wrap IntKind.i64 (Vl.n b * pw 10 (IntKind.wrap IntKind.i64 (Ty.q (resT 10 ta tb) - Ty.q tb)))))
                                                    (pw 10 (IntKind.wrap IntKind.i64 (Ty.q (resT 10 ta tb) - Ty.q ta))) !=
                                                  0 then
                                              R (Value.bool true)
                                            else
                                              bif decide (pw 10 (IntKind.wrap IntKind.i64 (Ty.q (resT 10 ta tb) - Ty.q ta)) ≠ 0) then
                                                bif
                                                    !fits
                                                          (Vl.mk
                                                            (IntKind.wrap IntKind.i64
                                                              (Int.tdiv
                                                                (IntKind.wrap IntKind.i64
                                                                  (IntKind.wrap IntKind.i64 (Vl.n a * pw 10 (IntKind.wrap IntKind.i64 (Ty.q (resT 10 ta tb) - Ty.q ta))) +
                                                                    IntKind.wrap IntKind.i64 (Vl.n b * pw 10 (IntKind.wrap IntKind.i64 (Ty.q (resT 10 ta tb) - Ty.q tb)))))
                                                                (pw 10 (IntKind.wrap IntKind.i64 (Ty.q (resT 10 ta tb) - Ty.q ta)))))
                                                            e0)
                                                          ta ==
                                                        0 then
                                                  R (Value.bool true)
                                                else
                                                  bif decide (pw 10 (IntKind.wrap IntKind.i64 (Ty.q (resT 10 ta tb) - Ty.q ta)) ≠ 0) then
                                                    bif
                                                        doE 10
                                                            (Vl.mk
                                                              (IntKind.wrap IntKind.i64
                                                                (Int.tdiv
                                                                  (IntKind.wrap IntKind.i64
                                                                    (IntKind.wrap IntKind.i64 (Vl.n a * pw 10 (IntKind.wrap IntKind.i64 (Ty.q (resT 10 ta tb) - Ty.q ta))) +
                                                                      IntKind.wrap IntKind.i64 (Vl.n b * pw 10 (IntKind.wrap IntKind.i64 (Ty.q (resT 10 ta tb) - Ty.q tb)))))
                                                                  (pw 10 (IntKind.wrap IntKind.i64 (Ty.q (resT 10 ta tb) - Ty.q ta)))))
                                                              e0)
                                                            ta b tb ==
                                                          0 then
                                                      bif
                                                          doN 10
                                                                (Vl.mk
                                                                  (IntKind.wrap IntKind.i64
                                                                    (Int.tdiv
                                                                      (IntKind.wrap IntKind.i64
                                                                        (IntKind.wrap IntKind.i64 (Vl.n a * pw 10 (IntKind.wrap IntKind.i64 (Ty.q (resT 10 ta tb) - Ty.q ta))) +
                                                                          IntKind.wrap IntKind.i64 (Vl.n b * pw 10 (IntKind.wrap IntKind.i64 (Ty.q (resT 10 ta tb) - Ty.q tb)))))
                                                                      (pw 10 (IntKind.wrap IntKind.i64 (Ty.q (resT 10 ta tb) - Ty.q ta)))))
                                                                  e0)
                                                                ta b tb ==
                                                              doN 10 a ta b tb &&
                                                            (ByteArray.toList e0 == ByteArray.toList e0 && true) then
                                                        R
                                                          (Value.bool
                                                            (doC 10
                                                                (Vl.mk
                                                                  (IntKind.wrap IntKind.i64
                                                                    (Int.tdiv
                                                                      (IntKind.wrap IntKind.i64
                                                                        (IntKind.wrap IntKind.i64 (Vl.n a * pw 10 (IntKind.wrap IntKind.i64 (Ty.q (resT 10 ta tb) - Ty.q ta))) +
                                                                          IntKind.wrap IntKind.i64 (Vl.n b * pw 10 (IntKind.wrap IntKind.i64 (Ty.q (resT 10 ta tb) - Ty.q tb)))))
                                                                      (pw 10 (IntKind.wrap IntKind.i64 (Ty.q (resT 10 ta tb) - Ty.q ta)))))
                                                                  e0)
                                                                ta b tb ==
                                                              doC 10 a ta b tb))
                                                      else R (Value.bool false)
                                                    else R (Value.bool false)
                                                  else False
                                              else False
                                          else False
                                        else False
                                      else False
                                  else False
                          else
                            bif decide (pwOK 10 (IntKind.wrap IntKind.i64 (Ty.q (resT 10 ta tb) - Ty.q tb))) then
                              bif decide (pwOK 10 (IntKind.wrap IntKind.i64 (Ty.q (resT 10 ta tb) - Ty.q ta))) then
                                bif decide (pw 10 (IntKind.wrap IntKind.i64 (Ty.q (resT 10 ta tb) - Ty.q ta)) ≠ 0) then
                                  bif
                                      Int.tmod
                                          (IntKind.wrap IntKind.i64
                                            (IntKind.wrap IntKind.i64 (Vl.n a * pw 10 (IntKind.wrap IntKind.i64 (Ty.q (resT 10 ta tb) - Ty.q ta))) +
                                              IntKind.wrap IntKind.i64 (Vl.n b * pw 10 (IntKind.wrap IntKind.i64 (Ty.q (resT 10 ta tb) - Ty.q tb)))))
                                          (pw 10 (IntKind.wrap IntKind.i64 (Ty.q (resT 10 ta tb) - Ty.q ta))) !=
                                        0 then
                                    R (Value.bool true)
                                  else
                                    bif decide (pw 10 (IntKind.wrap IntKind.i64 (Ty.q (resT 10 ta tb) - Ty.q ta)) ≠ 0) then
                                      bif
                                          !fits
                                                (Vl.mk
                                                  (IntKind.wrap IntKind.i64
                                                    (Int.tdiv
                                                      (IntKind.wrap IntKind.i64
                                                        (IntKind.wrap IntKind.i64 (Vl.n a * pw 10 (IntKind.wrap IntKind.i64 (Ty.q (resT 10 ta tb) - Ty.q ta))) +
                                                          IntKind.wrap IntKind.i64 (Vl.n b * pw 10 (IntKind.wrap IntKind.i64 (Ty.q (resT 10 ta tb) - Ty.q tb)))))
                                                      (pw 10 (IntKind.wrap IntKind.i64 (Ty.q (resT 10 ta tb) - Ty.q ta)))))
                                                  e0)
                                                ta ==
                                              0 then
                                        R (Value.bool true)
                                      else
                                        bif decide (pw 10 (IntKind.wrap IntKind.i64 (Ty.q (resT 10 ta tb) - Ty.q ta)) ≠ 0) then
                                          bif
                                              doE 10
                                                  (Vl.mk
                                                    (IntKind.wrap IntKind.i64
                                                      (Int.tdiv
                                                        (IntKind.wrap IntKind.i64
                                                          (IntKind.wrap IntKind.i64 (Vl.n a * pw 10 (IntKind.wrap IntKind.i64 (Ty.q (resT 10 ta tb) - Ty.q ta))) +
                                                            IntKind.wrap IntKind.i64 (Vl.n b * pw 10 (IntKind.wrap IntKind.i64 (Ty.q (resT 10 ta tb) - Ty.q tb)))))
                                                        (pw 10 (IntKind.wrap IntKind.i64 (Ty.q (resT 10 ta tb) - Ty.q ta)))))
                                                    e0)
                                                  ta b tb ==
                                                0 then
                                            bif
                                                doN 10
                                                      (Vl.mk
                                                        (IntKind.wrap IntKind.i64
                                                          (Int.tdiv
                                                            (IntKind.wrap IntKind.i64
                                                              (IntKind.wrap IntKind.i64 (Vl.n a * pw 10 (IntKind.wrap IntKind.i64 (Ty.q (resT 10 ta tb) - Ty.q ta))) +
                                                                IntKind.wrap IntKind.i64 (Vl.n b * pw 10 (IntKind.wrap IntKind.i64 (Ty.q (resT 10 ta tb) - Ty.q tb)))))
                                                            (pw 10 (IntKind.wrap IntKind.i64 (Ty.q (resT 10 ta tb) - Ty.q ta)))))
                                                        e0)
                                                      ta b tb ==
                                                    doN 10 a ta b tb &&
                                                  (ByteArray.toList e0 == ByteArray.toList e0 && true) then
                                              R
                                                (Value.bool
                                                  (doC 10
                                                      (Vl.mk
                                                        (IntKind.wrap IntKind.i64
                                                          (Int.tdiv
                                                            (IntKind.wrap IntKind.i64
                                                              (IntKind.wrap IntKind.i64 (Vl.n a * pw 10 (IntKind.wrap IntKind.i64 (Ty.q (resT 10 ta tb) - Ty.q ta))) +
                                                                IntKind.wrap IntKind.i64 (Vl.n b * pw 10 (IntKind.wrap IntKind.i64 (Ty.q (resT 10 ta tb) - Ty.q tb)))))
                                                            (pw 10 (IntKind.wrap IntKind.i64 (Ty.q (resT 10 ta tb) - Ty.q ta)))))
                                                        e0)
                                                      ta b tb ==
                                                    doC 10 a ta b tb))
                                            else R (Value.bool false)
                                          else R (Value.bool false)
                                        else False
                                    else False
                                else False
                              else False
                            else False
                        else False
                      else False
                    else False) := by kernel_rfl
theorem ok12 : PureOK Try.prog 12 (sp4 s12) := by
  refine pure4 ok_G19 hmix fn12 lokf_none (Nat.le_of_ble_eq_true (by kernel_rfl)) fun a ta b tb hc => ?_
  rw [Does, v12]
  refine cond_intro (fun _ => rfl) (fun h => ?_)
  obtain ⟨ha, hb, hk⟩ := both_of h
  have P := modP ha hb hk
  refine c_f (by rw [P.e]; rfl) (c_f (by rw [P.d]; rfl) (c_f (by rw [P.q, imax_max]; simp) ?_))
  refine cond_intro (fun bz => ?_) (fun bz => ?_)
  · obtain ⟨z1, z2⟩ := P.z (by simpa using bz)
    rw [z1, z2]
    simp [s12]
  have bz : b.n ≠ 0 := by simpa using bz
  obtain ⟨ne, gn⟩ := gd_neg hb
  obtain ⟨n1, n2, n3⟩ := mod_neg ha hb hk bz
  rw [ne]
  refine c_f (by rw [n1]; rfl) (c_f (by rw [n2]; simp) (c_f (by rw [n3]; simp) ?_))
  have ra := valid_r ha.1
  have rb := valid_r hb.1
  have bb := bnd_range hb.1
  have rn := gd_rng hb
  have mk := maxq_k ha.1 hb.1 hk
  rw [P.q, w64 (n := max ta.q tb.q - ta.q) (by omega), w64 (n := max ta.q tb.q - tb.q) (by omega)]
  obtain ⟨X, hX, xr, w1⟩ : ∃ X, scl a.n (max ta.q tb.q - ta.q) = X ∧ (-P18 ≤ X ∧ X ≤ P18) ∧ IntKind.i64.wrap (a.n * pw 10 (max ta.q tb.q - ta.q)) = X :=
    ⟨_, rfl, scl_rng ha.1 (gd_rng ha) (by omega) (fun k => by have := mk k; omega), sclp ha.1 (gd_rng ha) (by omega) (fun k => by have := mk k; omega)⟩
  obtain ⟨Y, hY, yr, w2⟩ : ∃ Y, scl b.n (max ta.q tb.q - tb.q) = Y ∧ (-P18 ≤ Y ∧ Y ≤ P18) ∧ IntKind.i64.wrap (b.n * pw 10 (max ta.q tb.q - tb.q)) = Y :=
    ⟨_, rfl, scl_rng hb.1 (gd_rng hb) (by omega) (fun k => by have := mk (by omega); omega), sclp hb.1 (gd_rng hb) (by omega) (fun k => by have := mk (by omega); omega)⟩
  have w3 : IntKind.i64.wrap (max b.n (-b.n) * pw 10 (max ta.q tb.q - tb.q)) = max Y (-Y) := by
    rw [← hY, scl_up (by omega)]
    rw [← hY, scl_up (by omega)] at yr
    unfold P18 at yr
    have p := pw_pos (b := 10) (by omega) (max ta.q tb.q - tb.q)
    rcases Int.le_total 0 b.n with h0 | h0
    · have := Int.mul_nonneg h0 (show 0 ≤ pw 10 (max ta.q tb.q - tb.q) by omega)
      rw [show max b.n (-b.n) = b.n by omega, w64 (by omega)]; omega
    · have := Int.mul_nonneg (show 0 ≤ -b.n by omega) (show 0 ≤ pw 10 (max ta.q tb.q - tb.q) by omega)
      rw [show max b.n (-b.n) = -b.n by omega, w64 (by rw [Int.neg_mul] at *; omega)]; rw [Int.neg_mul] at *; omega
  have y0 : Y ≠ 0 := by rw [← hY, Ne, scl_ne (by omega)]; exact bz
  unfold P18 at xr yr
  obtain ⟨u, hu, u1⟩ : ∃ u, pw 10 (max ta.q tb.q - ta.q) = u ∧ 1 ≤ u := ⟨_, rfl, pw_pos (by omega) _⟩
  have o1 : decide (pwOK 10 (max ta.q tb.q - ta.q)) = true := decide_eq_true (by unfold pwOK; omega)
  have o2 : decide (pwOK 10 (max ta.q tb.q - tb.q)) = true := decide_eq_true (by unfold pwOK; omega)
  have w5 : IntKind.i64.wrap (X + Y) = X + Y := w64 (by omega)
  have td := tdiv_rng (x := X + Y) (y := u) (A := 2000000000000000000) (by omega)
  have w6 : IntKind.i64.wrap ((X + Y).tdiv u) = (X + Y).tdiv u := w64 (by omega)
  rw [hu] at w1 ⊢
  refine c_t (by rw [o1]) (c_t (decide_eq_true (by unfold R63; omega)) (c_t (by rw [o2]) ?_))
  rw [w3]
  refine cond_intro (fun c0 => ?_) (fun c0 => ?_)
  · have c0 : doC 10 a ta b tb = 0 := by simpa using c0
    obtain ⟨m1, m2, m3⟩ := mod_zero ha hb hk bz hX hY c0
    refine c_f (decide_eq_false (by omega)) (c_f (decide_eq_false (by omega)) (c_f (by rw [P.g]; rfl) (c_t (decide_eq_true (by omega)) ?_)))
    rw [w1, w64 (n := X - doN 10 a ta b tb) (by omega)]
    refine c_f (by rw [m3]; rfl) ?_
    refine c_t (by first | exact o2 | rfl) (c_t (by first | exact o1 | rfl) (c_t (decide_eq_true (by omega)) ?_))
    rw [w2, w5]
    refine cond_intro (fun _ => rfl) (fun s1 => ?_)
    have s1 : (X + Y).tmod u = 0 := by simpa using s1
    refine c_t (decide_eq_true (by omega)) ?_
    rw [w6]
    refine cond_intro (fun _ => rfl) (fun s2 => ?_)
    have s2 : Gd ⟨(X + Y).tdiv u, e0⟩ ta := gd_iff.1 (by simpa using s2)
    obtain ⟨z1, z2, z3⟩ := mod_sum ha hb hk bz hu hX hY s1 s2
    refine c_t (decide_eq_true (by omega)) (c_t (by rw [z1]; rfl) (c_t (by rw [z2]; simp) ?_))
    rw [z3]
    simp [s12]
  · skip
    refine c_t (by first | exact o2 | rfl) (c_t (by first | exact o1 | rfl) (c_t (decide_eq_true (by omega)) ?_))
    rw [w1, w2, w5]
    refine cond_intro (fun _ => rfl) (fun s1 => ?_)
    have s1 : (X + Y).tmod u = 0 := by simpa using s1
    refine c_t (decide_eq_true (by omega)) ?_
    rw [w6]
    refine cond_intro (fun _ => rfl) (fun s2 => ?_)
    have s2 : Gd ⟨(X + Y).tdiv u, e0⟩ ta := gd_iff.1 (by simpa using s2)
    obtain ⟨z1, z2, z3⟩ := mod_sum ha hb hk bz hu hX hY s1 s2
    refine c_t (decide_eq_true (by omega)) (c_t (by rw [z1]; rfl) (c_t (by rw [z2]; simp) ?_))
    rw [z3]
    simp [s12]

end Go.Fx
