/-
  The law of exactness.
-/
import Derived.Test.YthaedhabookjeaaFx26
import Derived.Test.YthaedhabookjeaaAb15
set_option linter.unusedVariables false
set_option linter.unusedSimpArgs false
namespace Go.Fx
open Go Go.Ab Go.Proofs

/-- A result is exact, or has too many digits. -/
theorem ex_all {op : Int} {a b : Vl} {ta tb : Ty} (h : op = 6 ∨ op = 7 ∨ op = 8 ∨ op = 12 ∨ op = 13) (ha : Gd a ta) (hb : Gd b tb) (hk : ta.k = tb.k) :
    doE op a ta b tb = 0 ∧ resE op ta tb = 0 ∧ (resT op ta tb).q = resQ op ta tb ∧
    ((doC op a ta b tb = 0 ∧ doN op a ta b tb = opN op a.n ta b.n tb) ∨ (doC op a ta b tb = 2 ∧ (resT op ta tb).p = most ta.k ∧ pw (base ta.k) (most ta.k) ≤ max (opN op a.n ta b.n tb) (-opN op a.n ta b.n tb))) := by
  have ho : 5 ≤ op ∧ op ≤ 13 := by omega
  have hu : op ≠ 5 ∧ op ≠ 11 := by omega
  obtain ⟨h1, h2, h3⟩ := do_two ho hu ha hb hk
  obtain ⟨h4, h5⟩ := resT_bin ho hu ha.1 hb.1 hk
  have hz : ¬ zer op b.n := nz_of (by omega)
  obtain ⟨h6, h7⟩ := do_nz (a := a.n) (ta := ta) (tb := tb) hz
  refine ⟨h1, h5, by rw [h4]; rfl, ?_⟩
  rw [h2, h3, h4, h6, h7]
  by_cases hi : InB (opN op a.n ta b.n tb) (rty op ta tb)
  · exact .inl ⟨(cutC0 (by decide)).2 hi, cutN_in hi⟩
  · have hp : ¬ (rty op ta tb).p < most ta.k := fun hp => hi (all_in ho ha.1 hb.1 hk (gd_rng ha) (gd_rng hb) hz (fun h => by omega) hp)
    have hp' : (rty op ta tb).p = most ta.k := by rw [rty_p] at hp ⊢; omega
    refine .inr ⟨by rw [cutC, if_neg hi], hp', ?_⟩
    have hbd : bnd (rty op ta tb) = pw (base ta.k) (most ta.k) := by unfold bnd; rw [hp', rty_k]
    unfold InB at hi
    rw [hbd] at hi
    omega
theorem un_all {op : Int} {a b : Vl} {ta tb : Ty} (h : op = 5 ∨ op = 11) (ha : Gd a ta) (hb : Gd b tb) (hk : ta.k = tb.k) :
    doE op a ta b tb = 0 ∧ doC op a ta b tb = 0 ∧ doN op a ta b tb = (if op = 5 then -a.n else max a.n (-a.n)) := by
  obtain ⟨b', tb', hb', hk', h9, h1, h2, h3, h4, h5, h6⟩ := op_all (op := op) (by omega) ha hb hk
  obtain ⟨rfl, rfl⟩ := h6 h
  have hz : ¬ zer op b'.n := nz_of (by omega)
  have r := gd_rng hb'
  have e0 : bnd (rty op tb' tb') = bnd tb' := by
    have hp : tb'.p ≤ most tb'.k := hb'.1.2.2.1
    unfold bnd
    rw [rty_p, rty_k]
    congr 1
    unfold resD
    rw [if_pos h]; omega
  have ex : opN op b'.n tb' b'.n tb' = (if op = 5 then -b'.n else max b'.n (-b'.n)) := by
    rw [opN_x (by omega) (by omega), show max tb'.q tb'.q - tb'.q = 0 by omega, scl0]
    rcases h with rfl | rfl <;> rfl
  have hi : InB (opN op b'.n tb' b'.n tb') (rty op tb' tb') := by
    unfold InB
    rw [e0, ex]
    split <;> omega
  rw [h4, h5, (do_nz hz).1, (do_nz hz).2, cutN_in hi]
  exact ⟨h1, (cutC0 (by decide)).2 hi, ex⟩
theorem not_lt_of {n : Int} {W : Int} (h : n ≤ max W (-W)) : decide (max W (-W) < n) = false := decide_eq_false (by omega)

def s9 (a : Vl) (ta : Ty) (b : Vl) (tb : Ty) : Bool × Value := (true, B true)
theorem fn9 : Fn1 Try.prog 9 Try.f9 := ⟨Try.func9, by kernel_rfl, by kernel_rfl, by kernel_rfl⟩
theorem v9 (a : Vl) (ta : Ty) (b : Vl) (tb : Ty) (R : Value → Prop) : bodyQ Try.prog G19 noL Try.f9 [Enc.enc a, Enc.enc ta, Enc.enc b, Enc.enc tb] (fun _ => none) 0 (fun v _ _ => R v) = (
    bif !(fits a ta == 0 && fits b tb == 0 && Ty.k ta == Ty.k tb) then R (Value.bool true)
    else
      bif decide (pwOK 10 (IntKind.wrap IntKind.i64 (imax (Ty.q ta) (Ty.q tb) - Ty.q ta))) then
        bif decide (pwOK 10 (IntKind.wrap IntKind.i64 (imax (Ty.q ta) (Ty.q tb) - Ty.q tb))) then
          bif
              resE 6 ta tb != 0 ||
                (doE 6 a ta b tb != 0 ||
                  (Ty.q (resT 6 ta tb) != imax (Ty.q ta) (Ty.q tb) ||
                    bif doC 6 a ta b tb == 0 then
                      !(doN 6 a ta b tb ==
                              IntKind.wrap IntKind.i64
                                (IntKind.wrap IntKind.i64 (Vl.n a * pw 10 (IntKind.wrap IntKind.i64 (imax (Ty.q ta) (Ty.q tb) - Ty.q ta))) +
                                  IntKind.wrap IntKind.i64 (Vl.n b * pw 10 (IntKind.wrap IntKind.i64 (imax (Ty.q ta) (Ty.q tb) - Ty.q tb)))) &&
                            (ByteArray.toList e0 == ByteArray.toList e0 && true)) ||
                        bif doC 6 a ta b tb != 0 then
                          doC 6 a ta b tb != 2 ||
                            (Ty.p (resT 6 ta tb) != most (Ty.k ta) ||
                              decide
                                  (R63
                                    (IntKind.wrap IntKind.i64
                                      (IntKind.wrap IntKind.i64 (Vl.n a * pw 10 (IntKind.wrap IntKind.i64 (imax (Ty.q ta) (Ty.q tb) - Ty.q ta))) +
                                        IntKind.wrap IntKind.i64 (Vl.n b * pw 10 (IntKind.wrap IntKind.i64 (imax (Ty.q ta) (Ty.q tb) - Ty.q tb)))))) &&
                                (decide (most (Ty.k ta) ≤ Ty.p ta ∧ Valid ta ∨ most (Ty.k ta) = most (Ty.k ta)) && true))
                        else true
                    else
                      bif doC 6 a ta b tb != 0 then
                        doC 6 a ta b tb != 2 ||
                          (Ty.p (resT 6 ta tb) != most (Ty.k ta) ||
                            decide
                                (R63
                                  (IntKind.wrap IntKind.i64
                                    (IntKind.wrap IntKind.i64 (Vl.n a * pw 10 (IntKind.wrap IntKind.i64 (imax (Ty.q ta) (Ty.q tb) - Ty.q ta))) +
                                      IntKind.wrap IntKind.i64 (Vl.n b * pw 10 (IntKind.wrap IntKind.i64 (imax (Ty.q ta) (Ty.q tb) - Ty.q tb)))))) &&
                              (decide (most (Ty.k ta) ≤ Ty.p ta ∧ Valid ta ∨ most (Ty.k ta) = most (Ty.k ta)) && true))
                      else true)) then
            bif
                resE 6 ta tb != 0 ||
                  (doE 6 a ta b tb != 0 ||
                    (Ty.q (resT 6 ta tb) != imax (Ty.q ta) (Ty.q tb) ||
                      bif doC 6 a ta b tb == 0 then
                        !(doN 6 a ta b tb ==
                                IntKind.wrap IntKind.i64
                                  (IntKind.wrap IntKind.i64 (Vl.n a * pw 10 (IntKind.wrap IntKind.i64 (imax (Ty.q ta) (Ty.q tb) - Ty.q ta))) +
                                    IntKind.wrap IntKind.i64 (Vl.n b * pw 10 (IntKind.wrap IntKind.i64 (imax (Ty.q ta) (Ty.q tb) - Ty.q tb)))) &&
                              (ByteArray.toList e0 == ByteArray.toList e0 && true)) ||
                          doC 6 a ta b tb != 0 &&
                            (doC 6 a ta b tb != 2 ||
                              (Ty.p (resT 6 ta tb) != most (Ty.k ta) ||
                                decide
                                  (max
                                      (IntKind.wrap IntKind.i64
                                        (IntKind.wrap IntKind.i64 (Vl.n a * pw 10 (IntKind.wrap IntKind.i64 (imax (Ty.q ta) (Ty.q tb) - Ty.q ta))) +
                                          IntKind.wrap IntKind.i64 (Vl.n b * pw 10 (IntKind.wrap IntKind.i64 (imax (Ty.q ta) (Ty.q tb) - Ty.q tb)))))
                                      (-IntKind.wrap IntKind.i64
                                          (IntKind.wrap IntKind.i64 (Vl.n a * pw 10 (IntKind.wrap IntKind.i64 (imax (Ty.q ta) (Ty.q tb) - Ty.q ta))) +
                                            IntKind.wrap IntKind.i64 (Vl.n b * pw 10 (IntKind.wrap IntKind.i64 (imax (Ty.q ta) (Ty.q tb) - Ty.q tb))))) <
                                    pw (base (Ty.k ta)) (most (Ty.k ta)))))
                      else
                        doC 6 a ta b tb != 0 &&
                          (doC 6 a ta b tb != 2 ||
                            (Ty.p (resT 6 ta tb) != most (Ty.k ta) ||
                              decide
                                (max
                                    (IntKind.wrap IntKind.i64
                                      (IntKind.wrap IntKind.i64 (Vl.n a * pw 10 (IntKind.wrap IntKind.i64 (imax (Ty.q ta) (Ty.q tb) - Ty.q ta))) +
                                        IntKind.wrap IntKind.i64 (Vl.n b * pw 10 (IntKind.wrap IntKind.i64 (imax (Ty.q ta) (Ty.q tb) - Ty.q tb)))))
                                    (-IntKind.wrap IntKind.i64
                                        (IntKind.wrap IntKind.i64 (Vl.n a * pw 10 (IntKind.wrap IntKind.i64 (imax (Ty.q ta) (Ty.q tb) - Ty.q ta))) +
                                          IntKind.wrap IntKind.i64 (Vl.n b * pw 10 (IntKind.wrap IntKind.i64 (imax (Ty.q ta) (Ty.q tb) - Ty.q tb))))) <
                                  pw (base (Ty.k ta)) (most (Ty.k ta))))))) then
              R (Value.bool false)
            else
              bif
                  resE 7 ta tb != 0 ||
                    (doE 7 a ta b tb != 0 ||
                      (Ty.q (resT 7 ta tb) != imax (Ty.q ta) (Ty.q tb) ||
                        bif doC 7 a ta b tb == 0 then
                          !(doN 7 a ta b tb ==
                                  IntKind.wrap IntKind.i64
                                    (IntKind.wrap IntKind.i64 (Vl.n a * pw 10 (IntKind.wrap IntKind.i64 (imax (Ty.q ta) (Ty.q tb) - Ty.q ta))) -
                                      IntKind.wrap IntKind.i64 (Vl.n b * pw 10 (IntKind.wrap IntKind.i64 (imax (Ty.q ta) (Ty.q tb) - Ty.q tb)))) &&
                                (ByteArray.toList e0 == ByteArray.toList e0 && true)) ||
                            bif doC 7 a ta b tb != 0 then
                              doC 7 a ta b tb != 2 ||
                                (Ty.p (resT 7 ta tb) != most (Ty.k ta) ||
                                  decide
                                      (R63
                                        (IntKind.wrap IntKind.i64
                                          (IntKind.wrap IntKind.i64 (Vl.n a * pw 10 (IntKind.wrap IntKind.i64 (imax (Ty.q ta) (Ty.q tb) - Ty.q ta))) -
                                            IntKind.wrap IntKind.i64 (Vl.n b * pw 10 (IntKind.wrap IntKind.i64 (imax (Ty.q ta) (Ty.q tb) - Ty.q tb)))))) &&
                                    (decide (most (Ty.k ta) ≤ Ty.p ta ∧ Valid ta ∨ most (Ty.k ta) = most (Ty.k ta)) && true))
                            else true
                        else
                          bif doC 7 a ta b tb != 0 then
                            doC 7 a ta b tb != 2 ||
                              (Ty.p (resT 7 ta tb) != most (Ty.k ta) ||
                                decide
                                    (R63
                                      (IntKind.wrap IntKind.i64
                                        (IntKind.wrap IntKind.i64 (Vl.n a * pw 10 (IntKind.wrap IntKind.i64 (imax (Ty.q ta) (Ty.q tb) - Ty.q ta))) -
                                          IntKind.wrap IntKind.i64 (Vl.n b * pw 10 (IntKind.wrap IntKind.i64 (imax (Ty.q ta) (Ty.q tb) - Ty.q tb)))))) &&
                                  (decide (most (Ty.k ta) ≤ Ty.p ta ∧ Valid ta ∨ most (Ty.k ta) = most (Ty.k ta)) && true))
                          else true)) then
                bif
                    resE 7 ta tb != 0 ||
                      (doE 7 a ta b tb != 0 ||
                        (Ty.q (resT 7 ta tb) != imax (Ty.q ta) (Ty.q tb) ||
                          bif doC 7 a ta b tb == 0 then
                            !(doN 7 a ta b tb ==
                                    IntKind.wrap IntKind.i64
                                      (IntKind.wrap IntKind.i64 (Vl.n a * pw 10 (IntKind.wrap IntKind.i64 (imax (Ty.q ta) (Ty.q tb) - Ty.q ta))) -
                                        IntKind.wrap IntKind.i64 (Vl.n b * pw 10 (IntKind.wrap IntKind.i64 (imax (Ty.q ta) (Ty.q tb) - Ty.q tb)))) &&
                                  (ByteArray.toList e0 == ByteArray.toList e0 && true)) ||
                              doC 7 a ta b tb != 0 &&
                                (doC 7 a ta b tb != 2 ||
                                  (Ty.p (resT 7 ta tb) != most (Ty.k ta) ||
                                    decide
                                      (max
                                          (IntKind.wrap IntKind.i64
                                            (IntKind.wrap IntKind.i64 (Vl.n a * pw 10 (IntKind.wrap IntKind.i64 (imax (Ty.q ta) (Ty.q tb) - Ty.q ta))) -
                                              IntKind.wrap IntKind.i64 (Vl.n b * pw 10 (IntKind.wrap IntKind.i64 (imax (Ty.q ta) (Ty.q tb) - Ty.q tb)))))
                                          (-IntKind.wrap IntKind.i64
                                              (IntKind.wrap IntKind.i64 (Vl.n a * pw 10 (IntKind.wrap IntKind.i64 (imax (Ty.q ta) (Ty.q tb) - Ty.q ta))) -
                                                IntKind.wrap IntKind.i64 (Vl.n b * pw 10 (IntKind.wrap IntKind.i64 (imax (Ty.q ta) (Ty.q tb) - Ty.q tb))))) <
                                        pw (base (Ty.k ta)) (most (Ty.k ta)))))
                          else
                            doC 7 a ta b tb != 0 &&
                              (doC 7 a ta b tb != 2 ||
                                (Ty.p (resT 7 ta tb) != most (Ty.k ta) ||
                                  decide
                                    (max
                                        (IntKind.wrap IntKind.i64
                                          (IntKind.wrap IntKind.i64 (Vl.n a * pw 10 (IntKind.wrap IntKind.i64 (imax (Ty.q ta) (Ty.q tb) - Ty.q ta))) -
                                            IntKind.wrap IntKind.i64 (Vl.n b * pw 10 (IntKind.wrap IntKind.i64 (imax (Ty.q ta) (Ty.q tb) - Ty.q tb)))))
                                        (-IntKind.wrap IntKind.i64
                                            (IntKind.wrap IntKind.i64 (Vl.n a * pw 10 (IntKind.wrap IntKind.i64 (imax (Ty.q ta) (Ty.q tb) - Ty.q ta))) -
                                              IntKind.wrap IntKind.i64 (Vl.n b * pw 10 (IntKind.wrap IntKind.i64 (imax (Ty.q ta) (Ty.q tb) - Ty.q tb))))) <
                                      pw (base (Ty.k ta)) (most (Ty.k ta))))))) then
                  R (Value.bool false)
                else
                  bif
                      resE 12 ta tb != 0 ||
                        (doE 12 a ta b tb != 0 ||
                          (Ty.q (resT 12 ta tb) != imax (Ty.q ta) (Ty.q tb) ||
                            bif doC 12 a ta b tb == 0 then
                              !(doN 12 a ta b tb ==
                                      imin (IntKind.wrap IntKind.i64 (Vl.n a * pw 10 (IntKind.wrap IntKind.i64 (imax (Ty.q ta) (Ty.q tb) - Ty.q ta))))
                                        (IntKind.wrap IntKind.i64 (Vl.n b * pw 10 (IntKind.wrap IntKind.i64 (imax (Ty.q ta) (Ty.q tb) - Ty.q tb)))) &&
                                    (ByteArray.toList e0 == ByteArray.toList e0 && true)) ||
                                bif doC 12 a ta b tb != 0 then
                                  doC 12 a ta b tb != 2 ||
                                    (Ty.p (resT 12 ta tb) != most (Ty.k ta) ||
                                      decide
                                          (R63
                                            (imin (IntKind.wrap IntKind.i64 (Vl.n a * pw 10 (IntKind.wrap IntKind.i64 (imax (Ty.q ta) (Ty.q tb) - Ty.q ta))))
                                              (IntKind.wrap IntKind.i64 (Vl.n b * pw 10 (IntKind.wrap IntKind.i64 (imax (Ty.q ta) (Ty.q tb) - Ty.q tb)))))) &&
                                        (decide (most (Ty.k ta) ≤ Ty.p ta ∧ Valid ta ∨ most (Ty.k ta) = most (Ty.k ta)) && true))
                                else true
                            else
                              bif doC 12 a ta b tb != 0 then
                                doC 12 a ta b tb != 2 ||
                                  (Ty.p (resT 12 ta tb) != most (Ty.k ta) ||
                                    decide
                                        (R63
                                          (imin (IntKind.wrap IntKind.i64 (Vl.n a * pw 10 (IntKind.wrap IntKind.i64 (imax (Ty.q ta) (Ty.q tb) - Ty.q ta))))
                                            (IntKind.wrap IntKind.i64 (Vl.n b * pw 10 (IntKind.wrap IntKind.i64 (imax (Ty.q ta) (Ty.q tb) - Ty.q tb)))))) &&
                                      (decide (most (Ty.k ta) ≤ Ty.p ta ∧ Valid ta ∨ most (Ty.k ta) = most (Ty.k ta)) && true))
                              else true)) then
                    bif
                        resE 12 ta tb != 0 ||
                          (doE 12 a ta b tb != 0 ||
                            (Ty.q (resT 12 ta tb) != imax (Ty.q ta) (Ty.q tb) ||
                              bif doC 12 a ta b tb == 0 then
                                !(doN 12 a ta b tb ==
                                        imin (IntKind.wrap IntKind.i64 (Vl.n a * pw 10 (IntKind.wrap IntKind.i64 (imax (Ty.q ta) (Ty.q tb) - Ty.q ta))))
                                          (IntKind.wrap IntKind.i64 (Vl.n b * pw 10 (IntKind.wrap IntKind.i64 (imax (Ty.q ta) (Ty.q tb) - Ty.q tb)))) &&
                                      (ByteArray.toList e0 == ByteArray.toList e0 && true)) ||
                                  doC 12 a ta b tb != 0 &&
                                    (doC 12 a ta b tb != 2 ||
                                      (Ty.p (resT 12 ta tb) != most (Ty.k ta) ||
                                        decide
                                          (max
                                              (imin (IntKind.wrap IntKind.i64 (Vl.n a * pw 10 (IntKind.wrap IntKind.i64 (imax (Ty.q ta) (Ty.q tb) - Ty.q ta))))
                                                (IntKind.wrap IntKind.i64 (Vl.n b * pw 10 (IntKind.wrap IntKind.i64 (imax (Ty.q ta) (Ty.q tb) - Ty.q tb)))))
                                              (-imin (IntKind.wrap IntKind.i64 (Vl.n a * pw 10 (IntKind.wrap IntKind.i64 (imax (Ty.q ta) (Ty.q tb) - Ty.q ta))))
                                                  (IntKind.wrap IntKind.i64 (Vl.n b * pw 10 (IntKind.wrap IntKind.i64 (imax (Ty.q ta) (Ty.q tb) - Ty.q tb))))) <
                                            pw (base (Ty.k ta)) (most (Ty.k ta)))))
                              else
                                doC 12 a ta b tb != 0 &&
                                  (doC 12 a ta b tb != 2 ||
                                    (Ty.p (resT 12 ta tb) != most (Ty.k ta) ||
                                      decide
                                        (max
                                            (imin (IntKind.wrap IntKind.i64 (Vl.n a * pw 10 (IntKind.wrap IntKind.i64 (imax (Ty.q ta) (Ty.q tb) - Ty.q ta))))
                                              (IntKind.wrap IntKind.i64 (Vl.n b * pw 10 (IntKind.wrap IntKind.i64 (imax (Ty.q ta) (Ty.q tb) - Ty.q tb)))))
                                            (-imin (IntKind.wrap IntKind.i64 (Vl.n a * pw 10 (IntKind.wrap IntKind.i64 (imax (Ty.q ta) (Ty.q tb) - Ty.q ta))))
                                                (IntKind.wrap IntKind.i64 (Vl.n b * pw 10 (IntKind.wrap IntKind.i64 (imax (Ty.q ta) (Ty.q tb) - Ty.q tb))))) <
                                          pw (base (Ty.k ta)) (most (Ty.k ta))))))) then
                      R (Value.bool false)
                    else
                      bif
                          resE 13 ta tb != 0 ||
                            (doE 13 a ta b tb != 0 ||
                              (Ty.q (resT 13 ta tb) != imax (Ty.q ta) (Ty.q tb) ||
                                bif doC 13 a ta b tb == 0 then
                                  !(doN 13 a ta b tb ==
                                          imax (IntKind.wrap IntKind.i64 (Vl.n a * pw 10 (IntKind.wrap IntKind.i64 (imax (Ty.q ta) (Ty.q tb) - Ty.q ta))))
                                            (IntKind.wrap IntKind.i64 (Vl.n b * pw 10 (IntKind.wrap IntKind.i64 (imax (Ty.q ta) (Ty.q tb) - Ty.q tb)))) &&
                                        (ByteArray.toList e0 == ByteArray.toList e0 && true)) ||
                                    bif doC 13 a ta b tb != 0 then
                                      doC 13 a ta b tb != 2 ||
                                        (Ty.p (resT 13 ta tb) != most (Ty.k ta) ||
                                          decide
                                              (R63
                                                (imax (IntKind.wrap IntKind.i64 (Vl.n a * pw 10 (IntKind.wrap IntKind.i64 (imax (Ty.q ta) (Ty.q tb) - Ty.q ta))))
                                                  (IntKind.wrap IntKind.i64 (Vl.n b * pw 10 (IntKind.wrap IntKind.i64 (imax (Ty.q ta) (Ty.q tb) - Ty.q tb)))))) &&
                                            (decide (most (Ty.k ta) ≤ Ty.p ta ∧ Valid ta ∨ most (Ty.k ta) = most (Ty.k ta)) && true))
                                    else true
                                else
                                  bif doC 13 a ta b tb != 0 then
                                    doC 13 a ta b tb != 2 ||
                                      (Ty.p (resT 13 ta tb) != most (Ty.k ta) ||
                                        decide
                                            (R63
                                              (imax (IntKind.wrap IntKind.i64 (Vl.n a * pw 10 (IntKind.wrap IntKind.i64 (imax (Ty.q ta) (Ty.q tb) - Ty.q ta))))
                                                (IntKind.wrap IntKind.i64 (Vl.n b * pw 10 (IntKind.wrap IntKind.i64 (imax (Ty.q ta) (Ty.q tb) - Ty.q tb)))))) &&
                                          (decide (most (Ty.k ta) ≤ Ty.p ta ∧ Valid ta ∨ most (Ty.k ta) = most (Ty.k ta)) && true))
                                  else true)) then
                        bif
                            resE 13 ta tb != 0 ||
                              (doE 13 a ta b tb != 0 ||
                                (Ty.q (resT 13 ta tb) != imax (Ty.q ta) (Ty.q tb) ||
                                  bif doC 13 a ta b tb == 0 then
                                    !(doN 13 a ta b tb ==
                                            imax (IntKind.wrap IntKind.i64 (Vl.n a * pw 10 (IntKind.wrap IntKind.i64 (imax (Ty.q ta) (Ty.q tb) - Ty.q ta))))
                                              (IntKind.wrap IntKind.i64 (Vl.n b * pw 10 (IntKind.wrap IntKind.i64 (imax (Ty.q ta) (Ty.q tb) - Ty.q tb)))) &&
                                          (ByteArray.toList e0 == ByteArray.toList e0 && true)) ||
                                      doC 13 a ta b tb != 0 &&
                                        (doC 13 a ta b tb != 2 ||
                                          (Ty.p (resT 13 ta tb) != most (Ty.k ta) ||
                                            decide
                                              (max
                                                  (imax (IntKind.wrap IntKind.i64 (Vl.n a * pw 10 (IntKind.wrap IntKind.i64 (imax (Ty.q ta) (Ty.q tb) - Ty.q ta))))
                                                    (IntKind.wrap IntKind.i64 (Vl.n b * pw 10 (IntKind.wrap IntKind.i64 (imax (Ty.q ta) (Ty.q tb) - Ty.q tb)))))
                                                  (-imax (IntKind.wrap IntKind.i64 (Vl.n a * pw 10 (IntKind.wrap IntKind.i64 (imax (Ty.q ta) (Ty.q tb) - Ty.q ta))))
                                                      (IntKind.wrap IntKind.i64 (Vl.n b * pw 10 (IntKind.wrap IntKind.i64 (imax (Ty.q ta) (Ty.q tb) - Ty.q tb))))) <
                                                pw (base (Ty.k ta)) (most (Ty.k ta)))))
                                  else
                                    doC 13 a ta b tb != 0 &&
                                      (doC 13 a ta b tb != 2 ||
                                        (Ty.p (resT 13 ta tb) != most (Ty.k ta) ||
                                          decide
                                            (max
                                                (imax (IntKind.wrap IntKind.i64 (Vl.n a * pw 10 (IntKind.wrap IntKind.i64 (imax (Ty.q ta) (Ty.q tb) - Ty.q ta))))
                                                  (IntKind.wrap IntKind.i64 (Vl.n b * pw 10 (IntKind.wrap IntKind.i64 (imax (Ty.q ta) (Ty.q tb) - Ty.q tb)))))
                                                (-imax (IntKind.wrap IntKind.i64 (Vl.n a * pw 10 (IntKind.wrap IntKind.i64 (imax (Ty.q ta) (Ty.q tb) - Ty.q ta))))
                                                    (IntKind.wrap IntKind.i64 (Vl.n b * pw 10 (IntKind.wrap IntKind.i64 (imax (Ty.q ta) (Ty.q tb) - Ty.q tb))))) <
                                              pw (base (Ty.k ta)) (most (Ty.k ta))))))) then
                          R (Value.bool false)
                        else
                          bif doE 5 a ta b tb != 0 || (doC 5 a ta b tb != 0 || true) then
                            bif
                                doE 5 a ta b tb != 0 ||
                                  (doC 5 a ta b tb != 0 || !(doN 5 a ta b tb == IntKind.wrap IntKind.i64 (0 - Vl.n a) && (ByteArray.toList e0 == ByteArray.toList e0 && true))) then
                              R (Value.bool false)
                            else
                              bif doE 11 a ta b tb != 0 || (doC 11 a ta b tb != 0 || decide (R63 (Vl.n a)) && true) then
                                bif
                                    doE 11 a ta b tb != 0 ||
                                      (doC 11 a ta b tb != 0 || !(doN 11 a ta b tb == max (Vl.n a) (-Vl.n a) && (ByteArray.toList e0 == ByteArray.toList e0 && true))) then
                                  R (Value.bool false)
                                else
                                  bif resE 8 ta tb != 0 || (doE 8 a ta b tb != 0 || (decide (Ty.q (resT 8 ta tb) < 0) || true)) then
                                    bif
                                        resE 8 ta tb != 0 ||
                                          (doE 8 a ta b tb != 0 ||
                                            (decide (Ty.q (resT 8 ta tb) < 0) || decide (Ty.q (resT 8 ta tb) > IntKind.wrap IntKind.i64 (Ty.q ta + Ty.q tb)))) then
                                      R (Value.bool false)
                                    else
                                      bif decide (pwOK 10 (IntKind.wrap IntKind.i64 (IntKind.wrap IntKind.i64 (Ty.q ta + Ty.q tb) - Ty.q (resT 8 ta tb)))) then
                                        bif decide (pw 10 (IntKind.wrap IntKind.i64 (IntKind.wrap IntKind.i64 (Ty.q ta + Ty.q tb) - Ty.q (resT 8 ta tb))) ≠ 0) then
                                          bif doC 8 a ta b tb == 0 then
                                            bif
                                                bif
                                                    doN 8 a ta b tb ==
                                                        IntKind.wrap IntKind.i64
                                                          (Int.tdiv (IntKind.wrap IntKind.i64 (Vl.n a * Vl.n b))
                                                            (pw 10 (IntKind.wrap IntKind.i64 (IntKind.wrap IntKind.i64 (Ty.q ta + Ty.q tb) - Ty.q (resT 8 ta tb))))) &&
                                                      (ByteArray.toList e0 == ByteArray.toList e0 && true) then
                                                  decide (IntKind.wrap IntKind.i64 (Ty.q ta + Ty.q tb) > most (Ty.k ta)) || true
                                                else true then
                                              R
                                                (Value.bool
                                                  (doN 8 a ta b tb ==
                                                        IntKind.wrap IntKind.i64
                                                          (Int.tdiv (IntKind.wrap IntKind.i64 (Vl.n a * Vl.n b))
                                                            (pw 10 (IntKind.wrap IntKind.i64 (IntKind.wrap IntKind.i64 (Ty.q ta + Ty.q tb) - Ty.q (resT 8 ta tb))))) &&
                                                      (ByteArray.toList e0 == ByteArray.toList e0 && true) &&
                                                    (decide (IntKind.wrap IntKind.i64 (Ty.q ta + Ty.q tb) > most (Ty.k ta)) ||
                                                      Ty.q (resT 8 ta tb) == IntKind.wrap IntKind.i64 (Ty.q ta + Ty.q tb))))
                                            else False
                                          else
                                            bif
                                                bif doC 8 a ta b tb == 2 then
                                                  bif Ty.p (resT 8 ta tb) == most (Ty.k ta) then
                                                    decide
                                                        (R63
                                                          (IntKind.wrap IntKind.i64
                                                            (Int.tdiv (IntKind.wrap IntKind.i64 (Vl.n a * Vl.n b))
                                                              (pw 10 (IntKind.wrap IntKind.i64 (IntKind.wrap IntKind.i64 (Ty.q ta + Ty.q tb) - Ty.q (resT 8 ta tb))))))) &&
                                                      (decide (most (Ty.k ta) ≤ Ty.p ta ∧ Valid ta ∨ most (Ty.k ta) = most (Ty.k ta)) && true)
                                                  else true
                                                else true then
                                              R
                                                (Value.bool
                                                  (doC 8 a ta b tb == 2 &&
                                                    (Ty.p (resT 8 ta tb) == most (Ty.k ta) &&
                                                      decide
                                                        (max
                                                            (IntKind.wrap IntKind.i64
                                                              (Int.tdiv (IntKind.wrap IntKind.i64 (Vl.n a * Vl.n b))
                                                                (pw 10 (IntKind.wrap IntKind.i64 (IntKind.wrap IntKind.i64 (Ty.q ta + Ty.q tb) - Ty.q (resT 8 ta tb))))))
                                                            (-IntKind.wrap IntKind.i64
                                                                (Int.tdiv (IntKind.wrap IntKind.i64 (Vl.n a * Vl.n b))
                                                                  (pw 10 (IntKind.wrap IntKind.i64 (IntKind.wrap IntKind.i64 (Ty.q ta + Ty.q tb) - Ty.q (resT 8 ta tb)))))) ≥
                                                          pw (base (Ty.k ta)) (most (Ty.k ta))))))
                                            else False
                                        else False
                                      else False
                                  else False
                              else False
                          else False
                      else False
                  else False
              else False
          else False
        else False
      else False) := by kernel_rfl
theorem ok9 : PureOK Try.prog 9 (sp4 s9) := by
  refine qure4 ok_G19 hmix fn9 lokf_none (Nat.le_of_ble_eq_true (by kernel_rfl)) fun a ta b tb hc => ?_
  rw [DoesQ, v9]
  refine cond_intro (fun _ => rfl) (fun h => ?_)
  obtain ⟨ha, hb, hk⟩ := both_of h
  have ra := valid_r ha.1
  have rb := valid_r hb.1
  have ba := bnd_range ha.1
  have na := gd_rng ha
  have nb := gd_rng hb
  have mk := maxq_k ha.1 hb.1 hk
  simp only [imax_max, imin_min]
  rw [w64 (n := max ta.q tb.q - ta.q) (by omega), w64 (n := max ta.q tb.q - tb.q) (by omega)]
  obtain ⟨X, hX, xr, w1⟩ : ∃ X, scl a.n (max ta.q tb.q - ta.q) = X ∧ (-P18 ≤ X ∧ X ≤ P18) ∧ IntKind.i64.wrap (a.n * pw 10 (max ta.q tb.q - ta.q)) = X :=
    ⟨_, rfl, scl_rng ha.1 na (by omega) (fun k => by have := mk k; omega), sclp ha.1 na (by omega) (fun k => by have := mk k; omega)⟩
  obtain ⟨Y, hY, yr, w2⟩ : ∃ Y, scl b.n (max ta.q tb.q - tb.q) = Y ∧ (-P18 ≤ Y ∧ Y ≤ P18) ∧ IntKind.i64.wrap (b.n * pw 10 (max ta.q tb.q - tb.q)) = Y :=
    ⟨_, rfl, scl_rng hb.1 nb (by omega) (fun k => by have := mk (by omega); omega), sclp hb.1 nb (by omega) (fun k => by have := mk (by omega); omega)⟩
  unfold P18 at xr yr
  rw [w1, w2, w64 (n := X + Y) (by omega), w64 (n := X - Y) (by omega)]
  refine c_t (decide_eq_true (by unfold pwOK; omega)) (c_t (decide_eq_true (by unfold pwOK; omega)) ?_)
  obtain ⟨d6, e6, q6, f6⟩ := ex_all (op := 6) (by omega) ha hb hk
  rw [resQ_max ha.1 hb.1 hk (by omega)] at q6
  have w6 : opN 6 a.n ta b.n tb = X + Y := by rw [← hX, ← hY]; rfl
  rw [w6] at f6
  have r6 : decide (R63 (X + Y)) = true := decide_eq_true (by unfold R63; omega)
  refine c_t ?_ (c_f ?_ ?_)
  · rcases f6 with ⟨c, n⟩ | ⟨c, p, l⟩
    · rw [c]; simp [d6, e6, q6]
    · rw [c, p, r6]; simp [d6, e6, q6]
  · rcases f6 with ⟨c, n⟩ | ⟨c, p, l⟩
    · rw [c, n]; simp [d6, e6, q6]
    · rw [c, p, not_lt_of l]; simp [d6, e6, q6]
  obtain ⟨d7, e7, q7, f7⟩ := ex_all (op := 7) (by omega) ha hb hk
  rw [resQ_max ha.1 hb.1 hk (by omega)] at q7
  have w7 : opN 7 a.n ta b.n tb = X - Y := by rw [← hX, ← hY]; rfl
  rw [w7] at f7
  have r7 : decide (R63 (X - Y)) = true := decide_eq_true (by unfold R63; omega)
  refine c_t ?_ (c_f ?_ ?_)
  · rcases f7 with ⟨c, n⟩ | ⟨c, p, l⟩
    · rw [c]; simp [d7, e7, q7]
    · rw [c, p, r7]; simp [d7, e7, q7]
  · rcases f7 with ⟨c, n⟩ | ⟨c, p, l⟩
    · rw [c, n]; simp [d7, e7, q7]
    · rw [c, p, not_lt_of l]; simp [d7, e7, q7]
  obtain ⟨d12, e12, q12, f12⟩ := ex_all (op := 12) (by omega) ha hb hk
  rw [resQ_max ha.1 hb.1 hk (by omega)] at q12
  have w12 : opN 12 a.n ta b.n tb = min X Y := by rw [← hX, ← hY]; rfl
  rw [w12] at f12
  have r12 : decide (R63 (min X Y)) = true := decide_eq_true (by unfold R63; omega)
  refine c_t ?_ (c_f ?_ ?_)
  · rcases f12 with ⟨c, n⟩ | ⟨c, p, l⟩
    · rw [c]; simp [d12, e12, q12]
    · rw [c, p, r12]; simp [d12, e12, q12]
  · rcases f12 with ⟨c, n⟩ | ⟨c, p, l⟩
    · rw [c, n]; simp [d12, e12, q12]
    · rw [c, p, not_lt_of l]; simp [d12, e12, q12]
  obtain ⟨d13, e13, q13, f13⟩ := ex_all (op := 13) (by omega) ha hb hk
  rw [resQ_max ha.1 hb.1 hk (by omega)] at q13
  have w13 : opN 13 a.n ta b.n tb = max X Y := by rw [← hX, ← hY]; rfl
  rw [w13] at f13
  have r13 : decide (R63 (max X Y)) = true := decide_eq_true (by unfold R63; omega)
  refine c_t ?_ (c_f ?_ ?_)
  · rcases f13 with ⟨c, n⟩ | ⟨c, p, l⟩
    · rw [c]; simp [d13, e13, q13]
    · rw [c, p, r13]; simp [d13, e13, q13]
  · rcases f13 with ⟨c, n⟩ | ⟨c, p, l⟩
    · rw [c, n]; simp [d13, e13, q13]
    · rw [c, p, not_lt_of l]; simp [d13, e13, q13]
  obtain ⟨u1, u2, u3⟩ := un_all (op := 5) (by omega) ha hb hk
  obtain ⟨v1, v2, v3⟩ := un_all (op := 11) (by omega) ha hb hk
  obtain ⟨ne, _⟩ := gd_neg ha
  rw [if_pos rfl] at u3
  rw [if_neg (by decide)] at v3
  refine c_t (by simp) (c_f (by rw [u1, u2, u3, ne]; simp) (c_t ?_ (c_f (by rw [v1, v2, v3]; simp) ?_)))
  · rw [v1, v2, decide_eq_true (show R63 a.n by unfold R63; omega)]; rfl
  obtain ⟨d8, e8, q8, f8⟩ := ex_all (op := 8) (by omega) ha hb hk
  have rq := resQ_mul ha.1 hb.1 hk
  have mf := mul_fit ha.1 hb.1 hk na nb
  have w8 : opN 8 a.n ta b.n tb = (a.n * b.n).tdiv (pw 10 (ta.q + tb.q - resQ 8 ta tb)) := by
    rw [opN_8, scl_dn (by omega)]; congr 2; omega
  have tr := tdiv_rng (y := pw 10 (ta.q + tb.q - resQ 8 ta tb)) mf
  have hq8 : ta.q + tb.q ≤ most ta.k → resQ 8 ta tb = ta.q + tb.q := fun h => by
    have := most_q ha.1; have := most_q hb.1
    grind [resQ]
  rw [w8] at f8
  rw [w64 (n := ta.q + tb.q) (by omega), q8, w64 (n := ta.q + tb.q - resQ 8 ta tb) (by omega), w64 (n := a.n * b.n) (by omega)]
  have pp := pw_pos (b := 10) (by omega) (ta.q + tb.q - resQ 8 ta tb)
  have po : decide (pwOK 10 (ta.q + tb.q - resQ 8 ta tb)) = true := decide_eq_true (by unfold pwOK; omega)
  have pz : decide (pw 10 (ta.q + tb.q - resQ 8 ta tb) ≠ 0) = true := decide_eq_true (by omega)
  generalize (a.n * b.n).tdiv (pw 10 (ta.q + tb.q - resQ 8 ta tb)) = M at *
  rw [w64 (n := M) (by omega)]
  have rM : decide (R63 M) = true := decide_eq_true (by unfold R63; omega)
  refine c_t (by simp) (c_f ?_ (c_t po (c_t pz ?_)))
  · rw [d8, e8, decide_eq_false (show ¬ (resQ 8 ta tb < 0) by omega), decide_eq_false (show ¬ (resQ 8 ta tb > ta.q + tb.q) by omega)]; rfl
  rcases f8 with ⟨c, n⟩ | ⟨c, p, l⟩
  · refine c_t (by rw [c]; rfl) (c_t (by rw [n]; simp) ?_)
    rw [n]
    by_cases hm : ta.q + tb.q ≤ most ta.k
    · rw [hq8 hm]; simp [s9]
    · rw [decide_eq_true (show ta.q + tb.q > most ta.k by omega)]; simp [s9]
  · refine c_f (by rw [c]; rfl) (c_t (by rw [c, p, rM]; simp) ?_)
    rw [c, p, decide_eq_true (show max M (-M) ≥ pw (base ta.k) (most ta.k) from l)]
    simp [s9]

end Go.Fx
