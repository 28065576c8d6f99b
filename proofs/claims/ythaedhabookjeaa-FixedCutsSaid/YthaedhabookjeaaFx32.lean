/-
  The law of cuts.
-/
import Derived.Test.YthaedhabookjeaaFx31
import Derived.Test.YthaedhabookjeaaFx22
set_option linter.unusedVariables false
set_option linter.unusedSimpArgs false
namespace Go.Fx
open Go Go.Ab Go.Proofs

def s63 (v : Vl) (x : Int) (t : Ty) : Bool × Value := (decide (Valid t ∧ Q18 x), B (fits v t == 0 && ((x - v.n).tmod (bnd t) == 0 && (v.n == 0 || decide (v.n < 0) == decide (x < 0)))))
theorem fn63 : Fn1 Try.prog 63 Try.f63 := ⟨Try.func63, by kernel_rfl, by kernel_rfl, by kernel_rfl⟩
theorem v63 (v : Vl) (x : Int) (t : Ty) (R : Value → Prop) : bodyQ Try.prog G19 noL Try.f63 [Enc.enc v, Enc.enc x, Enc.enc t] (fun _ => none) 0 (fun v _ _ => R v) = (
    bif
        bif fits v t == 0 then
          decide (Ty.p t ≤ Ty.p t ∧ Valid t ∨ Ty.p t = most (Ty.k t)) &&
            (decide (pw (base (Ty.k t)) (Ty.p t) ≠ 0) && bif Int.tmod (IntKind.wrap IntKind.i64 (x - Vl.n v)) (pw (base (Ty.k t)) (Ty.p t)) == 0 then Vl.n v == 0 || true else true)
        else true then
      R (Value.bool (fits v t == 0 && (Int.tmod (IntKind.wrap IntKind.i64 (x - Vl.n v)) (pw (base (Ty.k t)) (Ty.p t)) == 0 && (Vl.n v == 0 || decide (Vl.n v < 0) == decide (x < 0)))))
    else False) := by kernel_rfl
theorem ok63 : PureOK Try.prog 63 (sp3 s63) := by
  refine qure3 ok_G19 hmix fn63 lokf_none (Nat.le_of_ble_eq_true (by kernel_rfl)) fun v x t hc => ?_
  rw [DoesQ, v63]
  have hc : (Valid t ∧ Q18 x) := of_decide_eq_true hc
  obtain ⟨hv, hx⟩ := hc
  refine c_t ?_ ?_
  · cases hf : (fits v t == 0)
    · rfl
    · have hg := gd_iff.1 (by simpa using hf)
      have b := bnd_range hv
      simp [bnd, hv]
      have : pw (base t.k) t.p = bnd t := rfl
      omega
  · by_cases hf : fits v t = 0
    · have hg := gd_iff.1 hf
      have r := gd_rng hg
      have b := bnd_range hv
      unfold Q18 at hx
      rw [w64 (n := x - v.n) (by omega)]
      rw [hf]
      simp [s63, bnd, hf]
    · have : (fits v t == 0) = false := by simpa using hf
      simp [s63, this]

theorem like_cut {W c : Int} {t : Ty} (hv : Valid t) (hc : c ≠ 0) : (fits ⟨cutN W t, e0⟩ t == 0 && ((W - cutN W t).tmod (bnd t) == 0 && (cutN W t == 0 || decide (cutN W t < 0) == decide (W < 0)))) = true ∧
    (cutC W t c == 0) = decide (max W (-W) < bnd t) := by
  have hb := bnd_range hv
  constructor
  · rw [gd_iff.2 (gd_mk hv (cutN_inb hv))]
    have e : W - cutN W t = bnd t * W.tdiv (bnd t) := by
      have := Int.mul_tdiv_add_tmod W (bnd t)
      rw [cutN_tmod]; omega
    rw [e, Int.mul_tmod_right]
    have h : (cutN W t == 0 || decide (cutN W t < 0) == decide (W < 0)) = true := by
      by_cases h0 : cutN W t = 0
      · simp [h0]
      · rw [cutN_tmod] at h0 ⊢
        rcases Int.lt_or_le W 0 with h | h
        · have := Int.tmod_nonneg (bnd t) (show 0 ≤ -W by omega)
          rw [Int.neg_tmod] at this
          rw [decide_eq_true (show W.tmod (bnd t) < 0 by omega), decide_eq_true h]; simp
        · have := Int.tmod_nonneg (bnd t) h
          rw [decide_eq_false (show ¬ W.tmod (bnd t) < 0 by omega), decide_eq_false (show ¬ W < 0 by omega)]; simp
    rw [h]; rfl
  · by_cases h : InB W t
    · rw [(cutC0 hc).2 h, decide_eq_true (show max W (-W) < bnd t by unfold InB at h; omega)]; rfl
    · rw [beq_eq_false_iff_ne.2 (fun q => h ((cutC0 hc).1 q)), decide_eq_false (fun q => h (by unfold InB; omega))]

def G22 : Env := (G19.add 63 (sp3 s63))
theorem ok_G22 : EnvOK Try.prog G22 := env_add (ok_G19) ok63

def s18 (a : Vl) (ta : Ty) (b : Vl) (tb : Ty) (to : Ty) : Bool × Value := (true, B true)
theorem fn18 : Fn1 Try.prog 18 Try.f18 := ⟨Try.func18, by kernel_rfl, by kernel_rfl, by kernel_rfl⟩
theorem v18 (a : Vl) (ta : Ty) (b : Vl) (tb : Ty) (to : Ty) (R : Value → Prop) : bodyQ Try.prog G22 noL Try.f18 [Enc.enc a, Enc.enc ta, Enc.enc b, Enc.enc tb, Enc.enc to] (fun _ => none) 0 (fun v _ _ => R v) = (
    bif !(fits a ta == 0 && fits b tb == 0 && Ty.k ta == Ty.k tb) || true then
      bif !(fits a ta == 0 && fits b tb == 0 && Ty.k ta == Ty.k tb) || check to != 0 then R (Value.bool true)
      else
        bif decide (pwOK 10 (IntKind.wrap IntKind.i64 (imax (Ty.q ta) (Ty.q tb) - Ty.q ta))) then
          bif decide (pwOK 10 (IntKind.wrap IntKind.i64 (imax (Ty.q ta) (Ty.q tb) - Ty.q tb))) then
            bif
                resE 6 ta tb != 0 ||
                  (doE 6 a ta b tb != 0 ||
                    decide
                        (Valid (resT 6 ta tb) ∧
                          Q18
                            (IntKind.wrap IntKind.i64
                              (IntKind.wrap IntKind.i64 (Vl.n a * pw 10 (IntKind.wrap IntKind.i64 (imax (Ty.q ta) (Ty.q tb) - Ty.q ta))) +
                                IntKind.wrap IntKind.i64 (Vl.n b * pw 10 (IntKind.wrap IntKind.i64 (imax (Ty.q ta) (Ty.q tb) - Ty.q tb)))))) &&
                      (!(fits (Vl.mk (doN 6 a ta b tb) e0) (resT 6 ta tb) == 0 &&
                            (Int.tmod
                                  (IntKind.wrap IntKind.i64
                                      (IntKind.wrap IntKind.i64 (Vl.n a * pw 10 (IntKind.wrap IntKind.i64 (imax (Ty.q ta) (Ty.q tb) - Ty.q ta))) +
                                        IntKind.wrap IntKind.i64 (Vl.n b * pw 10 (IntKind.wrap IntKind.i64 (imax (Ty.q ta) (Ty.q tb) - Ty.q tb)))) -
                                    doN 6 a ta b tb)
                                  (bnd (resT 6 ta tb)) ==
                                0 &&
                              (doN 6 a ta b tb == 0 ||
                                decide (doN 6 a ta b tb < 0) ==
                                  decide
                                    (IntKind.wrap IntKind.i64
                                        (IntKind.wrap IntKind.i64 (Vl.n a * pw 10 (IntKind.wrap IntKind.i64 (imax (Ty.q ta) (Ty.q tb) - Ty.q ta))) +
                                          IntKind.wrap IntKind.i64 (Vl.n b * pw 10 (IntKind.wrap IntKind.i64 (imax (Ty.q ta) (Ty.q tb) - Ty.q tb)))) <
                                      0)))) ||
                        decide
                            (R63
                              (IntKind.wrap IntKind.i64
                                (IntKind.wrap IntKind.i64 (Vl.n a * pw 10 (IntKind.wrap IntKind.i64 (imax (Ty.q ta) (Ty.q tb) - Ty.q ta))) +
                                  IntKind.wrap IntKind.i64 (Vl.n b * pw 10 (IntKind.wrap IntKind.i64 (imax (Ty.q ta) (Ty.q tb) - Ty.q tb)))))) &&
                          (decide (Ty.p (resT 6 ta tb) ≤ Ty.p (resT 6 ta tb) ∧ Valid (resT 6 ta tb) ∨ Ty.p (resT 6 ta tb) = most (Ty.k (resT 6 ta tb))) && true))) then
              bif
                  resE 6 ta tb != 0 ||
                    (doE 6 a ta b tb != 0 ||
                      (!(fits (Vl.mk (doN 6 a ta b tb) e0) (resT 6 ta tb) == 0 &&
                            (Int.tmod
                                  (IntKind.wrap IntKind.i64
                                      (IntKind.wrap IntKind.i64 (Vl.n a * pw 10 (IntKind.wrap IntKind.i64 (imax (Ty.q ta) (Ty.q tb) - Ty.q ta))) +
                                        IntKind.wrap IntKind.i64 (Vl.n b * pw 10 (IntKind.wrap IntKind.i64 (imax (Ty.q ta) (Ty.q tb) - Ty.q tb)))) -
                                    doN 6 a ta b tb)
                                  (bnd (resT 6 ta tb)) ==
                                0 &&
                              (doN 6 a ta b tb == 0 ||
                                decide (doN 6 a ta b tb < 0) ==
                                  decide
                                    (IntKind.wrap IntKind.i64
                                        (IntKind.wrap IntKind.i64 (Vl.n a * pw 10 (IntKind.wrap IntKind.i64 (imax (Ty.q ta) (Ty.q tb) - Ty.q ta))) +
                                          IntKind.wrap IntKind.i64 (Vl.n b * pw 10 (IntKind.wrap IntKind.i64 (imax (Ty.q ta) (Ty.q tb) - Ty.q tb)))) <
                                      0)))) ||
                        !(doC 6 a ta b tb == 0) ==
                            decide
                              (max
                                  (IntKind.wrap IntKind.i64
                                    (IntKind.wrap IntKind.i64 (Vl.n a * pw 10 (IntKind.wrap IntKind.i64 (imax (Ty.q ta) (Ty.q tb) - Ty.q ta))) +
                                      IntKind.wrap IntKind.i64 (Vl.n b * pw 10 (IntKind.wrap IntKind.i64 (imax (Ty.q ta) (Ty.q tb) - Ty.q tb)))))
                                  (-IntKind.wrap IntKind.i64
                                      (IntKind.wrap IntKind.i64 (Vl.n a * pw 10 (IntKind.wrap IntKind.i64 (imax (Ty.q ta) (Ty.q tb) - Ty.q ta))) +
                                        IntKind.wrap IntKind.i64 (Vl.n b * pw 10 (IntKind.wrap IntKind.i64 (imax (Ty.q ta) (Ty.q tb) - Ty.q tb))))) <
                                pw (base (Ty.k (resT 6 ta tb))) (Ty.p (resT 6 ta tb))))) then
                R (Value.bool false)
              else
                bif
                    resE 7 ta tb != 0 ||
                      (doE 7 a ta b tb != 0 ||
                        decide
                            (Valid (resT 7 ta tb) ∧
                              Q18
                                (IntKind.wrap IntKind.i64
                                  (IntKind.wrap IntKind.i64 (Vl.n a * pw 10 (IntKind.wrap IntKind.i64 (imax (Ty.q ta) (Ty.q tb) - Ty.q ta))) -
                                    IntKind.wrap IntKind.i64 (Vl.n b * pw 10 (IntKind.wrap IntKind.i64 (imax (Ty.q ta) (Ty.q tb) - Ty.q tb)))))) &&
                          (!(fits (Vl.mk (doN 7 a ta b tb) e0) (resT 7 ta tb) == 0 &&
                                (Int.tmod
                                      (IntKind.wrap IntKind.i64
                                          (IntKind.wrap IntKind.i64 (Vl.n a * pw 10 (IntKind.wrap IntKind.i64 (imax (Ty.q ta) (Ty.q tb) - Ty.q ta))) -
                                            IntKind.wrap IntKind.i64 (Vl.n b * pw 10 (IntKind.wrap IntKind.i64 (imax (Ty.q ta) (Ty.q tb) - Ty.q tb)))) -
                                        doN 7 a ta b tb)
                                      (bnd (resT 7 ta tb)) ==
                                    0 &&
                                  (doN 7 a ta b tb == 0 ||
                                    decide (doN 7 a ta b tb < 0) ==
                                      decide
                                        (IntKind.wrap IntKind.i64
                                            (IntKind.wrap IntKind.i64 (Vl.n a * pw 10 (IntKind.wrap IntKind.i64 (imax (Ty.q ta) (Ty.q tb) - Ty.q ta))) -
                                              IntKind.wrap IntKind.i64 (Vl.n b * pw 10 (IntKind.wrap IntKind.i64 (imax (Ty.q ta) (Ty.q tb) - Ty.q tb)))) <
                                          0)))) ||
                            decide
                                (R63
                                  (IntKind.wrap IntKind.i64
                                    (IntKind.wrap IntKind.i64 (Vl.n a * pw 10 (IntKind.wrap IntKind.i64 (imax (Ty.q ta) (Ty.q tb) - Ty.q ta))) -
                                      IntKind.wrap IntKind.i64 (Vl.n b * pw 10 (IntKind.wrap IntKind.i64 (imax (Ty.q ta) (Ty.q tb) - Ty.q tb)))))) &&
                              (decide (Ty.p (resT 7 ta tb) ≤ Ty.p (resT 7 ta tb) ∧ Valid (resT 7 ta tb) ∨ Ty.p (resT 7 ta tb) = most (Ty.k (resT 7 ta tb))) && true))) then
                  bif
                      resE 7 ta tb != 0 ||
                        (doE 7 a ta b tb != 0 ||
                          (!(fits (Vl.mk (doN 7 a ta b tb) e0) (resT 7 ta tb) == 0 &&
                                (Int.tmod
                                      (IntKind.wrap IntKind.i64
                                          (IntKind.wrap IntKind.i64 (Vl.n a * pw 10 (IntKind.wrap IntKind.i64 (imax (Ty.q ta) (Ty.q tb) - Ty.q ta))) -
                                            IntKind.wrap IntKind.i64 (Vl.n b * pw 10 (IntKind.wrap IntKind.i64 (imax (Ty.q ta) (Ty.q tb) - Ty.q tb)))) -
                                        doN 7 a ta b tb)
                                      (bnd (resT 7 ta tb)) ==
                                    0 &&
                                  (doN 7 a ta b tb == 0 ||
                                    decide (doN 7 a ta b tb < 0) ==
                                      decide
                                        (IntKind.wrap IntKind.i64
                                            (IntKind.wrap IntKind.i64 (Vl.n a * pw 10 (IntKind.wrap IntKind.i64 (imax (Ty.q ta) (Ty.q tb) - Ty.q ta))) -
                                              IntKind.wrap IntKind.i64 (Vl.n b * pw 10 (IntKind.wrap IntKind.i64 (imax (Ty.q ta) (Ty.q tb) - Ty.q tb)))) <
                                          0)))) ||
                            !(doC 7 a ta b tb == 0) ==
                                decide
                                  (max
                                      (IntKind.wrap IntKind.i64
                                        (IntKind.wrap IntKind.i64 (Vl.n a * pw 10 (IntKind.wrap IntKind.i64 (imax (Ty.q ta) (Ty.q tb) - Ty.q ta))) -
                                          IntKind.wrap IntKind.i64 (Vl.n b * pw 10 (IntKind.wrap IntKind.i64 (imax (Ty.q ta) (Ty.q tb) - Ty.q tb)))))
                                      (-IntKind.wrap IntKind.i64
                                          (IntKind.wrap IntKind.i64 (Vl.n a * pw 10 (IntKind.wrap IntKind.i64 (imax (Ty.q ta) (Ty.q tb) - Ty.q ta))) -
                                            IntKind.wrap IntKind.i64 (Vl.n b * pw 10 (IntKind.wrap IntKind.i64 (imax (Ty.q ta) (Ty.q tb) - Ty.q tb))))) <
                                    pw (base (Ty.k (resT 7 ta tb))) (Ty.p (resT 7 ta tb))))) then
                    R (Value.bool false)
                  else
                    bif
                        resE 12 ta tb != 0 ||
                          (doE 12 a ta b tb != 0 ||
                            decide
                                (Valid (resT 12 ta tb) ∧
                                  Q18
                                    (imin (IntKind.wrap IntKind.i64 (Vl.n a * pw 10 (IntKind.wrap IntKind.i64 (imax (Ty.q ta) (Ty.q tb) - Ty.q ta))))
                                      (IntKind.wrap IntKind.i64 (Vl.n b * pw 10 (IntKind.wrap IntKind.i64 (imax (Ty.q ta) (Ty.q tb) - Ty.q tb)))))) &&
                              (!(fits (Vl.mk (doN 12 a ta b tb) e0) (resT 12 ta tb) == 0 &&
                                    (Int.tmod
                                          (imin (IntKind.wrap IntKind.i64 (Vl.n a * pw 10 (IntKind.wrap IntKind.i64 (imax (Ty.q ta) (Ty.q tb) - Ty.q ta))))
                                              (IntKind.wrap IntKind.i64 (Vl.n b * pw 10 (IntKind.wrap IntKind.i64 (imax (Ty.q ta) (Ty.q tb) - Ty.q tb)))) -
                                            doN 12 a ta b tb)
                                          (bnd (resT 12 ta tb)) ==
                                        0 &&
                                      (doN 12 a ta b tb == 0 ||
                                        decide (doN 12 a ta b tb < 0) ==
                                          decide
                                            (imin (IntKind.wrap IntKind.i64 (Vl.n a * pw 10 (IntKind.wrap IntKind.i64 (imax (Ty.q ta) (Ty.q tb) - Ty.q ta))))
                                                (IntKind.wrap IntKind.i64 (Vl.n b * pw 10 (IntKind.wrap IntKind.i64 (imax (Ty.q ta) (Ty.q tb) - Ty.q tb)))) <
                                              0)))) ||
                                decide
                                    (R63
                                      (imin (IntKind.wrap IntKind.i64 (Vl.n a * pw 10 (IntKind.wrap IntKind.i64 (imax (Ty.q ta) (Ty.q tb) - Ty.q ta))))
                                        (IntKind.wrap IntKind.i64 (Vl.n b * pw 10 (IntKind.wrap IntKind.i64 (imax (Ty.q ta) (Ty.q tb) - Ty.q tb)))))) &&
                                  (decide (Ty.p (resT 12 ta tb) ≤ Ty.p (resT 12 ta tb) ∧ Valid (resT 12 ta tb) ∨ Ty.p (resT 12 ta tb) = most (Ty.k (resT 12 ta tb))) && true))) then
                      bif
                          resE 12 ta tb != 0 ||
                            (doE 12 a ta b tb != 0 ||
                              (!(fits (Vl.mk (doN 12 a ta b tb) e0) (resT 12 ta tb) == 0 &&
                                    (Int.tmod
                                          (imin (IntKind.wrap IntKind.i64 (Vl.n a * pw 10 (IntKind.wrap IntKind.i64 (imax (Ty.q ta) (Ty.q tb) - Ty.q ta))))
                                              (IntKind.wrap IntKind.i64 (Vl.n b * pw 10 (IntKind.wrap IntKind.i64 (imax (Ty.q ta) (Ty.q tb) - Ty.q tb)))) -
                                            doN 12 a ta b tb)
                                          (bnd (resT 12 ta tb)) ==
                                        0 &&
                                      (doN 12 a ta b tb == 0 ||
                                        decide (doN 12 a ta b tb < 0) ==
                                          decide
                                            (imin (IntKind.wrap IntKind.i64 (Vl.n a * pw 10 (IntKind.wrap IntKind.i64 (imax (Ty.q ta) (Ty.q tb) - Ty.q ta))))
                                                (IntKind.wrap IntKind.i64 (Vl.n b * pw 10 (IntKind.wrap IntKind.i64 (imax (Ty.q ta) (Ty.q tb) - Ty.q tb)))) <
                                              0)))) ||
                                !(doC 12 a ta b tb == 0) ==
                                    decide
                                      (max
                                          (imin (IntKind.wrap IntKind.i64 (Vl.n a * pw 10 (IntKind.wrap IntKind.i64 (imax (Ty.q ta) (Ty.q tb) - Ty.q ta))))
                                            (IntKind.wrap IntKind.i64 (Vl.n b * pw 10 (IntKind.wrap IntKind.i64 (imax (Ty.q ta) (Ty.q tb) - Ty.q tb)))))
                                          (-imin (IntKind.wrap IntKind.i64 (Vl.n a * pw 10 (IntKind.wrap IntKind.i64 (imax (Ty.q ta) (Ty.q tb) - Ty.q ta))))
                                              (IntKind.wrap IntKind.i64 (Vl.n b * pw 10 (IntKind.wrap IntKind.i64 (imax (Ty.q ta) (Ty.q tb) - Ty.q tb))))) <
                                        pw (base (Ty.k (resT 12 ta tb))) (Ty.p (resT 12 ta tb))))) then
                        R (Value.bool false)
                      else
                        bif
                            resE 13 ta tb != 0 ||
                              (doE 13 a ta b tb != 0 ||
                                decide
                                    (Valid (resT 13 ta tb) ∧
                                      Q18
                                        (imax (IntKind.wrap IntKind.i64 (Vl.n a * pw 10 (IntKind.wrap IntKind.i64 (imax (Ty.q ta) (Ty.q tb) - Ty.q ta))))
                                          (IntKind.wrap IntKind.i64 (Vl.n b * pw 10 (IntKind.wrap IntKind.i64 (imax (Ty.q ta) (Ty.q tb) - Ty.q tb)))))) &&
                                  (!(fits (Vl.mk (doN 13 a ta b tb) e0) (resT 13 ta tb) == 0 &&
                                        (Int.tmod
                                              (imax (IntKind.wrap IntKind.i64 (Vl.n a * pw 10 (IntKind.wrap IntKind.i64 (imax (Ty.q ta) (Ty.q tb) - Ty.q ta))))
                                                  (IntKind.wrap IntKind.i64 (Vl.n b * pw 10 (IntKind.wrap IntKind.i64 (imax (Ty.q ta) (Ty.q tb) - Ty.q tb)))) -
                                                doN 13 a ta b tb)
                                              (bnd (resT 13 ta tb)) ==
                                            0 &&
                                          (doN 13 a ta b tb == 0 ||
                                            decide (doN 13 a ta b tb < 0) ==
                                              decide
                                                (imax (IntKind.wrap IntKind.i64 (Vl.n a * pw 10 (IntKind.wrap IntKind.i64 (imax (Ty.q ta) (Ty.q tb) - Ty.q ta))))
                                                    (IntKind.wrap IntKind.i64 (Vl.n b * pw 10 (IntKind.wrap IntKind.i64 (imax (Ty.q ta) (Ty.q tb) - Ty.q tb)))) <
                                                  0)))) ||
                                    decide
                                        (R63
                                          (imax (IntKind.wrap IntKind.i64 (Vl.n a * pw 10 (IntKind.wrap IntKind.i64 (imax (Ty.q ta) (Ty.q tb) - Ty.q ta))))
                                            (IntKind.wrap IntKind.i64 (Vl.n b * pw 10 (IntKind.wrap IntKind.i64 (imax (Ty.q ta) (Ty.q tb) - Ty.q tb)))))) &&
                                      (decide (Ty.p (resT 13 ta tb) ≤ Ty.p (resT 13 ta tb) ∧ Valid (resT 13 ta tb) ∨ Ty.p (resT 13 ta tb) = most (Ty.k (resT 13 ta tb))) && true))) then
                          bif
                              resE 13 ta tb != 0 ||
                                (doE 13 a ta b tb != 0 ||
                                  (!(fits (Vl.mk (doN 13 a ta b tb) e0) (resT 13 ta tb) == 0 &&
                                        (Int.tmod
                                              (imax (IntKind.wrap IntKind.i64 (Vl.n a * pw 10 (IntKind.wrap IntKind.i64 (imax (Ty.q ta) (Ty.q tb) - Ty.q ta))))
                                                  (IntKind.wrap IntKind.i64 (Vl.n b * pw 10 (IntKind.wrap IntKind.i64 (imax (Ty.q ta) (Ty.q tb) - Ty.q tb)))) -
                                                doN 13 a ta b tb)
                                              (bnd (resT 13 ta tb)) ==
                                            0 &&
                                          (doN 13 a ta b tb == 0 ||
                                            decide (doN 13 a ta b tb < 0) ==
                                              decide
                                                (imax (IntKind.wrap IntKind.i64 (Vl.n a * pw 10 (IntKind.wrap IntKind.i64 (imax (Ty.q ta) (Ty.q tb) - Ty.q ta))))
                                                    (IntKind.wrap IntKind.i64 (Vl.n b * pw 10 (IntKind.wrap IntKind.i64 (imax (Ty.q ta) (Ty.q tb) - Ty.q tb)))) <
                                                  0)))) ||
                                    !(doC 13 a ta b tb == 0) ==
                                        decide
                                          (max
                                              (imax (IntKind.wrap IntKind.i64 (Vl.n a * pw 10 (IntKind.wrap IntKind.i64 (imax (Ty.q ta) (Ty.q tb) - Ty.q ta))))
                                                (IntKind.wrap IntKind.i64 (Vl.n b * pw 10 (IntKind.wrap IntKind.i64 (imax (Ty.q ta) (Ty.q tb) - Ty.q tb)))))
                                              (-imax (IntKind.wrap IntKind.i64 (Vl.n a * pw 10 (IntKind.wrap IntKind.i64 (imax (Ty.q ta) (Ty.q tb) - Ty.q ta))))
                                                  (IntKind.wrap IntKind.i64 (Vl.n b * pw 10 (IntKind.wrap IntKind.i64 (imax (Ty.q ta) (Ty.q tb) - Ty.q tb))))) <
                                            pw (base (Ty.k (resT 13 ta tb))) (Ty.p (resT 13 ta tb))))) then
                            R (Value.bool false)
                          else
                            bif asE a ta to != 0 then R (Value.bool false)
                            else
                              bif decide (Ty.q to ≥ Ty.q ta) then
                                bif decide (pwOK 10 (IntKind.wrap IntKind.i64 (Ty.q to - Ty.q ta))) then
                                  bif
                                      decide (Valid to ∧ Q18 (IntKind.wrap IntKind.i64 (Vl.n a * pw 10 (IntKind.wrap IntKind.i64 (Ty.q to - Ty.q ta))))) &&
                                        bif
                                            fits (Vl.mk (asN a ta to) e0) to == 0 &&
                                              (Int.tmod (IntKind.wrap IntKind.i64 (Vl.n a * pw 10 (IntKind.wrap IntKind.i64 (Ty.q to - Ty.q ta))) - asN a ta to) (bnd to) == 0 &&
                                                (asN a ta to == 0 ||
                                                  decide (asN a ta to < 0) ==
                                                    decide (IntKind.wrap IntKind.i64 (Vl.n a * pw 10 (IntKind.wrap IntKind.i64 (Ty.q to - Ty.q ta))) < 0))) then
                                          decide (R63 (IntKind.wrap IntKind.i64 (Vl.n a * pw 10 (IntKind.wrap IntKind.i64 (Ty.q to - Ty.q ta))))) &&
                                            (decide (Ty.p to ≤ Ty.p to ∧ Valid to ∨ Ty.p to = most (Ty.k to)) &&
                                              bif
                                                  (asC a ta to == 0) ==
                                                    decide
                                                      (max (IntKind.wrap IntKind.i64 (Vl.n a * pw 10 (IntKind.wrap IntKind.i64 (Ty.q to - Ty.q ta))))
                                                          (-IntKind.wrap IntKind.i64 (Vl.n a * pw 10 (IntKind.wrap IntKind.i64 (Ty.q to - Ty.q ta)))) <
                                                        pw (base (Ty.k to)) (Ty.p to)) then
                                                asC a ta to == 0 || true
                                              else true)
                                        else true then
                                    R
                                      (Value.bool
                                        (fits (Vl.mk (asN a ta to) e0) to == 0 &&
                                            (Int.tmod (IntKind.wrap IntKind.i64 (Vl.n a * pw 10 (IntKind.wrap IntKind.i64 (Ty.q to - Ty.q ta))) - asN a ta to) (bnd to) == 0 &&
                                              (asN a ta to == 0 ||
                                                decide (asN a ta to < 0) == decide (IntKind.wrap IntKind.i64 (Vl.n a * pw 10 (IntKind.wrap IntKind.i64 (Ty.q to - Ty.q ta))) < 0))) &&
                                          ((asC a ta to == 0) ==
                                              decide
                                                (max (IntKind.wrap IntKind.i64 (Vl.n a * pw 10 (IntKind.wrap IntKind.i64 (Ty.q to - Ty.q ta))))
                                                    (-IntKind.wrap IntKind.i64 (Vl.n a * pw 10 (IntKind.wrap IntKind.i64 (Ty.q to - Ty.q ta)))) <
                                                  pw (base (Ty.k to)) (Ty.p to)) &&
                                            (asC a ta to == 0 || asC a ta to == 1))))
                                  else False
                                else False
                              else
                                bif decide (pwOK 10 (IntKind.wrap IntKind.i64 (Ty.q ta - Ty.q to))) then
                                  bif decide (pw 10 (IntKind.wrap IntKind.i64 (Ty.q ta - Ty.q to)) ≠ 0) then
                                    bif
                                        decide (Valid to ∧ Q18 (IntKind.wrap IntKind.i64 (Int.tdiv (Vl.n a) (pw 10 (IntKind.wrap IntKind.i64 (Ty.q ta - Ty.q to)))))) &&
                                          bif
                                              fits (Vl.mk (asN a ta to) e0) to == 0 &&
                                                (Int.tmod (IntKind.wrap IntKind.i64 (Int.tdiv (Vl.n a) (pw 10 (IntKind.wrap IntKind.i64 (Ty.q ta - Ty.q to)))) - asN a ta to)
                                                      (bnd to) ==
                                                    0 &&
                                                  (asN a ta to == 0 ||
                                                    decide (asN a ta to < 0) ==
                                                      decide (IntKind.wrap IntKind.i64 (Int.tdiv (Vl.n a) (pw 10 (IntKind.wrap IntKind.i64 (Ty.q ta - Ty.q to)))) < 0))) then
                                            decide (R63 (IntKind.wrap IntKind.i64 (Int.tdiv (Vl.n a) (pw 10 (IntKind.wrap IntKind.i64 (Ty.q ta - Ty.q to)))))) &&
                                              (decide (Ty.p to ≤ Ty.p to ∧ Valid to ∨ Ty.p to = most (Ty.k to)) &&
                                                bif
                                                    (asC a ta to == 0) ==
                                                      decide
                                                        (max (IntKind.wrap IntKind.i64 (Int.tdiv (Vl.n a) (pw 10 (IntKind.wrap IntKind.i64 (Ty.q ta - Ty.q to)))))
                                                            (-IntKind.wrap IntKind.i64 (Int.tdiv (Vl.n a) (pw 10 (IntKind.wrap IntKind.i64 (Ty.q ta - Ty.q to))))) <
                                                          pw (base (Ty.k to)) (Ty.p to)) then
                                                  asC a ta to == 0 || true
                                                else true)
                                          else true then
                                      R
                                        (Value.bool
                                          (fits (Vl.mk (asN a ta to) e0) to == 0 &&
                                              (Int.tmod (IntKind.wrap IntKind.i64 (Int.tdiv (Vl.n a) (pw 10 (IntKind.wrap IntKind.i64 (Ty.q ta - Ty.q to)))) - asN a ta to) (bnd to) ==
                                                  0 &&
                                                (asN a ta to == 0 ||
                                                  decide (asN a ta to < 0) ==
                                                    decide (IntKind.wrap IntKind.i64 (Int.tdiv (Vl.n a) (pw 10 (IntKind.wrap IntKind.i64 (Ty.q ta - Ty.q to)))) < 0))) &&
                                            ((asC a ta to == 0) ==
                                                decide
                                                  (max (IntKind.wrap IntKind.i64 (Int.tdiv (Vl.n a) (pw 10 (IntKind.wrap IntKind.i64 (Ty.q ta - Ty.q to)))))
                                                      (-IntKind.wrap IntKind.i64 (Int.tdiv (Vl.n a) (pw 10 (IntKind.wrap IntKind.i64 (Ty.q ta - Ty.q to))))) <
                                                    pw (base (Ty.k to)) (Ty.p to)) &&
                                              (asC a ta to == 0 || asC a ta to == 1))))
                                    else False
                                  else False
                                else False
                        else False
                    else False
                else False
            else False
          else False
        else False
    else False) := by kernel_rfl
theorem ok18 : PureOK Try.prog 18 (sp5 s18) := by
  refine qure5 ok_G22 hmix fn18 lokf_none (Nat.le_of_ble_eq_true (by kernel_rfl)) fun a ta b tb to hc => ?_
  rw [DoesQ, v18]
  refine c_t (by simp) ?_
  refine cond_intro (fun _ => rfl) (fun h => ?_)
  simp only [Bool.or_eq_false_iff] at h
  obtain ⟨ha, hb, hk⟩ := both_of h.1
  have ho : Valid to := check0.1 (by simpa using h.2)
  have ra := valid_r ha.1
  have rb := valid_r hb.1
  have ro := valid_r ho
  have na := gd_rng ha
  have nb := gd_rng hb
  have ba := bnd_range ha.1
  have mk := maxq_k ha.1 hb.1 hk
  simp only [imax_max, imin_min]
  rw [w64 (n := max ta.q tb.q - ta.q) (by omega), w64 (n := max ta.q tb.q - tb.q) (by omega)]
  obtain ⟨X, hX, xr, w1⟩ : ∃ X, scl a.n (max ta.q tb.q - ta.q) = X ∧ (-P18 ≤ X ∧ X ≤ P18) ∧ IntKind.i64.wrap (a.n * pw 10 (max ta.q tb.q - ta.q)) = X :=
    ⟨_, rfl, Go.Fx.scl_rng ha.1 na (by omega) (fun k => by have := mk k; omega), sclp ha.1 na (by omega) (fun k => by have := mk k; omega)⟩
  obtain ⟨Y, hY, yr, w2⟩ : ∃ Y, scl b.n (max ta.q tb.q - tb.q) = Y ∧ (-P18 ≤ Y ∧ Y ≤ P18) ∧ IntKind.i64.wrap (b.n * pw 10 (max ta.q tb.q - tb.q)) = Y :=
    ⟨_, rfl, Go.Fx.scl_rng hb.1 nb (by omega) (fun k => by have := mk (by omega); omega), sclp hb.1 nb (by omega) (fun k => by have := mk (by omega); omega)⟩
  unfold P18 at xr yr
  rw [w1, w2, w64 (n := X + Y) (by omega), w64 (n := X - Y) (by omega)]
  refine c_t (decide_eq_true (by unfold pwOK; omega)) (c_t (decide_eq_true (by unfold pwOK; omega)) ?_)
  obtain ⟨d6, e6, t6, _, _, n6, c6⟩ := do_lin (op := 6) (by omega) ha hb hk
  have v6 := rty_ok (op := 6) ha.1 hb.1 hk (by omega)
  have w6 : opN 6 a.n ta b.n tb = X + Y := by rw [← hX, ← hY]; rfl
  rw [w6] at n6 c6
  obtain ⟨l6, k6⟩ := like_cut (W := X + Y) (c := 2) v6 (by decide)
  rw [← n6] at l6
  rw [← c6] at k6
  rw [d6, e6, t6, l6]
  refine c_t ?_ (c_f ?_ ?_)
  · rw [decide_eq_true (show Valid (rty 6 ta tb) ∧ Q18 (X + Y) from ⟨v6, by unfold Q18; omega⟩), decide_eq_true (show R63 (X + Y) by unfold R63; omega)]; simp [v6]
  · rw [k6, show pw (base (rty 6 ta tb).k) (rty 6 ta tb).p = bnd (rty 6 ta tb) from rfl]; simp
  obtain ⟨d7, e7, t7, _, _, n7, c7⟩ := do_lin (op := 7) (by omega) ha hb hk
  have v7 := rty_ok (op := 7) ha.1 hb.1 hk (by omega)
  have w7 : opN 7 a.n ta b.n tb = X - Y := by rw [← hX, ← hY]; rfl
  rw [w7] at n7 c7
  obtain ⟨l7, k7⟩ := like_cut (W := X - Y) (c := 2) v7 (by decide)
  rw [← n7] at l7
  rw [← c7] at k7
  rw [d7, e7, t7, l7]
  refine c_t ?_ (c_f ?_ ?_)
  · rw [decide_eq_true (show Valid (rty 7 ta tb) ∧ Q18 (X - Y) from ⟨v7, by unfold Q18; omega⟩), decide_eq_true (show R63 (X - Y) by unfold R63; omega)]; simp [v7]
  · rw [k7, show pw (base (rty 7 ta tb).k) (rty 7 ta tb).p = bnd (rty 7 ta tb) from rfl]; simp
  obtain ⟨d12, e12, t12, _, _, n12, c12⟩ := do_lin (op := 12) (by omega) ha hb hk
  have v12 := rty_ok (op := 12) ha.1 hb.1 hk (by omega)
  have w12 : opN 12 a.n ta b.n tb = min X Y := by rw [← hX, ← hY]; rfl
  rw [w12] at n12 c12
  obtain ⟨l12, k12⟩ := like_cut (W := min X Y) (c := 2) v12 (by decide)
  rw [← n12] at l12
  rw [← c12] at k12
  rw [d12, e12, t12, l12]
  refine c_t ?_ (c_f ?_ ?_)
  · rw [decide_eq_true (show Valid (rty 12 ta tb) ∧ Q18 (min X Y) from ⟨v12, by unfold Q18; omega⟩), decide_eq_true (show R63 (min X Y) by unfold R63; omega)]; simp [v12]
  · rw [k12, show pw (base (rty 12 ta tb).k) (rty 12 ta tb).p = bnd (rty 12 ta tb) from rfl]; simp
  obtain ⟨d13, e13, t13, _, _, n13, c13⟩ := do_lin (op := 13) (by omega) ha hb hk
  have v13 := rty_ok (op := 13) ha.1 hb.1 hk (by omega)
  have w13 : opN 13 a.n ta b.n tb = max X Y := by rw [← hX, ← hY]; rfl
  rw [w13] at n13 c13
  obtain ⟨l13, k13⟩ := like_cut (W := max X Y) (c := 2) v13 (by decide)
  rw [← n13] at l13
  rw [← c13] at k13
  rw [d13, e13, t13, l13]
  refine c_t ?_ (c_f ?_ ?_)
  · rw [decide_eq_true (show Valid (rty 13 ta tb) ∧ Q18 (max X Y) from ⟨v13, by unfold Q18; omega⟩), decide_eq_true (show R63 (max X Y) by unfold R63; omega)]; simp [v13]
  · rw [k13, show pw (base (rty 13 ta tb).k) (rty 13 ta tb).p = bnd (rty 13 ta tb) from rfl]; simp
  obtain ⟨ae, an, ac⟩ := as_ok ha ho
  refine c_f (by rw [ae]; rfl) ?_
  have sa := scl_any ha.1 na (d := to.q - ta.q) (by omega)
  refine cond_intro (fun hq => ?_) (fun hq => ?_)
  · have hq := of_decide_eq_true hq
    have hs : scl a.n (to.q - ta.q) = a.n * pw 10 (to.q - ta.q) := scl_up (by omega)
    rw [hs] at sa
    rw [w64 (n := to.q - ta.q) (by omega)]
    refine c_t (decide_eq_true (by unfold pwOK; omega)) ?_
    rw [w64 (n := a.n * pw 10 (to.q - ta.q)) (by omega)]
    obtain ⟨l, k⟩ := like_cut (W := a.n * pw 10 (to.q - ta.q)) (c := 1) ho (by decide)
    rw [← hs] at l k
    rw [← an] at l
    rw [← ac] at k
    rw [hs] at l k
    rw [l, k, decide_eq_true (show Valid to ∧ Q18 (a.n * pw 10 (to.q - ta.q)) from ⟨ho, by unfold Q18; omega⟩), decide_eq_true (show R63 (a.n * pw 10 (to.q - ta.q)) by unfold R63; omega), show pw (base to.k) to.p = bnd to from rfl]
    refine c_t ?_ ?_
    · simp [ho]
    · rw [← k]
      rcases as_C ha ho with q | q <;> simp [q, s18]
  · have hq := of_decide_eq_false hq
    have hs : scl a.n (to.q - ta.q) = a.n.tdiv (pw 10 (ta.q - to.q)) := by rw [scl_dn (by omega)]; congr 2; omega
    rw [hs] at sa
    have pp := pw_pos (b := 10) (by omega) (ta.q - to.q)
    rw [w64 (n := ta.q - to.q) (by omega)]
    refine c_t (decide_eq_true (by unfold pwOK; omega)) (c_t (decide_eq_true (by omega)) ?_)
    rw [w64 (n := a.n.tdiv (pw 10 (ta.q - to.q))) (by omega)]
    obtain ⟨l, k⟩ := like_cut (W := a.n.tdiv (pw 10 (ta.q - to.q))) (c := 1) ho (by decide)
    rw [← hs] at l k
    rw [← an] at l
    rw [← ac] at k
    rw [hs] at l k
    rw [l, k, decide_eq_true (show Valid to ∧ Q18 (a.n.tdiv (pw 10 (ta.q - to.q))) from ⟨ho, by unfold Q18; omega⟩), decide_eq_true (show R63 (a.n.tdiv (pw 10 (ta.q - to.q))) by unfold R63; omega), show pw (base to.k) to.p = bnd to from rfl]
    refine c_t ?_ ?_
    · simp [ho]
    · rw [← k]
      rcases as_C ha ho with q | q <;> simp [q, s18]

end Go.Fx
