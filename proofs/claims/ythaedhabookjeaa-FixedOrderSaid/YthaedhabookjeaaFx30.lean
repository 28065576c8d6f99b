/-
  The law of the order.
-/
import Derived.Test.YthaedhabookjeaaFx20
import Derived.Test.YthaedhabookjeaaAb15
set_option linter.unusedVariables false
set_option linter.unusedSimpArgs false
namespace Go.Fx
open Go Go.Ab Go.Proofs

theorem cmpI_cases (x y : Int) : (x < y ∧ cmpI x y = -1) ∨ (x = y ∧ cmpI x y = 0) ∨ (y < x ∧ cmpI x y = 1) := by
  unfold cmpI; split <;> (try split) <;> omega
theorem ord_sub {a b : Vl} {ta tb : Ty} (ha : Gd a ta) (hb : Gd b tb) (hk : ta.k = tb.k) (c : doC 7 a ta b tb = 0) :
    cmE ⟨doN 7 a ta b tb, e0⟩ (resT 7 ta tb) ⟨0, e0⟩ (resT 7 ta tb) = 0 ∧ cmN ⟨doN 7 a ta b tb, e0⟩ (resT 7 ta tb) ⟨0, e0⟩ (resT 7 ta tb) = cmpI (Un a.n ta.q) (Un b.n tb.q) := by
  obtain ⟨n, t, e1, e2, g, k, q, u⟩ := sub_pack ha hb hk c
  have b0 := bnd_pos g.1
  obtain ⟨x, y⟩ := cm_ok g (gd_mk (n := 0) g.1 ⟨by omega, by omega⟩) rfl
  rw [e1, e2]
  refine ⟨x, ?_⟩
  simp only [Un_0] at y
  rw [y, u]
  have h1 := cmpI_cases (Un a.n ta.q - Un b.n tb.q) 0
  have h2 := cmpI_cases (Un a.n ta.q) (Un b.n tb.q)
  omega
theorem ord_min {a b : Vl} {ta tb : Ty} (ha : Gd a ta) (hb : Gd b tb) (hk : ta.k = tb.k) (c : doC 12 a ta b tb = 0) :
    (cmpI (Un a.n ta.q) (Un b.n tb.q) ≤ 0 → (cmE ⟨doN 12 a ta b tb, e0⟩ (resT 12 ta tb) a ta == 0 && cmN ⟨doN 12 a ta b tb, e0⟩ (resT 12 ta tb) a ta == 0) = true) ∧
    (0 < cmpI (Un a.n ta.q) (Un b.n tb.q) → (cmE ⟨doN 12 a ta b tb, e0⟩ (resT 12 ta tb) b tb == 0 && cmN ⟨doN 12 a ta b tb, e0⟩ (resT 12 ta tb) b tb == 0) = true) := by
  obtain ⟨_, _, h3, h4, h5, _, _⟩ := do_lin (op := 12) (by omega) ha hb hk
  have u := do_min ha hb hk c
  rw [← h4] at u
  rw [h3]
  obtain ⟨x1, y1⟩ := cm_ok h5 ha rfl
  obtain ⟨x2, y2⟩ := cm_ok h5 hb hk
  simp only at y1 y2
  have c1 := cmpI_cases (Un a.n ta.q) (Un b.n tb.q)
  exact ⟨fun h => two_0 ⟨x1, by rw [y1, cmpI0]; omega⟩, fun h => two_0 ⟨x2, by rw [y2, cmpI0]; omega⟩⟩
theorem ord_max {a b : Vl} {ta tb : Ty} (ha : Gd a ta) (hb : Gd b tb) (hk : ta.k = tb.k) (c : doC 13 a ta b tb = 0) :
    (0 ≤ cmpI (Un a.n ta.q) (Un b.n tb.q) → (cmE ⟨doN 13 a ta b tb, e0⟩ (resT 13 ta tb) a ta == 0 && cmN ⟨doN 13 a ta b tb, e0⟩ (resT 13 ta tb) a ta == 0) = true) ∧
    (cmpI (Un a.n ta.q) (Un b.n tb.q) < 0 → (cmE ⟨doN 13 a ta b tb, e0⟩ (resT 13 ta tb) b tb == 0 && cmN ⟨doN 13 a ta b tb, e0⟩ (resT 13 ta tb) b tb == 0) = true) := by
  obtain ⟨_, _, h3, h4, h5, _, _⟩ := do_lin (op := 13) (by omega) ha hb hk
  have u := do_max ha hb hk c
  rw [← h4] at u
  rw [h3]
  obtain ⟨x1, y1⟩ := cm_ok h5 ha rfl
  obtain ⟨x2, y2⟩ := cm_ok h5 hb hk
  simp only at y1 y2
  have c1 := cmpI_cases (Un a.n ta.q) (Un b.n tb.q)
  exact ⟨fun h => two_0 ⟨x1, by rw [y1, cmpI0]; omega⟩, fun h => two_0 ⟨x2, by rw [y2, cmpI0]; omega⟩⟩
theorem ord_add {a b c : Vl} {ta tb tc : Ty} (ha : Gd a ta) (hb : Gd b tb) (hc : Gd c tc) (hk : ta.k = tb.k) (hk' : tb.k = tc.k) (c1 : doC 6 a ta c tc = 0) (c2 : doC 6 b tb c tc = 0) :
    cmE ⟨doN 6 a ta c tc, e0⟩ (resT 6 ta tc) ⟨doN 6 b tb c tc, e0⟩ (resT 6 tb tc) = 0 ∧
    cmN ⟨doN 6 a ta c tc, e0⟩ (resT 6 ta tc) ⟨doN 6 b tb c tc, e0⟩ (resT 6 tb tc) = cmpI (Un a.n ta.q) (Un b.n tb.q) := by
  obtain ⟨n, t, e1, e2, g, k, q, u⟩ := add_pack ha hc (by omega) c1
  obtain ⟨n', t', e1', e2', g', k', q', u'⟩ := add_pack hb hc hk' c2
  rw [e1, e2, e1', e2']
  obtain ⟨x, y⟩ := cm_ok g g' (by omega)
  refine ⟨x, ?_⟩
  simp only at y
  rw [y, u, u']
  have h1 := cmpI_cases (Un a.n ta.q + Un c.n tc.q) (Un b.n tb.q + Un c.n tc.q)
  have h2 := cmpI_cases (Un a.n ta.q) (Un b.n tb.q)
  omega


def s14 (a : Vl) (ta : Ty) (b : Vl) (tb : Ty) (c : Vl) (tc : Ty) : Bool × Value := (true, B true)
theorem fn14 : Fn1 Try.prog 14 Try.f14 := ⟨Try.func14, by kernel_rfl, by kernel_rfl, by kernel_rfl⟩
theorem v14 (a : Vl) (ta : Ty) (b : Vl) (tb : Ty) (c : Vl) (tc : Ty) (R : Value → Prop) : bodyQ Try.prog G19 noL Try.f14 [Enc.enc a, Enc.enc ta, Enc.enc b, Enc.enc tb, Enc.enc c, Enc.enc tc] (fun _ => none) 0 (fun v _ _ => R v) = (
    bif !(fits a ta == 0 && fits b tb == 0 && Ty.k ta == Ty.k tb) || true then
      bif !(fits a ta == 0 && fits b tb == 0 && Ty.k ta == Ty.k tb) || !(fits b tb == 0 && fits c tc == 0 && Ty.k tb == Ty.k tc) then R (Value.bool true)
      else
        bif
            cmE a ta b tb != 0 ||
              (cmE b tb a ta != 0 ||
                (cmE b tb c tc != 0 || (cmE a ta c tc != 0 || (cmN a ta b tb != IntKind.wrap IntKind.i64 (0 - cmN b tb a ta) || (decide (cmN a ta b tb < -1) || true))))) then
          bif
              cmE a ta b tb != 0 ||
                (cmE b tb a ta != 0 ||
                  (cmE b tb c tc != 0 ||
                    (cmE a ta c tc != 0 || (cmN a ta b tb != IntKind.wrap IntKind.i64 (0 - cmN b tb a ta) || (decide (cmN a ta b tb < -1) || decide (cmN a ta b tb > 1)))))) then
            R (Value.bool false)
          else
            bif
                bif decide (cmN a ta b tb ≤ 0) then
                  bif decide (cmN b tb c tc ≤ 0) then
                    decide (cmN a ta c tc > 0) ||
                      bif decide (IntKind.wrap IntKind.i64 (cmN a ta b tb + cmN b tb c tc) < 0) then
                        cmN a ta c tc != -1 || (IntKind.wrap IntKind.i64 (cmN a ta b tb + cmN b tb c tc) == 0 || true)
                      else IntKind.wrap IntKind.i64 (cmN a ta b tb + cmN b tb c tc) == 0 || true
                  else true
                else true then
              bif
                  decide (cmN a ta b tb ≤ 0) &&
                    (decide (cmN b tb c tc ≤ 0) &&
                      (decide (cmN a ta c tc > 0) ||
                        bif decide (IntKind.wrap IntKind.i64 (cmN a ta b tb + cmN b tb c tc) < 0) then
                          cmN a ta c tc != -1 || IntKind.wrap IntKind.i64 (cmN a ta b tb + cmN b tb c tc) == 0 && cmN a ta c tc != 0
                        else IntKind.wrap IntKind.i64 (cmN a ta b tb + cmN b tb c tc) == 0 && cmN a ta c tc != 0)) then
                R (Value.bool false)
              else
                bif
                    Ty.k ta == Ty.k tb && (Ty.p ta == Ty.p tb && (Ty.q ta == Ty.q tb && (Ty.v ta == Ty.v tb && (ByteArray.toList (Ty.s ta) == ByteArray.toList (Ty.s tb) && true)))) ||
                      true then
                  bif
                      Ty.k ta == Ty.k tb &&
                          (Ty.p ta == Ty.p tb && (Ty.q ta == Ty.q tb && (Ty.v ta == Ty.v tb && (ByteArray.toList (Ty.s ta) == ByteArray.toList (Ty.s tb) && true)))) &&
                        !(cmN a ta b tb == 0) == (Vl.n a == Vl.n b && (ByteArray.toList (Vl.s a) == ByteArray.toList (Vl.s b) && true)) then
                    R (Value.bool false)
                  else
                    bif resE 7 ta tb == 0 && doE 7 a ta b tb == 0 && doC 7 a ta b tb == 0 then
                      bif cmE (Vl.mk (doN 7 a ta b tb) e0) (resT 7 ta tb) (Vl.mk 0 e0) (resT 7 ta tb) != 0 || true then
                        bif
                            cmE (Vl.mk (doN 7 a ta b tb) e0) (resT 7 ta tb) (Vl.mk 0 e0) (resT 7 ta tb) != 0 ||
                              cmN (Vl.mk (doN 7 a ta b tb) e0) (resT 7 ta tb) (Vl.mk 0 e0) (resT 7 ta tb) != cmN a ta b tb then
                          R (Value.bool false)
                        else
                          bif
                              bif resE 12 ta tb == 0 && doE 12 a ta b tb == 0 && doC 12 a ta b tb == 0 then
                                bif decide (cmN a ta b tb ≤ 0) then
                                  cmE (Vl.mk (doN 12 a ta b tb) e0) (resT 12 ta tb) a ta == 0 && cmN (Vl.mk (doN 12 a ta b tb) e0) (resT 12 ta tb) a ta == 0 ||
                                    (decide (cmN a ta b tb > 0) || true)
                                else decide (cmN a ta b tb > 0) || true
                              else true then
                            bif
                                resE 12 ta tb == 0 && doE 12 a ta b tb == 0 && doC 12 a ta b tb == 0 &&
                                  bif decide (cmN a ta b tb ≤ 0) then
                                    bif cmE (Vl.mk (doN 12 a ta b tb) e0) (resT 12 ta tb) a ta == 0 && cmN (Vl.mk (doN 12 a ta b tb) e0) (resT 12 ta tb) a ta == 0 then !true
                                    else
                                      bif decide (cmN a ta b tb > 0) then
                                        !(cmE (Vl.mk (doN 12 a ta b tb) e0) (resT 12 ta tb) b tb == 0 && cmN (Vl.mk (doN 12 a ta b tb) e0) (resT 12 ta tb) b tb == 0)
                                      else !false
                                  else
                                    bif decide (cmN a ta b tb > 0) then
                                      !(cmE (Vl.mk (doN 12 a ta b tb) e0) (resT 12 ta tb) b tb == 0 && cmN (Vl.mk (doN 12 a ta b tb) e0) (resT 12 ta tb) b tb == 0)
                                    else !false then
                              R (Value.bool false)
                            else
                              bif
                                  bif resE 13 ta tb == 0 && doE 13 a ta b tb == 0 && doC 13 a ta b tb == 0 then
                                    bif decide (cmN a ta b tb ≥ 0) then
                                      cmE (Vl.mk (doN 13 a ta b tb) e0) (resT 13 ta tb) a ta == 0 && cmN (Vl.mk (doN 13 a ta b tb) e0) (resT 13 ta tb) a ta == 0 ||
                                        (decide (cmN a ta b tb < 0) || true)
                                    else decide (cmN a ta b tb < 0) || true
                                  else true then
                                bif
                                    resE 13 ta tb == 0 && doE 13 a ta b tb == 0 && doC 13 a ta b tb == 0 &&
                                      bif decide (cmN a ta b tb ≥ 0) then
                                        bif cmE (Vl.mk (doN 13 a ta b tb) e0) (resT 13 ta tb) a ta == 0 && cmN (Vl.mk (doN 13 a ta b tb) e0) (resT 13 ta tb) a ta == 0 then !true
                                        else
                                          bif decide (cmN a ta b tb < 0) then
                                            !(cmE (Vl.mk (doN 13 a ta b tb) e0) (resT 13 ta tb) b tb == 0 && cmN (Vl.mk (doN 13 a ta b tb) e0) (resT 13 ta tb) b tb == 0)
                                          else !false
                                      else
                                        bif decide (cmN a ta b tb < 0) then
                                          !(cmE (Vl.mk (doN 13 a ta b tb) e0) (resT 13 ta tb) b tb == 0 && cmN (Vl.mk (doN 13 a ta b tb) e0) (resT 13 ta tb) b tb == 0)
                                        else !false then
                                  R (Value.bool false)
                                else
                                  bif !(resE 6 ta tc == 0 && doE 6 a ta c tc == 0 && doC 6 a ta c tc == 0) || true then
                                    bif
                                        !(resE 6 ta tc == 0 && doE 6 a ta c tc == 0 && doC 6 a ta c tc == 0) ||
                                          !(resE 6 tb tc == 0 && doE 6 b tb c tc == 0 && doC 6 b tb c tc == 0) then
                                      R (Value.bool true)
                                    else
                                      bif cmE (Vl.mk (doN 6 a ta c tc) e0) (resT 6 ta tc) (Vl.mk (doN 6 b tb c tc) e0) (resT 6 tb tc) == 0 || true then
                                        R
                                          (Value.bool
                                            (cmE (Vl.mk (doN 6 a ta c tc) e0) (resT 6 ta tc) (Vl.mk (doN 6 b tb c tc) e0) (resT 6 tb tc) == 0 &&
                                              cmN (Vl.mk (doN 6 a ta c tc) e0) (resT 6 ta tc) (Vl.mk (doN 6 b tb c tc) e0) (resT 6 tb tc) == cmN a ta b tb))
                                      else False
                                  else False
                              else False
                          else False
                      else False
                    else
                      bif
                          bif resE 12 ta tb == 0 && doE 12 a ta b tb == 0 && doC 12 a ta b tb == 0 then
                            bif decide (cmN a ta b tb ≤ 0) then
                              cmE (Vl.mk (doN 12 a ta b tb) e0) (resT 12 ta tb) a ta == 0 && cmN (Vl.mk (doN 12 a ta b tb) e0) (resT 12 ta tb) a ta == 0 ||
                                (decide (cmN a ta b tb > 0) || true)
                            else decide (cmN a ta b tb > 0) || true
                          else true then
                        bif
                            resE 12 ta tb == 0 && doE 12 a ta b tb == 0 && doC 12 a ta b tb == 0 &&
                              bif decide (cmN a ta b tb ≤ 0) then
                                bif cmE (Vl.mk (doN 12 a ta b tb) e0) (resT 12 ta tb) a ta == 0 && cmN (Vl.mk (doN 12 a ta b tb) e0) (resT 12 ta tb) a ta == 0 then !true
                                else
                                  bif decide (cmN a ta b tb > 0) then
                                    !(cmE (Vl.mk (doN 12 a ta b tb) e0) (resT 12 ta tb) b tb == 0 && cmN (Vl.mk (doN 12 a ta b tb) e0) (resT 12 ta tb) b tb == 0)
                                  else !false
                              else
                                bif decide (cmN a ta b tb > 0) then
                                  !(cmE (Vl.mk (doN 12 a ta b tb) e0) (resT 12 ta tb) b tb == 0 && cmN (Vl.mk (doN 12 a ta b tb) e0) (resT 12 ta tb) b tb == 0)
                                else !false then
                          R (Value.bool false)
                        else
                          bif
                              bif resE 13 ta tb == 0 && doE 13 a ta b tb == 0 && doC 13 a ta b tb == 0 then
                                bif decide (cmN a ta b tb ≥ 0) then
                                  cmE (Vl.mk (doN 13 a ta b tb) e0) (resT 13 ta tb) a ta == 0 && cmN (Vl.mk (doN 13 a ta b tb) e0) (resT 13 ta tb) a ta == 0 ||
                                    (decide (cmN a ta b tb < 0) || true)
                                else decide (cmN a ta b tb < 0) || true
                              else true then
                            bif
                                resE 13 ta tb == 0 && doE 13 a ta b tb == 0 && doC 13 a ta b tb == 0 &&
                                  bif decide (cmN a ta b tb ≥ 0) then
                                    bif cmE (Vl.mk (doN 13 a ta b tb) e0) (resT 13 ta tb) a ta == 0 && cmN (Vl.mk (doN 13 a ta b tb) e0) (resT 13 ta tb) a ta == 0 then !true
                                    else
                                      bif decide (cmN a ta b tb < 0) then
                                        !(cmE (Vl.mk (doN 13 a ta b tb) e0) (resT 13 ta tb) b tb == 0 && cmN (Vl.mk (doN 13 a ta b tb) e0) (resT 13 ta tb) b tb == 0)
                                      else !false
                                  else
                                    bif decide (cmN a ta b tb < 0) then
                                      !(cmE (Vl.mk (doN 13 a ta b tb) e0) (resT 13 ta tb) b tb == 0 && cmN (Vl.mk (doN 13 a ta b tb) e0) (resT 13 ta tb) b tb == 0)
                                    else !false then
                              R (Value.bool false)
                            else
                              bif !(resE 6 ta tc == 0 && doE 6 a ta c tc == 0 && doC 6 a ta c tc == 0) || true then
                                bif !(resE 6 ta tc == 0 && doE 6 a ta c tc == 0 && doC 6 a ta c tc == 0) || !(resE 6 tb tc == 0 && doE 6 b tb c tc == 0 && doC 6 b tb c tc == 0) then
                                  R (Value.bool true)
                                else
                                  bif cmE (Vl.mk (doN 6 a ta c tc) e0) (resT 6 ta tc) (Vl.mk (doN 6 b tb c tc) e0) (resT 6 tb tc) == 0 || true then
                                    R
                                      (Value.bool
                                        (cmE (Vl.mk (doN 6 a ta c tc) e0) (resT 6 ta tc) (Vl.mk (doN 6 b tb c tc) e0) (resT 6 tb tc) == 0 &&
                                          cmN (Vl.mk (doN 6 a ta c tc) e0) (resT 6 ta tc) (Vl.mk (doN 6 b tb c tc) e0) (resT 6 tb tc) == cmN a ta b tb))
                                  else False
                              else False
                          else False
                      else False
                else False
            else False
        else False
    else False) := by kernel_rfl
theorem ok14 : PureOK Try.prog 14 (sp6 s14) := by
  refine qure6 ok_G19 hmix fn14 lokf_none (Nat.le_of_ble_eq_true (by kernel_rfl)) fun a ta b tb c tc hc => ?_
  rw [DoesQ, v14]
  refine c_t (by simp) ?_
  refine cond_intro (fun _ => rfl) (fun h => ?_)
  simp only [Bool.or_eq_false_iff] at h
  obtain ⟨ha, hb, hk⟩ := both_of h.1
  obtain ⟨_, hc, hk'⟩ := both_of h.2
  obtain ⟨e1, n1⟩ := cm_ok ha hb hk
  obtain ⟨e2, n2⟩ := cm_ok hb ha hk.symm
  obtain ⟨e3, n3⟩ := cm_ok hb hc hk'
  obtain ⟨e4, n4⟩ := cm_ok ha hc (hk.trans hk')
  have x1 := cmpI_cases (Un a.n ta.q) (Un b.n tb.q)
  have x2 := cmpI_cases (Un b.n tb.q) (Un a.n ta.q)
  have x3 := cmpI_cases (Un b.n tb.q) (Un c.n tc.q)
  have x4 := cmpI_cases (Un a.n ta.q) (Un c.n tc.q)
  rw [← n1] at x1
  rw [← n2] at x2
  rw [← n3] at x3
  rw [← n4] at x4
  have w1 : IntKind.i64.wrap (0 - cmN b tb a ta) = cmN a ta b tb := by rw [w64 (by omega)]; omega
  have w2 : IntKind.i64.wrap (cmN a ta b tb + cmN b tb c tc) = cmN a ta b tb + cmN b tb c tc := w64 (by omega)
  refine c_t (by simp) (c_f ?_ (c_t ?_ (c_f ?_ (c_t (by simp) (c_f ?_ ?_)))))
  · rw [e1, e2, e3, e4, w1, decide_eq_false (show ¬ (cmN a ta b tb < -1) by omega), decide_eq_false (show ¬ (cmN a ta b tb > 1) by omega)]
    simp
  · rw [w2]
    cases decide (cmN a ta b tb ≤ 0) <;> cases decide (cmN b tb c tc ≤ 0) <;> cases decide (cmN a ta b tb + cmN b tb c tc < 0) <;> simp
  · rw [w2]
    by_cases i1 : cmN a ta b tb ≤ 0
    · by_cases i2 : cmN b tb c tc ≤ 0
      · rw [decide_eq_true i1, decide_eq_true i2, decide_eq_false (show ¬ (cmN a ta c tc > 0) by omega)]
        by_cases i3 : cmN a ta b tb + cmN b tb c tc < 0
        · rw [decide_eq_true i3, show cmN a ta c tc = -1 by omega, beq_eq_false_iff_ne.2 (show cmN a ta b tb + cmN b tb c tc ≠ 0 by omega)]; rfl
        · rw [decide_eq_false i3, show cmN a ta c tc = 0 by omega]; simp
      · rw [decide_eq_true i1, decide_eq_false i2]; rfl
    · rw [decide_eq_false i1]; rfl
  · by_cases hq : ta.q = tb.q
    · have hs : (a.s.toList == b.s.toList) = true := by rw [gd_s ha, gd_s hb]; rfl
      have hn : (cmN a ta b tb == 0) = (a.n == b.n) := by
        rw [hq] at x1
        have := Un_inj (n := a.n) (m := b.n) (q := tb.q)
        by_cases e : a.n = b.n
        · have : cmN a ta b tb = 0 := by omega
          rw [this, e]; simp
        · have : cmN a ta b tb ≠ 0 := by omega
          rw [beq_eq_false_iff_ne.2 this, beq_eq_false_iff_ne.2 e]
      rw [hs, hn]
      simp
    · simp [hq]
  refine cond_intro (fun q7 => ?_) (fun q7 => ?_)
  · obtain ⟨y1, y2⟩ := ord_sub ha hb hk (calc_c' q7)
    refine c_t (by simp) (c_f (by rw [y1, y2, n1]; simp) ?_)
    refine c_t (by cases hp : (resE 12 ta tb == 0 && doE 12 a ta b tb == 0 && doC 12 a ta b tb == 0) <;> simp <;> (try (cases decide (cmN a ta b tb ≤ 0) <;> simp))) (c_f ?_ ?_)
    · cases hp : (resE 12 ta tb == 0 && doE 12 a ta b tb == 0 && doC 12 a ta b tb == 0)
      · rfl
      · obtain ⟨g1, g2⟩ := ord_min ha hb hk (calc_c' hp)
        rw [← n1] at g1 g2
        by_cases hx : cmN a ta b tb ≤ 0
        · rw [g1 hx, decide_eq_true (show cmN a ta b tb ≤ 0 from hx)]; rfl
        · rw [g2 (by omega), decide_eq_false (show ¬ (cmN a ta b tb ≤ 0) from hx), decide_eq_true (show cmN a ta b tb > 0 by omega)]; rfl
    refine c_t (by cases hp : (resE 13 ta tb == 0 && doE 13 a ta b tb == 0 && doC 13 a ta b tb == 0) <;> simp <;> (try (cases decide (cmN a ta b tb ≥ 0) <;> simp))) (c_f ?_ ?_)
    · cases hp : (resE 13 ta tb == 0 && doE 13 a ta b tb == 0 && doC 13 a ta b tb == 0)
      · rfl
      · obtain ⟨g1, g2⟩ := ord_max ha hb hk (calc_c' hp)
        rw [← n1] at g1 g2
        by_cases hx : cmN a ta b tb ≥ 0
        · rw [g1 hx, decide_eq_true (show cmN a ta b tb ≥ 0 from hx)]; rfl
        · rw [g2 (by omega), decide_eq_false (show ¬ (cmN a ta b tb ≥ 0) from hx), decide_eq_true (show cmN a ta b tb < 0 by omega)]; rfl
    refine c_t (by simp) ?_
    refine cond_intro (fun _ => rfl) (fun q => ?_)
    simp only [Bool.or_eq_false_iff] at q
    obtain ⟨z1, z2⟩ := ord_add ha hb hc hk hk' (calc_c q.1) (calc_c q.2)
    refine c_t (by simp) ?_
    rw [z1, z2, n1]
    simp [s14]
  · refine c_t (by cases hp : (resE 12 ta tb == 0 && doE 12 a ta b tb == 0 && doC 12 a ta b tb == 0) <;> simp <;> (try (cases decide (cmN a ta b tb ≤ 0) <;> simp))) (c_f ?_ ?_)
    · cases hp : (resE 12 ta tb == 0 && doE 12 a ta b tb == 0 && doC 12 a ta b tb == 0)
      · rfl
      · obtain ⟨g1, g2⟩ := ord_min ha hb hk (calc_c' hp)
        rw [← n1] at g1 g2
        by_cases hx : cmN a ta b tb ≤ 0
        · rw [g1 hx, decide_eq_true (show cmN a ta b tb ≤ 0 from hx)]; rfl
        · rw [g2 (by omega), decide_eq_false (show ¬ (cmN a ta b tb ≤ 0) from hx), decide_eq_true (show cmN a ta b tb > 0 by omega)]; rfl
    refine c_t (by cases hp : (resE 13 ta tb == 0 && doE 13 a ta b tb == 0 && doC 13 a ta b tb == 0) <;> simp <;> (try (cases decide (cmN a ta b tb ≥ 0) <;> simp))) (c_f ?_ ?_)
    · cases hp : (resE 13 ta tb == 0 && doE 13 a ta b tb == 0 && doC 13 a ta b tb == 0)
      · rfl
      · obtain ⟨g1, g2⟩ := ord_max ha hb hk (calc_c' hp)
        rw [← n1] at g1 g2
        by_cases hx : cmN a ta b tb ≥ 0
        · rw [g1 hx, decide_eq_true (show cmN a ta b tb ≥ 0 from hx)]; rfl
        · rw [g2 (by omega), decide_eq_false (show ¬ (cmN a ta b tb ≥ 0) from hx), decide_eq_true (show cmN a ta b tb < 0 by omega)]; rfl
    refine c_t (by simp) ?_
    refine cond_intro (fun _ => rfl) (fun q => ?_)
    simp only [Bool.or_eq_false_iff] at q
    obtain ⟨z1, z2⟩ := ord_add ha hb hc hk hk' (calc_c q.1) (calc_c q.2)
    refine c_t (by simp) ?_
    rw [z1, z2, n1]
    simp [s14]

end Go.Fx
