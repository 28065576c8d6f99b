/-
  The ring laws, plainly.
-/
import Derived.Test.YthaedhabookjeaaFx19
set_option linter.unusedVariables false
set_option linter.unusedSimpArgs false
namespace Go.Fx
open Go Go.Ab Go.Proofs

theorem c_t {b : Bool} {P Q : Prop} (hb : b = true) (h : P) : bif b then P else Q := by subst hb; exact h
theorem c_f {b : Bool} {P Q : Prop} (hb : b = false) (h : Q) : bif b then P else Q := by subst hb; exact h
theorem both_of {a b : Vl} {ta tb : Ty} (h : (!(fits a ta == 0 && fits b tb == 0 && ta.k == tb.k)) = false) : Gd a ta ∧ Gd b tb ∧ ta.k = tb.k := by
  simp only [Bool.not_eq_false', Bool.and_eq_true, beq_iff_eq] at h
  exact ⟨gd_iff.1 h.1.1, gd_iff.1 h.1.2, h.2⟩
theorem calc_c {x y z : Int} (h : (!(x == 0 && y == 0 && z == 0)) = false) : z = 0 := by
  simp only [Bool.not_eq_false', Bool.and_eq_true, beq_iff_eq] at h
  exact h.2
theorem calc_c' {x y z : Int} (h : (x == 0 && y == 0 && z == 0) = true) : z = 0 := by
  simp only [Bool.and_eq_true, beq_iff_eq] at h
  exact h.2
theorem two_0 {x y : Int} (h : x = 0 ∧ y = 0) : (x == 0 && y == 0) = true := by simp [h.1, h.2]
theorem cmpI0 {x y : Int} : cmpI x y = 0 ↔ x = y := by unfold cmpI; split <;> (try split) <;> omega
theorem ty_eq {t u : Ty} (h : t = u) : (t.k == u.k && (t.p == u.p && (t.q == u.q && (t.v == u.v && (t.s.toList == u.s.toList && true))))) = true := by subst h; simp

theorem add_pack {a b : Vl} {ta tb : Ty} (ha : Gd a ta) (hb : Gd b tb) (hk : ta.k = tb.k) (hc : doC 6 a ta b tb = 0) :
    ∃ n t, doN 6 a ta b tb = n ∧ resT 6 ta tb = t ∧ Gd ⟨n, e0⟩ t ∧ t.k = ta.k ∧ t.q = max ta.q tb.q ∧ Un n t.q = Un a.n ta.q + Un b.n tb.q := by
  obtain ⟨_, _, h3, h4, h5, _, _⟩ := do_lin (op := 6) (by omega) ha hb hk
  refine ⟨_, _, rfl, rfl, by rw [h3]; exact h5, by rw [h3]; rfl, by rw [h3]; exact h4, ?_⟩
  rw [h3, h4]; exact do_add ha hb hk hc
theorem sub_pack {a b : Vl} {ta tb : Ty} (ha : Gd a ta) (hb : Gd b tb) (hk : ta.k = tb.k) (hc : doC 7 a ta b tb = 0) :
    ∃ n t, doN 7 a ta b tb = n ∧ resT 7 ta tb = t ∧ Gd ⟨n, e0⟩ t ∧ t.k = ta.k ∧ t.q = max ta.q tb.q ∧ Un n t.q = Un a.n ta.q - Un b.n tb.q := by
  obtain ⟨_, _, h3, h4, h5, _, _⟩ := do_lin (op := 7) (by omega) ha hb hk
  refine ⟨_, _, rfl, rfl, by rw [h3]; exact h5, by rw [h3]; rfl, by rw [h3]; exact h4, ?_⟩
  rw [h3, h4]; exact do_sub ha hb hk hc
theorem mul_pack {a b : Vl} {ta tb : Ty} (ha : Gd a ta) (hb : Gd b tb) (hk : ta.k = tb.k) (hq : ta.q + tb.q ≤ most ta.k) (hc : doC 8 a ta b tb = 0) :
    ∃ t, doN 8 a ta b tb = a.n * b.n ∧ resT 8 ta tb = t ∧ Gd ⟨a.n * b.n, e0⟩ t ∧ t.k = ta.k ∧ t.q = ta.q + tb.q := by
  obtain ⟨_, _, h3, h4, _, _, h7⟩ := do_mul ha hb hk
  obtain ⟨h8, h9⟩ := h7 hc hq
  rw [h8] at h4
  exact ⟨_, h8, rfl, by rw [h3]; exact h4, by rw [h3]; rfl, by rw [h3]; exact h9⟩
theorem Un_mul {n m p q : Int} (hp : 0 ≤ p) (hq : 0 ≤ q) (h : p + q ≤ 40) : Un (n * m) (p + q) * pw 10 p = n * Un m q := by
  unfold Un
  rw [Int.mul_assoc, ← pw_add 10 (by omega) hp, show 40 - (p + q) + p = 40 - q by omega, Int.mul_assoc]

theorem ring_back {a b : Vl} {ta tb : Ty} (ha : Gd a ta) (hb : Gd b tb) (hk : ta.k = tb.k) (c1 : doC 6 a ta b tb = 0) (c2 : doC 7 ⟨doN 6 a ta b tb, e0⟩ (resT 6 ta tb) b tb = 0) :
    cmE ⟨doN 7 ⟨doN 6 a ta b tb, e0⟩ (resT 6 ta tb) b tb, e0⟩ (resT 7 (resT 6 ta tb) tb) a ta = 0 ∧ cmN ⟨doN 7 ⟨doN 6 a ta b tb, e0⟩ (resT 6 ta tb) b tb, e0⟩ (resT 7 (resT 6 ta tb) tb) a ta = 0 := by
  obtain ⟨n, t, e1, e2, g, k, q, u⟩ := add_pack ha hb hk c1
  rw [e1, e2] at c2 ⊢
  obtain ⟨n', t', e1', e2', g', k', q', u'⟩ := sub_pack g hb (k.trans hk) c2
  rw [e1', e2']
  obtain ⟨x, y⟩ := cm_ok g' ha (k'.trans k)
  refine ⟨x, ?_⟩
  rw [y, cmpI0]
  simp only at u u' ⊢
  omega
theorem ring_assoc {a b c : Vl} {ta tb tc : Ty} (ha : Gd a ta) (hb : Gd b tb) (hc : Gd c tc) (hk : ta.k = tb.k) (hk' : tb.k = tc.k) (c1 : doC 6 a ta b tb = 0) (c2 : doC 6 b tb c tc = 0)
    (c3 : doC 6 ⟨doN 6 a ta b tb, e0⟩ (resT 6 ta tb) c tc = 0) (c4 : doC 6 a ta ⟨doN 6 b tb c tc, e0⟩ (resT 6 tb tc) = 0) :
    (resT 6 (resT 6 ta tb) tc).q = (resT 6 ta (resT 6 tb tc)).q ∧
    cmE ⟨doN 6 ⟨doN 6 a ta b tb, e0⟩ (resT 6 ta tb) c tc, e0⟩ (resT 6 (resT 6 ta tb) tc) ⟨doN 6 a ta ⟨doN 6 b tb c tc, e0⟩ (resT 6 tb tc), e0⟩ (resT 6 ta (resT 6 tb tc)) = 0 ∧
    cmN ⟨doN 6 ⟨doN 6 a ta b tb, e0⟩ (resT 6 ta tb) c tc, e0⟩ (resT 6 (resT 6 ta tb) tc) ⟨doN 6 a ta ⟨doN 6 b tb c tc, e0⟩ (resT 6 tb tc), e0⟩ (resT 6 ta (resT 6 tb tc)) = 0 := by
  obtain ⟨n, t, e1, e2, g, k, q, u⟩ := add_pack ha hb hk c1
  obtain ⟨m, s, f1, f2, g2, k2, q2, u2⟩ := add_pack hb hc hk' c2
  rw [e1, e2] at c3 ⊢
  rw [f1, f2] at c4 ⊢
  obtain ⟨n3, t3, e3, e3', g3, k3, q3, u3⟩ := add_pack g hc (by omega) c3
  obtain ⟨n4, t4, e4, e4', g4, k4, q4, u4⟩ := add_pack ha g2 (by omega) c4
  rw [e3, e3', e4, e4']
  obtain ⟨x, y⟩ := cm_ok g3 g4 (by omega)
  refine ⟨by omega, x, ?_⟩
  rw [y, cmpI0]
  simp only at u u2 u3 u4 ⊢
  omega
theorem ring_mul {a b c : Vl} {ta tb tc : Ty} (ha : Gd a ta) (hb : Gd b tb) (hc : Gd c tc) (hk : ta.k = tb.k) (hk' : tb.k = tc.k) (hq : ta.q + max tb.q tc.q ≤ most ta.k) (c1 : doC 6 b tb c tc = 0)
    (m1 : doC 8 a ta b tb = 0) (m2 : doC 8 a ta c tc = 0) (m3 : doC 8 a ta ⟨doN 6 b tb c tc, e0⟩ (resT 6 tb tc) = 0)
    (m4 : doC 6 ⟨doN 8 a ta b tb, e0⟩ (resT 8 ta tb) ⟨doN 8 a ta c tc, e0⟩ (resT 8 ta tc) = 0) :
    cmE ⟨doN 6 ⟨doN 8 a ta b tb, e0⟩ (resT 8 ta tb) ⟨doN 8 a ta c tc, e0⟩ (resT 8 ta tc), e0⟩ (resT 6 (resT 8 ta tb) (resT 8 ta tc))
      ⟨doN 8 a ta ⟨doN 6 b tb c tc, e0⟩ (resT 6 tb tc), e0⟩ (resT 8 ta (resT 6 tb tc)) = 0 ∧
    cmN ⟨doN 6 ⟨doN 8 a ta b tb, e0⟩ (resT 8 ta tb) ⟨doN 8 a ta c tc, e0⟩ (resT 8 ta tc), e0⟩ (resT 6 (resT 8 ta tb) (resT 8 ta tc))
      ⟨doN 8 a ta ⟨doN 6 b tb c tc, e0⟩ (resT 6 tb tc), e0⟩ (resT 8 ta (resT 6 tb tc)) = 0 := by
  have ra := valid_r ha.1
  have rb := valid_r hb.1
  have rc := valid_r hc.1
  obtain ⟨m, s, f1, f2, g2, k2, q2, u2⟩ := add_pack hb hc hk' c1
  rw [f1, f2] at m3 ⊢
  obtain ⟨t1, e1, e1', g1, k1, q1⟩ := mul_pack ha hb hk (by omega) m1
  obtain ⟨t2, h1, h1', g3, k3, q3⟩ := mul_pack ha hc (by omega) (by omega) m2
  obtain ⟨t4, h4, h4', g4, k4, q4⟩ := mul_pack ha g2 (by omega) (by omega) m3
  rw [e1, e1', h1, h1'] at m4 ⊢
  rw [h4, h4']
  obtain ⟨n5, t5, h5, h5', g5, k5, q5, u5⟩ := add_pack g1 g3 (by omega) m4
  rw [h5, h5']
  obtain ⟨x, y⟩ := cm_ok g5 g4 (by omega)
  refine ⟨x, ?_⟩
  rw [y, cmpI0]
  simp only at u2 u5 q4 ⊢
  rw [u5, q1, q3, q4]
  have hp := pw_pos (b := 10) (by omega) ta.q
  refine Int.eq_of_mul_eq_mul_right (show pw 10 ta.q ≠ 0 by omega) ?_
  rw [Int.add_mul, Un_mul (by omega) (by omega) (by omega), Un_mul (by omega) (by omega) (by omega), Un_mul (by omega) (by omega) (by omega), u2, Int.mul_add]
end Go.Fx
