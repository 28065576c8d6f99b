/-
  What results are, of good operands.
-/
import Derived.Test.YthaedhabookjeaaFx18
set_option linter.unusedVariables false
set_option linter.unusedSimpArgs false
namespace Go.Fx
open Go Go.Ab Go.Proofs

/-- a value of its type -/
def Gd (v : Vl) (t : Ty) : Prop := Valid t ∧ Fit v t
theorem gd_iff {v : Vl} {t : Ty} : fits v t = 0 ↔ Gd v t := fits0
theorem gd_rng {v : Vl} {t : Ty} (h : Gd v t) : -bnd t < v.n ∧ v.n < bnd t := h.2.2
theorem gd_mk {n : Int} {t : Ty} (ht : Valid t) (h : InB n t) : Gd ⟨n, e0⟩ t := ⟨ht, e0_nil, h⟩
theorem gd_s {v : Vl} {t : Ty} (h : Gd v t) : v.s.toList = [] := h.2.1
theorem resT_bin {op : Int} {a b : Ty} (ho : 5 ≤ op ∧ op ≤ 13) (hu : op ≠ 5 ∧ op ≠ 11) (ha : Valid a) (hb : Valid b) (hk : a.k = b.k) : resT op a b = rty op a b ∧ resE op a b = 0 := by
  have h1 : isOp op = true := by simp [isOp, ho]
  have h2 : unary op = false := by simp [unary, hu]
  constructor
  · simp [resT, h1, h2, ha, hb, hk]
  · simp [resE, h1, h2, ha, hb, hk]
theorem do_two {op : Int} {a b : Vl} {ta tb : Ty} (ho : 5 ≤ op ∧ op ≤ 13) (hu : op ≠ 5 ∧ op ≠ 11) (ha : Gd a ta) (hb : Gd b tb) (hk : ta.k = tb.k) :
    doE op a ta b tb = 0 ∧ doN op a ta b tb = doN1 op a.n ta b.n tb ∧ doC op a ta b tb = doC1 op a.n ta b.n tb := by
  have h1 : isOp op = true := by simp [isOp, ho]
  have h2 : unary op = false := by simp [unary, hu]
  have h : doE op a ta b tb = 0 := by simp [doE, h1, h2, gd_iff.2 ha, gd_iff.2 hb, hk]
  exact ⟨h, by simp [doN, h, h2], by simp [doC, h, h2]⟩
theorem do_nz {op a b : Int} {ta tb : Ty} (h : ¬ zer op b) : doN1 op a ta b tb = cutN (opN op a ta b tb) (rty op ta tb) ∧ doC1 op a ta b tb = cutC (opN op a ta b tb) (rty op ta tb) 2 := by
  simp [doN1, doC1, h]
theorem nz_of {op b : Int} (h : op ≠ 9 ∧ op ≠ 10) : ¬ zer op b := by unfold zer; omega
theorem do_gd {op : Int} {a b : Vl} {ta tb : Ty} (ho : 5 ≤ op ∧ op ≤ 13) (hu : op ≠ 5 ∧ op ≠ 11) (ha : Gd a ta) (hb : Gd b tb) (hk : ta.k = tb.k) : Gd ⟨doN op a ta b tb, e0⟩ (rty op ta tb) := by
  have hv := rty_ok (op := op) ha.1 hb.1 hk ho
  refine gd_mk hv ?_
  rw [(do_two ho hu ha hb hk).2.1]
  by_cases hz : zer op b.n
  · have := bnd_pos hv
    simp only [doN1, hz, if_true]
    exact ⟨by omega, by omega⟩
  · rw [(do_nz hz).1]
    exact cutN_inb hv

/-! ### Numbers, in units far behind the point -/
def Un (n q : Int) : Int := n * pw 10 (40 - q)
theorem Un_scl {n q r : Int} (h : q ≤ r) (h' : r ≤ 40) : Un (n * pw 10 (r - q)) r = Un n q := by
  unfold Un
  rw [Int.mul_assoc, ← pw_add 10 (by omega) (by omega)]
  congr 2; omega
theorem Un_pos (q : Int) : 0 < pw 10 (40 - q) := by have := pw_pos (b := 10) (by omega) (40 - q); omega
theorem Un_lt {n m q : Int} : Un n q < Un m q ↔ n < m := ⟨fun h => Int.lt_of_mul_lt_mul_right h (Int.le_of_lt (Un_pos q)), fun h => Int.mul_lt_mul_of_pos_right h (Un_pos q)⟩
theorem Un_inj {n m q : Int} : Un n q = Un m q ↔ n = m := by
  have h1 := Un_lt (n := n) (m := m) (q := q)
  have h2 := Un_lt (n := m) (m := n) (q := q)
  omega
theorem Un_add (n m q : Int) : Un (n + m) q = Un n q + Un m q := Int.add_mul ..
theorem Un_sub (n m q : Int) : Un (n - m) q = Un n q - Un m q := Int.sub_mul ..
theorem Un_min (n m q : Int) : Un (min n m) q = min (Un n q) (Un m q) := by
  have h1 := Un_lt (n := n) (m := m) (q := q)
  have h2 := Un_lt (n := m) (m := n) (q := q)
  rcases Int.le_total n m with h | h
  · rw [Int.min_eq_left h, Int.min_eq_left (by omega)]
  · rw [Int.min_eq_right h, Int.min_eq_right (by omega)]
theorem Un_max (n m q : Int) : Un (max n m) q = max (Un n q) (Un m q) := by
  have h1 := Un_lt (n := n) (m := m) (q := q)
  have h2 := Un_lt (n := m) (m := n) (q := q)
  rcases Int.le_total n m with h | h
  · rw [Int.max_eq_right h, Int.max_eq_right (by omega)]
  · rw [Int.max_eq_left h, Int.max_eq_left (by omega)]
theorem Un_0 (q : Int) : Un 0 q = 0 := Int.zero_mul _
theorem cmpI_U {n m q : Int} : cmpI (Un n q) (Un m q) = cmpI n m := by
  have h1 := Un_lt (n := n) (m := m) (q := q)
  have h2 := Un_lt (n := m) (m := n) (q := q)
  unfold cmpI
  split <;> split <;> (try split) <;> (try split) <;> omega
theorem up_a {n : Int} {a b : Ty} (ha : Valid a) (hb : Valid b) : Un (scl n (max a.q b.q - a.q)) (max a.q b.q) = Un n a.q := by
  have := valid_r ha; have := valid_r hb
  rw [scl_up (by omega), Un_scl (by omega) (by omega)]
theorem up_b {n : Int} {a b : Ty} (ha : Valid a) (hb : Valid b) : Un (scl n (max a.q b.q - b.q)) (max a.q b.q) = Un n b.q := by
  have := valid_r ha; have := valid_r hb
  rw [scl_up (by omega), Un_scl (by omega) (by omega)]

/-- Comparing. -/
theorem cm_ok {a b : Vl} {ta tb : Ty} (ha : Gd a ta) (hb : Gd b tb) (hk : ta.k = tb.k) : cmE a ta b tb = 0 ∧ cmN a ta b tb = cmpI (Un a.n ta.q) (Un b.n tb.q) := by
  have h : cmE a ta b tb = 0 := by simp [cmE, gd_iff.2 ha, gd_iff.2 hb, hk]
  refine ⟨h, ?_⟩
  rw [cmN, if_neg (by simp [h]), ← cmpI_U (q := max ta.q tb.q), up_a ha.1 hb.1, up_b ha.1 hb.1]

/-- Adding and its like, where there is no condition. -/
theorem do_lin {op : Int} {a b : Vl} {ta tb : Ty} (h : op = 6 ∨ op = 7 ∨ op = 12 ∨ op = 13) (ha : Gd a ta) (hb : Gd b tb) (hk : ta.k = tb.k) :
    doE op a ta b tb = 0 ∧ resE op ta tb = 0 ∧ resT op ta tb = rty op ta tb ∧ (rty op ta tb).q = max ta.q tb.q ∧ Gd ⟨doN op a ta b tb, e0⟩ (rty op ta tb) ∧
      doN op a ta b tb = cutN (opN op a.n ta b.n tb) (rty op ta tb) ∧ doC op a ta b tb = cutC (opN op a.n ta b.n tb) (rty op ta tb) 2 := by
  have ho : 5 ≤ op ∧ op ≤ 13 := by omega
  have hu : op ≠ 5 ∧ op ≠ 11 := by omega
  obtain ⟨h1, h2, h3⟩ := do_two ho hu ha hb hk
  obtain ⟨h4, h5⟩ := resT_bin ho hu ha.1 hb.1 hk
  obtain ⟨h6, h7⟩ := do_nz (a := a.n) (ta := ta) (tb := tb) (nz_of (op := op) (b := b.n) (by omega))
  exact ⟨h1, h5, h4, resQ_max ha.1 hb.1 hk (by omega), do_gd ho hu ha hb hk, h2.trans h6, h3.trans h7⟩
theorem do_lin0 {op : Int} {a b : Vl} {ta tb : Ty} (h : op = 6 ∨ op = 7 ∨ op = 12 ∨ op = 13) (ha : Gd a ta) (hb : Gd b tb) (hk : ta.k = tb.k) (hc : doC op a ta b tb = 0) : doN op a ta b tb = opN op a.n ta b.n tb := by
  obtain ⟨_, _, _, _, _, h6, h7⟩ := do_lin h ha hb hk
  rw [h7] at hc
  rw [h6, cutN_in ((cutC0 (by decide)).1 hc)]
theorem do_add {a b : Vl} {ta tb : Ty} (ha : Gd a ta) (hb : Gd b tb) (hk : ta.k = tb.k) (hc : doC 6 a ta b tb = 0) : Un (doN 6 a ta b tb) (max ta.q tb.q) = Un a.n ta.q + Un b.n tb.q := by
  rw [do_lin0 (by omega) ha hb hk hc, ← up_a ha.1 hb.1, ← up_b ha.1 hb.1, ← Un_add]; rfl
theorem do_sub {a b : Vl} {ta tb : Ty} (ha : Gd a ta) (hb : Gd b tb) (hk : ta.k = tb.k) (hc : doC 7 a ta b tb = 0) : Un (doN 7 a ta b tb) (max ta.q tb.q) = Un a.n ta.q - Un b.n tb.q := by
  rw [do_lin0 (by omega) ha hb hk hc, ← up_a ha.1 hb.1, ← up_b ha.1 hb.1, ← Un_sub]; rfl
theorem do_min {a b : Vl} {ta tb : Ty} (ha : Gd a ta) (hb : Gd b tb) (hk : ta.k = tb.k) (hc : doC 12 a ta b tb = 0) : Un (doN 12 a ta b tb) (max ta.q tb.q) = min (Un a.n ta.q) (Un b.n tb.q) := by
  rw [do_lin0 (by omega) ha hb hk hc, ← up_a ha.1 hb.1, ← up_b ha.1 hb.1, ← Un_min]; rfl
theorem do_max {a b : Vl} {ta tb : Ty} (ha : Gd a ta) (hb : Gd b tb) (hk : ta.k = tb.k) (hc : doC 13 a ta b tb = 0) : Un (doN 13 a ta b tb) (max ta.q tb.q) = max (Un a.n ta.q) (Un b.n tb.q) := by
  rw [do_lin0 (by omega) ha hb hk hc, ← up_a ha.1 hb.1, ← up_b ha.1 hb.1, ← Un_max]; rfl
theorem most_q {t : Ty} (h : Valid t) : t.k = 1 ∧ most t.k = 9 ∨ t.k = 2 ∧ most t.k = 31 ∧ t.q = 0 := by
  rcases h.1 with k | k
  · exact .inl ⟨k, by rw [k]; rfl⟩
  · exact .inr ⟨k, by rw [k]; rfl, h.2.2.2.2.2.1 k⟩
theorem do_mul {a b : Vl} {ta tb : Ty} (ha : Gd a ta) (hb : Gd b tb) (hk : ta.k = tb.k) :
    doE 8 a ta b tb = 0 ∧ resE 8 ta tb = 0 ∧ resT 8 ta tb = rty 8 ta tb ∧ Gd ⟨doN 8 a ta b tb, e0⟩ (rty 8 ta tb) ∧
      doN 8 a ta b tb = cutN (opN 8 a.n ta b.n tb) (rty 8 ta tb) ∧ doC 8 a ta b tb = cutC (opN 8 a.n ta b.n tb) (rty 8 ta tb) 2 ∧
      (doC 8 a ta b tb = 0 → ta.q + tb.q ≤ most ta.k → doN 8 a ta b tb = a.n * b.n ∧ (rty 8 ta tb).q = ta.q + tb.q) := by
  obtain ⟨h1, h2, h3⟩ := do_two (op := 8) (by omega) (by omega) ha hb hk
  obtain ⟨h4, h5⟩ := resT_bin (op := 8) (by omega) (by omega) ha.1 hb.1 hk
  obtain ⟨h6, h7⟩ := do_nz (a := a.n) (ta := ta) (tb := tb) (nz_of (op := 8) (b := b.n) (by omega))
  refine ⟨h1, h5, h4, do_gd (by omega) (by omega) ha hb hk, h2.trans h6, h3.trans h7, fun hc hq => ?_⟩
  rw [h3, h7, cutC0 (by decide)] at hc
  have hr : resQ 8 ta tb = ta.q + tb.q := by
    have := most_q ha.1; have := most_q hb.1
    grind [resQ]
  rw [h2, h6, cutN_in hc, opN_8, hr, Int.sub_self, scl0]
  exact ⟨rfl, hr⟩
theorem rty_valid' {op : Int} {a b : Ty} (ha : Valid a) (hb : Valid b) (hk : a.k = b.k) (h : op = 6 ∨ op = 7 ∨ op = 8 ∨ op = 12 ∨ op = 13) : Valid (rty op a b) := rty_ok ha hb hk (by omega)
/-- The order of the operands. -/
theorem rty_comm {op : Int} {a b : Ty} (hk : a.k = b.k) (h : op = 6 ∨ op = 8 ∨ op = 12 ∨ op = 13) : rty op a b = rty op b a := by
  unfold rty
  have h1 : resD op a b = resD op b a := by rcases h with rfl | rfl | rfl | rfl <;> simp [resD] <;> omega
  have h2 : resQ op a b = resQ op b a := by rcases h with rfl | rfl | rfl | rfl <;> simp [resQ, hk] <;> omega
  rw [h1, h2, hk]
theorem opN_comm {op x y : Int} {a b : Ty} (hk : a.k = b.k) (h : op = 6 ∨ op = 8 ∨ op = 12 ∨ op = 13) : opN op x a y b = opN op y b x a := by
  have hm : max a.q b.q = max b.q a.q := by omega
  have h2 : resQ op a b = resQ op b a := congrArg Ty.q (rty_comm hk h)
  rcases h with rfl | rfl | rfl | rfl
  · show _ + _ = _ + _; rw [hm, Int.add_comm]
  · rw [opN_8, opN_8, h2, Int.mul_comm, Int.add_comm a.q]
  · show min _ _ = min _ _; rw [hm, Int.min_comm]
  · show max _ _ = max _ _; rw [hm, Int.max_comm]
theorem do_comm {op : Int} {a b : Vl} {ta tb : Ty} (h : op = 6 ∨ op = 8 ∨ op = 12 ∨ op = 13) (ha : Gd a ta) (hb : Gd b tb) (hk : ta.k = tb.k) :
    resT op ta tb = resT op tb ta ∧ doN op a ta b tb = doN op b tb a ta ∧ doC op a ta b tb = doC op b tb a ta := by
  have ho : 5 ≤ op ∧ op ≤ 13 := by omega
  have hu : op ≠ 5 ∧ op ≠ 11 := by omega
  obtain ⟨_, h2, h3⟩ := do_two ho hu ha hb hk
  obtain ⟨_, g2, g3⟩ := do_two ho hu hb ha hk.symm
  obtain ⟨h6, h7⟩ := do_nz (a := a.n) (ta := ta) (tb := tb) (nz_of (op := op) (b := b.n) (by omega))
  obtain ⟨g6, g7⟩ := do_nz (a := b.n) (ta := tb) (tb := ta) (nz_of (op := op) (b := a.n) (by omega))
  refine ⟨?_, ?_, ?_⟩
  · rw [(resT_bin ho hu ha.1 hb.1 hk).1, (resT_bin ho hu hb.1 ha.1 hk.symm).1, rty_comm hk h]
  · rw [h2, h6, g2, g6, rty_comm hk h, opN_comm hk h]
  · rw [h3, h7, g3, g7, rty_comm hk h, opN_comm hk h]
end Go.Fx
