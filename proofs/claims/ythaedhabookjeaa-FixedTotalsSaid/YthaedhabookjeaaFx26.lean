/-
  Widths and remainders, plainly.
-/
import Derived.Test.YthaedhabookjeaaFx24
set_option linter.unusedVariables false
set_option linter.unusedSimpArgs false
namespace Go.Fx
open Go Go.Ab Go.Proofs

theorem op_all {op : Int} {a b : Vl} {ta tb : Ty} (ho : 5 ≤ op ∧ op ≤ 13) (ha : Gd a ta) (hb : Gd b tb) (hk : ta.k = tb.k) :
    ∃ (b' : Vl) (tb' : Ty), Gd b' tb' ∧ ta.k = tb'.k ∧ (op = 9 ∨ op = 10 → b' = b ∧ tb' = tb) ∧ doE op a ta b tb = 0 ∧ resE op ta tb = 0 ∧ resT op ta tb = rty op ta tb' ∧ doN op a ta b tb = doN1 op a.n ta b'.n tb' ∧ doC op a ta b tb = doC1 op a.n ta b'.n tb' ∧
      (op = 5 ∨ op = 11 → b' = a ∧ tb' = ta) := by
  by_cases hu : op = 5 ∨ op = 11
  · have h1 : isOp op = true := by simp [isOp, ho]
    have h2 : unary op = true := by simp [unary, hu]
    have h : doE op a ta b tb = 0 := by simp [doE, h1, h2, gd_iff.2 ha]
    exact ⟨a, ta, ha, rfl, fun h' => by omega, h, by simp [resE, h1, h2, ha.1], by simp [resT, h1, h2, ha.1], by simp [doN, h, h2], by simp [doC, h, h2], fun _ => ⟨rfl, rfl⟩⟩
  · obtain ⟨h1, h2, h3⟩ := do_two ho (by omega) ha hb hk
    obtain ⟨h4, h5⟩ := resT_bin ho (by omega) ha.1 hb.1 hk
    exact ⟨b, tb, hb, hk, fun _ => ⟨rfl, rfl⟩, h1, h5, h4, h2, h3, fun h => absurd h hu⟩
theorem scl_small {n d : Int} (hd : d ≤ 0) {m : Int} (h : -m < n ∧ n < m) : -m < scl n d ∧ scl n d < m := by
  have := scl_neg (n := n) (d := d) (A := m - 1) hd (by omega)
  omega
theorem prod_lt {x y A B : Int} (hx : -A < x ∧ x < A) (hy : -B < y ∧ y < B) : -(A * B) < x * y ∧ x * y < A * B := by
  have := mul_rng2 (x := x) (y := y) (A := A - 1) (B := B - 1) (by omega) (by omega)
  have e : (A - 1) * (B - 1) = A * B - A - B + 1 := by rw [Int.sub_mul, Int.mul_sub]; omega
  omega
/-- If the result has fewer digits than the most, it fits. -/
theorem all_in {op x y : Int} {a b : Ty} (ho : 5 ≤ op ∧ op ≤ 13) (ha : Valid a) (hb : Valid b) (hk : a.k = b.k) (hx : -bnd a < x ∧ x < bnd a) (hy : -bnd b < y ∧ y < bnd b) (hz : ¬ zer op y)
    (hu : op = 5 ∨ op = 11 → b = a) (hp : (rty op a b).p < most a.k) : InB (opN op x a y b) (rty op a b) := by
  rw [rty_p] at hp
  have hD : resD op a b < most a.k := by omega
  have hbd : bnd (rty op a b) = pw (base a.k) (resD op a b) := by
    unfold bnd
    rw [rty_p, rty_k, Int.min_eq_right (by omega)]
  have ra := valid_r ha
  have rb := valid_r hb
  have c : op = 5 ∨ op = 6 ∨ op = 7 ∨ op = 8 ∨ op = 9 ∨ op = 10 ∨ op = 11 ∨ op = 12 ∨ op = 13 := by omega
  rcases c with rfl | h | h | rfl | rfl | rfl | rfl | h | h
  · obtain rfl := hu (.inl rfl)
    have e : opN 5 x b y b = -scl x (max b.q b.q - b.q) := rfl
    have e1 : bnd (rty 5 b b) = bnd b := by rw [hbd]; rfl
    unfold InB
    rw [e, e1, show max b.q b.q - b.q = 0 by omega, scl0]
    omega
  · exact res_in ha hb hk hx hy (by omega) (by omega)
  · exact res_in ha hb hk hx hy (by omega) (by omega)
  · rw [opN_8]
    have h1 := prod_lt hx hy
    have h2 := resQ_mul ha hb hk
    have h3 := scl_small (d := resQ 8 a b - (a.q + b.q)) (by omega) h1
    have e : bnd a * bnd b = pw (base a.k) (a.p + b.p) := by rw [pw_add _ (by omega) (by omega)]; unfold bnd; rw [hk]
    have hm := pw_mono (k := a.k) (show a.p + b.p ≤ resD 8 a b by show _ ≤ 1 + a.p + b.p; omega)
    unfold InB
    rw [hbd]
    omega
  · have : resD 9 a b = most a.k := rfl
    omega
  · obtain ⟨_, _, h3, h4, _⟩ := both_rng ha hb hk hx hy
    have e : opN 10 x a y b = scl x (max a.q b.q - a.q) % (max (scl y (max a.q b.q - b.q)) (-(scl y (max a.q b.q - b.q)))) := rfl
    have e2 : resD 10 a b = b.p - b.q + max a.q b.q := rfl
    have hy0 : scl y (max a.q b.q - b.q) ≠ 0 := by
      rw [Ne, scl_ne (by omega)]
      intro h; exact hz ⟨.inr rfl, h⟩
    have p0 := Int.emod_nonneg (scl x (max a.q b.q - a.q)) (b := max (scl y (max a.q b.q - b.q)) (-(scl y (max a.q b.q - b.q)))) (by omega)
    have p1 := Int.emod_lt_of_pos (scl x (max a.q b.q - a.q)) (b := max (scl y (max a.q b.q - b.q)) (-(scl y (max a.q b.q - b.q)))) (by omega)
    unfold InB
    rw [hbd, e, e2]
    omega
  · obtain rfl := hu (.inr rfl)
    have e : opN 11 x b y b = max (scl x (max b.q b.q - b.q)) (-(scl x (max b.q b.q - b.q))) := rfl
    have e1 : bnd (rty 11 b b) = bnd b := by rw [hbd]; rfl
    unfold InB
    rw [e, e1, show max b.q b.q - b.q = 0 by omega, scl0]
    omega
  · exact res_in ha hb hk hx hy (by omega) (by omega)
  · exact res_in ha hb hk hx hy (by omega) (by omega)
theorem resE_op {op : Int} {a b : Ty} (h : ¬ (5 ≤ op ∧ op ≤ 13)) : resE op a b = 1 := by
  have : isOp op = false := by unfold isOp; exact decide_eq_false h
  simp [resE, this]
structure WideP (op : Int) (a : Vl) (ta : Ty) (b : Vl) (tb : Ty) : Prop where
  e : resE op ta tb = 0
  d : doE op a ta b tb = 0
  v : Valid (resT op ta tb)
  k : (resT op ta tb).k = ta.k
  m : (resT op ta tb).p ≤ most ta.k
  g : fits ⟨doN op a ta b tb, e0⟩ (resT op ta tb) = 0
  c : (resT op ta tb).p < most ta.k → doC op a ta b tb ≠ 2
theorem wideP {op : Int} {a b : Vl} {ta tb : Ty} (ho : 5 ≤ op ∧ op ≤ 13) (ha : Gd a ta) (hb : Gd b tb) (hk : ta.k = tb.k) : WideP op a ta b tb := by
  obtain ⟨b', tb', hb', hk', h9, h1, h2, h3, h4, h5, h6⟩ := op_all ho ha hb hk
  have hv := rty_ok (op := op) ha.1 hb'.1 hk' ho
  refine ⟨h2, h1, by rw [h3]; exact hv, by rw [h3]; rfl, by rw [h3, rty_p]; omega, ?_, ?_⟩
  · rw [h3, h4, gd_iff]
    refine gd_mk hv ?_
    by_cases hz : zer op b'.n
    · have := bnd_pos hv
      simp only [doN1, hz, if_true]
      exact ⟨by omega, by omega⟩
    · rw [(do_nz hz).1]; exact cutN_inb hv
  · rw [h3, h5]
    intro hp
    by_cases hz : zer op b'.n
    · simp [doC1, hz]
    · rw [(do_nz hz).2, (cutC0 (by decide)).2 (all_in ho ha.1 hb'.1 hk' (gd_rng ha) (gd_rng hb') hz (fun h => (h6 h).2) hp)]
      decide
structure TwiceP (ta : Ty) : Prop where
  w : IntKind.i64.wrap (pw (base ta.k) ta.p - 1) = pw (base ta.k) ta.p - 1
  e : resE 6 ta ta = 0
  d : doE 6 ⟨pw (base ta.k) ta.p - 1, e0⟩ ta ⟨pw (base ta.k) ta.p - 1, e0⟩ ta = 0
  o : ta.p = most ta.k → doC 6 ⟨pw (base ta.k) ta.p - 1, e0⟩ ta ⟨pw (base ta.k) ta.p - 1, e0⟩ ta = 2
  u : ta.p ≠ most ta.k → doC 6 ⟨pw (base ta.k) ta.p - 1, e0⟩ ta ⟨pw (base ta.k) ta.p - 1, e0⟩ ta = 0 ∧ (resT 6 ta ta).p = IntKind.i64.wrap (ta.p + 1) ∧
    pw (base ta.k) ta.p ≤ doN 6 ⟨pw (base ta.k) ta.p - 1, e0⟩ ta ⟨pw (base ta.k) ta.p - 1, e0⟩ ta
theorem twiceP {ta : Ty} (h : Valid ta) : TwiceP ta := by
  have hb := bnd_range h
  have hbd : bnd ta = pw (base ta.k) ta.p := rfl
  have r := valid_r h
  have hp : ta.p ≤ most ta.k := h.2.2.1
  rw [hbd] at hb
  have g : Gd ⟨pw (base ta.k) ta.p - 1, e0⟩ ta := gd_mk h ⟨by omega, by omega⟩
  obtain ⟨h1, h2, h3, h4, h5, h6, h7⟩ := do_lin (op := 6) (by omega) g g rfl
  have eo : opN 6 (pw (base ta.k) ta.p - 1) ta (pw (base ta.k) ta.p - 1) ta = 2 * (pw (base ta.k) ta.p - 1) := by
    show scl _ _ + scl _ _ = _
    rw [show max ta.q ta.q - ta.q = 0 by omega, scl0]; omega
  have eD : resD 6 ta ta = 1 + ta.p := by show 1 + max _ _ + max _ _ = _; omega
  refine ⟨w64 (by omega), h2, h1, fun hm => ?_, fun hm => ?_⟩
  · have : bnd (rty 6 ta ta) = pw (base ta.k) ta.p := by unfold bnd; rw [rty_p, rty_k, eD, ← hm]; congr 1; omega
    rw [h7, cutC, if_neg]
    unfold InB
    show ¬ (_ < opN 6 (pw (base ta.k) ta.p - 1) ta (pw (base ta.k) ta.p - 1) ta ∧ _)
    rw [eo, this]; omega
  · have i := res_in (op := 6) h h rfl (gd_rng g) (gd_rng g) (by omega) (by rw [eD]; omega)
    refine ⟨by rw [h7]; exact (cutC0 (by decide)).2 i, ?_, ?_⟩
    · rw [h3, rty_p, eD, w64 (by omega)]; omega
    · rw [h6, cutN_in i]
      show _ ≤ opN 6 (pw (base ta.k) ta.p - 1) ta (pw (base ta.k) ta.p - 1) ta
      rw [eo]; omega

/-! ### Remainders -/
theorem sclp {n : Int} {t : Ty} {d : Int} (h : Valid t) (hn : -bnd t < n ∧ n < bnd t) (hd : 0 ≤ d ∧ d ≤ 9) (hk : t.k = 2 → d = 0) : IntKind.i64.wrap (n * pw 10 d) = scl n d := by
  have := scl_rng h hn hd hk
  rw [← scl_up hd.1]
  unfold P18 at this
  exact w64 (by omega)
structure ModP (a : Vl) (ta : Ty) (b : Vl) (tb : Ty) : Prop where
  e : resE 10 ta tb = 0
  d : doE 10 a ta b tb = 0
  q : (resT 10 ta tb).q = max ta.q tb.q
  z : b.n = 0 → doC 10 a ta b tb = 3 ∧ doN 10 a ta b tb = 0
  g : fits ⟨doN 10 a ta b tb, e0⟩ (resT 10 ta tb) = 0
  n : b.n ≠ 0 → doN 10 a ta b tb = cutN (scl a.n (max ta.q tb.q - ta.q) % (max (scl b.n (max ta.q tb.q - tb.q)) (-(scl b.n (max ta.q tb.q - tb.q))))) (rty 10 ta tb) ∧
    doC 10 a ta b tb = cutC (scl a.n (max ta.q tb.q - ta.q) % (max (scl b.n (max ta.q tb.q - tb.q)) (-(scl b.n (max ta.q tb.q - tb.q))))) (rty 10 ta tb) 2
theorem modP {a b : Vl} {ta tb : Ty} (ha : Gd a ta) (hb : Gd b tb) (hk : ta.k = tb.k) : ModP a ta b tb := by
  have ho : (5 : Int) ≤ 10 ∧ (10 : Int) ≤ 13 := by omega
  obtain ⟨h1, h2, h3⟩ := do_two ho (by omega) ha hb hk
  obtain ⟨h4, h5⟩ := resT_bin ho (by omega) ha.1 hb.1 hk
  refine ⟨h5, h1, by rw [h4]; exact resQ_max ha.1 hb.1 hk (by omega), fun hz => ?_, (wideP ho ha hb hk).g, fun hz => ?_⟩
  · have : zer 10 b.n := ⟨.inr rfl, hz⟩
    rw [h2, h3]
    simp [doN1, doC1, this]
  · have : ¬ zer 10 b.n := fun h => hz h.2
    rw [h2, h3, (do_nz this).1, (do_nz this).2]
    exact ⟨rfl, rfl⟩
end Go.Fx
