/-
  Plain facts on results: types, bounds, exactness.
-/
import Derived.Test.YthaedhabookjeaaFx16
set_option linter.unusedVariables false
set_option linter.unusedSimpArgs false
namespace Go.Fx
open Go Go.Ab Go.Proofs

theorem check0 {t : Ty} : check t = 0 ↔ Valid t := by
  unfold check
  split <;> simp_all
theorem base_2 (k : Int) : 2 ≤ base k := by unfold base; split <;> omega
theorem scl_up {n d : Int} (h : 0 ≤ d) : scl n d = n * pw 10 d := by rw [scl, if_pos h]
theorem scl_dn {n d : Int} (h : d ≤ 0) : scl n d = n.tdiv (pw 10 (-d)) := by
  unfold scl
  split
  · have : d = 0 := by omega
    subst this
    simp [pw]
  · rfl
theorem pw_0 (b : Int) : pw b 0 = 1 := pw_zero b (Int.le_refl 0)
theorem pw_1 (b : Int) : pw b 1 = b := by show b ^ 1 = b; rw [Int.pow_succ, Int.pow_zero, Int.one_mul]
theorem cutN_in {n : Int} {t : Ty} (h : InB n t) : cutN n t = n := by rw [cutN, if_pos h]
theorem cutN_inb {n : Int} {t : Ty} (h : Valid t) : InB (cutN n t) t := by
  have hb := bnd_range h
  rw [cutN_tmod]
  exact ⟨Int.lt_tmod_of_pos _ (by omega), Int.tmod_lt_of_pos _ (by omega)⟩
theorem cutC0 {n : Int} {t : Ty} {c : Int} (hc : c ≠ 0) : cutC n t c = 0 ↔ InB n t := by
  unfold cutC
  split <;> simp_all
theorem cutC_or (n : Int) (t : Ty) (c : Int) : cutC n t c = 0 ∨ cutC n t c = c := by
  unfold cutC
  split <;> simp
theorem e0_nil : e0.toList = [] := by kernel_rfl
theorem bnd_pos {t : Ty} (h : Valid t) : 0 < bnd t := by have := bnd_range h; omega
theorem rty_k (op : Int) (a b : Ty) : (rty op a b).k = a.k := rfl
theorem rty_p (op : Int) (a b : Ty) : (rty op a b).p = min (most a.k) (resD op a b) := rfl
theorem resQ_max {op : Int} {a b : Ty} (ha : Valid a) (hb : Valid b) (hk : a.k = b.k) (h : op = 6 ∨ op = 7 ∨ op = 10 ∨ op = 12 ∨ op = 13) : resQ op a b = max a.q b.q := by
  grind [resQ, Valid]
theorem rty_ok {op : Int} {a b : Ty} (ha : Valid a) (hb : Valid b) (hk : a.k = b.k) (h : 5 ≤ op ∧ op ≤ 13) : Valid (rty op a b) := by
  have h2 : e0.toList = [] := e0_nil
  refine ⟨ha.1, ?_, ?_, ?_, ?_, ?_, rfl, h2⟩
  · simp only [rty_p]; grind [resD, most, Valid]
  · simp only [rty_p, rty_k]; omega
  · simp only [rty_q]; grind [resQ, most, Valid]
  · simp only [rty_p, rty_q]; grind [resQ, resD, most, Valid]
  · simp only [rty_q, rty_k]; grind [resQ]

/-- a number of a type, in units of a finer place. -/
theorem bnd_scl {t : Ty} {q : Int} (hv : Valid t) (hq : t.q ≤ q) (hk : t.k = 2 → q = 0) : bnd t * pw 10 (q - t.q) = pw (base t.k) (t.p - t.q + q) := by
  have r := valid_r hv
  unfold bnd
  rcases hv.1 with h | h
  · rw [h, show base 1 = 10 by rfl, ← pw_add 10 (by omega) (by omega)]
    congr 1; omega
  · have := hk h
    have h0 : t.q = 0 := hv.2.2.2.2.2.1 h
    rw [this, h0, show (0 : Int) - 0 = 0 by rfl, pw_0, Int.mul_one]
    congr 1; omega
theorem scl_lt {n : Int} {t : Ty} {q : Int} (hv : Valid t) (hn : -bnd t < n ∧ n < bnd t) (hq : t.q ≤ q) (hk : t.k = 2 → q = 0) : scl n (q - t.q) = n * pw 10 (q - t.q) ∧ -pw (base t.k) (t.p - t.q + q) < scl n (q - t.q) ∧ scl n (q - t.q) < pw (base t.k) (t.p - t.q + q) := by
  have e := scl_up (n := n) (d := q - t.q) (by omega)
  have p := pw_pos (b := 10) (by omega) (q - t.q)
  rw [e, ← bnd_scl hv hq hk, ← Int.neg_mul]
  exact ⟨rfl, Int.mul_lt_mul_of_pos_right hn.1 (by omega), Int.mul_lt_mul_of_pos_right hn.2 (by omega)⟩
theorem pw_mono {k n m : Int} (h : n ≤ m) : pw (base k) n ≤ pw (base k) m := pw_le (by have := base_2 k; omega) h
theorem maxq_k {a b : Ty} (ha : Valid a) (hb : Valid b) (hk : a.k = b.k) : a.k = 2 → max a.q b.q = 0 := by
  intro h
  have h1 : a.q = 0 := ha.2.2.2.2.2.1 h
  have h2 : b.q = 0 := hb.2.2.2.2.2.1 (by omega)
  omega
abbrev wholeD (a b : Ty) : Int := max (a.p - a.q) (b.p - b.q) + max a.q b.q
/-- Both operands in units of the finer place. -/
theorem both_rng {x y : Int} {a b : Ty} (ha : Valid a) (hb : Valid b) (hk : a.k = b.k) (hx : -bnd a < x ∧ x < bnd a) (hy : -bnd b < y ∧ y < bnd b) :
    (scl x (max a.q b.q - a.q) = x * pw 10 (max a.q b.q - a.q) ∧ -pw (base a.k) (wholeD a b) < scl x (max a.q b.q - a.q) ∧ scl x (max a.q b.q - a.q) < pw (base a.k) (wholeD a b)) ∧
    (scl y (max a.q b.q - b.q) = y * pw 10 (max a.q b.q - b.q) ∧ -pw (base a.k) (b.p - b.q + max a.q b.q) < scl y (max a.q b.q - b.q) ∧ scl y (max a.q b.q - b.q) < pw (base a.k) (b.p - b.q + max a.q b.q) ∧
      pw (base a.k) (b.p - b.q + max a.q b.q) ≤ pw (base a.k) (wholeD a b)) := by
  have h1 := scl_lt ha hx (show a.q ≤ max a.q b.q by omega) (maxq_k ha hb hk)
  have h2 := scl_lt hb hy (show b.q ≤ max a.q b.q by omega) (fun h => maxq_k ha hb hk (by omega))
  have m1 := pw_mono (k := a.k) (show a.p - a.q + max a.q b.q ≤ wholeD a b by unfold wholeD; omega)
  have m2 := pw_mono (k := a.k) (show b.p - b.q + max a.q b.q ≤ wholeD a b by unfold wholeD; omega)
  rw [← hk] at h2
  exact ⟨⟨h1.1, by omega, by omega⟩, h2.1, by omega, by omega, m2⟩
/-- If the result has fewer digits than the most, it fits. -/
theorem res_in {op x y : Int} {a b : Ty} (ha : Valid a) (hb : Valid b) (hk : a.k = b.k) (hx : -bnd a < x ∧ x < bnd a) (hy : -bnd b < y ∧ y < bnd b) (h : op = 6 ∨ op = 7 ∨ op = 12 ∨ op = 13)
    (hp : resD op a b ≤ most a.k) : InB (opN op x a y b) (rty op a b) := by
  obtain ⟨⟨_, h1, h2⟩, _, h3, h4, h5⟩ := both_rng ha hb hk hx hy
  have hbd : bnd (rty op a b) = pw (base a.k) (resD op a b) := by
    unfold bnd
    rw [rty_p, rty_k, Int.min_eq_right hp]
  have hw : 1 ≤ wholeD a b := by have := valid_r ha; have := valid_r hb; unfold wholeD; omega
  have hs := pw_succ (base a.k) (show 0 ≤ wholeD a b by omega)
  have hb2 := base_2 a.k
  have hpp := pw_pos (b := base a.k) (by omega) (wholeD a b)
  have hm : 2 * pw (base a.k) (wholeD a b) ≤ pw (base a.k) (wholeD a b + 1) := by
    rw [hs, Int.mul_comm]
    exact Int.mul_le_mul_of_nonneg_left hb2 (by omega)
  unfold InB
  rw [hbd]
  have e6 : resD 6 a b = wholeD a b + 1 := by show 1 + _ + _ = _; unfold wholeD; omega
  have e7 : resD 7 a b = wholeD a b + 1 := by show 1 + _ + _ = _; unfold wholeD; omega
  have e12 : resD 12 a b = wholeD a b := rfl
  have e13 : resD 13 a b = wholeD a b := rfl
  rcases h with rfl | rfl | rfl | rfl
  · have e : opN 6 x a y b = scl x (max a.q b.q - a.q) + scl y (max a.q b.q - b.q) := rfl
    rw [e, e6]; omega
  · have e : opN 7 x a y b = scl x (max a.q b.q - a.q) - scl y (max a.q b.q - b.q) := rfl
    rw [e, e7]; omega
  · have e : opN 12 x a y b = min (scl x (max a.q b.q - a.q)) (scl y (max a.q b.q - b.q)) := rfl
    rw [e, e12]; omega
  · have e : opN 13 x a y b = max (scl x (max a.q b.q - a.q)) (scl y (max a.q b.q - b.q)) := rfl
    rw [e, e13]; omega
end Go.Fx
