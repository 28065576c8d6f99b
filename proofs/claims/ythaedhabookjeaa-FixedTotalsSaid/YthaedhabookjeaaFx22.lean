/-
  Assigning and rounding, plainly.
-/
import Derived.Test.YthaedhabookjeaaFx20
set_option linter.unusedVariables false
set_option linter.unusedSimpArgs false
namespace Go.Fx
open Go Go.Ab Go.Proofs

theorem as_ok {v : Vl} {f t : Ty} (hv : Gd v f) (ht : Valid t) : asE v f t = 0 ∧ asN v f t = cutN (scl v.n (t.q - f.q)) t ∧ asC v f t = cutC (scl v.n (t.q - f.q)) t 1 := by
  have h : asE v f t = 0 := by simp [asE, gd_iff.2 hv, check0.2 ht]
  exact ⟨h, by simp [asN, h], by simp [asC, h]⟩
theorem as_gd {v : Vl} {f t : Ty} (hv : Gd v f) (ht : Valid t) : Gd ⟨asN v f t, e0⟩ t := by
  rw [(as_ok hv ht).2.1]
  exact gd_mk ht (cutN_inb ht)
theorem as_in {v : Vl} {f t : Ty} (hv : Gd v f) (ht : Valid t) (h : InB (scl v.n (t.q - f.q)) t) : asE v f t = 0 ∧ asC v f t = 0 ∧ asN v f t = scl v.n (t.q - f.q) := by
  obtain ⟨h1, h2, h3⟩ := as_ok hv ht
  exact ⟨h1, by rw [h3]; exact (cutC0 (by decide)).2 h, by rw [h2, cutN_in h]⟩
theorem tdiv_small (n : Int) {u : Int} (hu : 1 ≤ u) {m : Int} (h : -m < n ∧ n < m) : -m < n.tdiv u ∧ n.tdiv u < m := by
  have := tdiv_rng (x := n) (y := u) (A := m - 1) (by omega)
  omega
theorem scl_mono {n m : Int} (h : n ≤ m) (d : Int) : scl n d ≤ scl m d := by
  unfold scl
  split
  · exact Int.mul_le_mul_of_nonneg_right h (by have := pw_pos (b := 10) (by omega) d; omega)
  · have := pw_pos (b := 10) (by omega) (-d)
    have a := tdiv_mul n this
    have b := tdiv_mul m this
    generalize pw 10 (-d) = u at *
    generalize n.tdiv u = x at *
    generalize m.tdiv u = y at *
    rcases Int.lt_or_le y x with hlt | hge
    · have h1 : (y + 1) * u ≤ x * u := Int.mul_le_mul_of_nonneg_right (by omega) (by omega)
      rw [Int.add_mul, Int.one_mul] at h1
      rcases Int.le_total 0 n with hn | hn
      · have a1 := a.1 hn; have b1 := b.1 (by omega); omega
      · have a2 := a.2 hn
        rcases Int.le_total 0 m with hm | hm
        · have b1 := b.1 hm
          have hx : x ≤ 0 := by
            rcases Int.lt_or_le 0 x with hx | hx
            · have : 1 * u ≤ x * u := Int.mul_le_mul_of_nonneg_right (by omega) (by omega)
              omega
            · exact hx
          have hy : 0 ≤ y := by
            rcases Int.lt_or_le y 0 with hy | hy
            · have : y * u ≤ (-1) * u := Int.mul_le_mul_of_nonneg_right (by omega) (by omega)
              omega
            · exact hy
          omega
        · have b2 := b.2 hm; omega
    · exact hge
theorem scl_scl {n d e : Int} (hd : 0 ≤ d) : scl (scl n d) e = scl n (d + e) := by
  rw [scl_up hd]
  rcases Int.le_total 0 e with he | he
  · rw [scl_up he, scl_up (by omega), pw_add 10 hd he, Int.mul_assoc]
  · rw [scl_dn he]
    rcases Int.le_total 0 (d + e) with hde | hde
    · have : pw 10 d = pw 10 (d + e) * pw 10 (-e) := by rw [← pw_add 10 hde (by omega)]; congr 1; omega
      rw [this, ← Int.mul_assoc, scl_up hde, Int.mul_tdiv_cancel _ (by have := pw_pos (b := 10) (by omega) (-e); omega)]
    · have : pw 10 (-e) = pw 10 (-(d + e)) * pw 10 d := by rw [← pw_add 10 (by omega) hd]; congr 1; omega
      rw [this, scl_dn hde, Int.mul_tdiv_mul_of_pos_left _ _ (by have := pw_pos (b := 10) (by omega) d; omega)]

/-! ### Binary types -/
theorem binT_valid {t : Ty} (h : Valid t) : Valid (binT t) ∧ (binT t).k = 2 ∧ (binT t).q = 0 ∧ (t.k = 2 → binT t = t) := by
  rw [binT, if_pos h]
  rcases h.1 with k | k
  · rw [if_neg (by omega)]
    refine ⟨⟨.inr rfl, ?_, ?_, ?_, ?_, fun _ => rfl, rfl, e0_nil⟩, rfl, rfl, fun h' => by omega⟩
    all_goals (have := valid_r h; have := most_q h; have : t.p ≤ most t.k := h.2.2.1; try simp only [most, show ¬ ((2 : Int) = 1) by decide, if_false]; try omega)
  · rw [if_pos k]
    exact ⟨h, k, h.2.2.2.2.2.1 k, fun _ => rfl⟩
theorem bin_pow : ∀ p : Nat, p < 10 → pw 10 p ≤ pw 2 (1 + ((p : Int) * 332 + 99) / 100) := by decide
theorem bin_in {n : Int} {t : Ty} (h : Valid t) (hn : -bnd t < n ∧ n < bnd t) : InB n (binT t) := by
  obtain ⟨hv, hk, hq, h2⟩ := binT_valid h
  rcases h.1 with k | k
  · have r := valid_r h
    have m := most_q h
    have hp : t.p ≤ most t.k := h.2.2.1
    have hb : bnd t ≤ bnd (binT t) := by
      have := bin_pow t.p.toNat (by omega)
      unfold bnd
      rw [hk, k, show (binT t).p = 1 + (t.p * 332 + 99) / 100 by rw [binT, if_pos h, if_neg (by omega)]]
      rw [show ((t.p.toNat : Nat) : Int) = t.p by omega] at this
      exact this
    exact ⟨by omega, by omega⟩
  · rw [h2 k]; exact hn
theorem bases {v : Vl} {t : Ty} (h : Gd v t) : asE v t (binT t) = 0 ∧ asC v t (binT t) = 0 ∧ asN v t (binT t) = IntKind.i64.wrap (v.n.tdiv (pw 10 t.q)) ∧
    asE ⟨asN v t (binT t), e0⟩ (binT t) t = 0 ∧ asC ⟨asN v t (binT t), e0⟩ (binT t) t = 0 ∧ asN ⟨asN v t (binT t), e0⟩ (binT t) t = IntKind.i64.wrap (v.n - v.n.tmod (pw 10 t.q)) := by
  obtain ⟨hv, hk, hq, h2⟩ := binT_valid h.1
  have r := valid_r h.1
  have hn := gd_rng h
  have hb := bnd_range h.1
  have p1 := pw_pos (b := 10) (by omega) t.q
  have e : scl v.n ((binT t).q - t.q) = v.n.tdiv (pw 10 t.q) := by rw [hq, scl_dn (by omega)]; congr 2; omega
  have hs := tdiv_small v.n p1 hn
  obtain ⟨a1, a2, a3⟩ := as_in h hv (by rw [e]; exact bin_in h.1 hs)
  rw [e] at a3
  have g := as_gd h hv
  have e2 : scl (asN v t (binT t)) (t.q - (binT t).q) = v.n - v.n.tmod (pw 10 t.q) := by
    rw [hq, a3, scl_up (by omega), show t.q - 0 = t.q by omega]
    have := Int.mul_tdiv_add_tmod v.n (pw 10 t.q)
    rw [Int.mul_comm]; omega
  have d := tdiv_mul v.n p1
  have m1 := Int.mul_tdiv_add_tmod v.n (pw 10 t.q)
  rw [Int.mul_comm] at m1
  have hr : -bnd t < v.n - v.n.tmod (pw 10 t.q) ∧ v.n - v.n.tmod (pw 10 t.q) < bnd t := by
    rcases Int.le_total 0 v.n with h0 | h0
    · have q0 := Int.tdiv_nonneg h0 (show 0 ≤ pw 10 t.q by omega)
      have q1 : 0 ≤ v.n.tdiv (pw 10 t.q) * pw 10 t.q := Int.mul_nonneg q0 (by omega)
      have := d.1 h0; omega
    · have q0 : 0 ≤ (-v.n).tdiv (pw 10 t.q) := Int.tdiv_nonneg (by omega) (show 0 ≤ pw 10 t.q by omega)
      have q1 : 0 ≤ (-v.n).tdiv (pw 10 t.q) * pw 10 t.q := Int.mul_nonneg q0 (by omega)
      rw [Int.neg_tdiv, Int.neg_mul] at q1
      have := d.2 h0; omega
  obtain ⟨b1, b2, b3⟩ := as_in g h.1 (by show InB (scl (asN v t (binT t)) _) t; rw [e2]; exact hr)
  refine ⟨a1, a2, by rw [a3, w64 (by omega)], b1, b2, ?_⟩
  rw [b3]
  show scl (asN v t (binT t)) _ = _
  rw [e2, w64 (by omega)]
/-! ### Assigning -/
theorem as_same {v : Vl} {t : Ty} (h : Gd v t) : asE v t t = 0 ∧ asC v t t = 0 ∧ asN v t t = v.n := by
  have e : scl v.n (t.q - t.q) = v.n := by rw [Int.sub_self, scl0]
  have := as_in h h.1 (by rw [e]; exact gd_rng h)
  rw [e] at this
  exact this
theorem as_mono {a b : Vl} {t o : Ty} (ha : Gd a t) (hb : Gd b t) (ho : Valid o) (h1 : asC a t o = 0) (h2 : asC b t o = 0) (h : a.n ≤ b.n) : asN a t o ≤ asN b t o := by
  obtain ⟨_, a2, a3⟩ := as_ok ha ho
  obtain ⟨_, b2, b3⟩ := as_ok hb ho
  rw [a3, cutC0 (by decide)] at h1
  rw [b3, cutC0 (by decide)] at h2
  rw [a2, b2, cutN_in h1, cutN_in h2]
  exact scl_mono h _
theorem as_C {v : Vl} {f t : Ty} (hv : Gd v f) (ht : Valid t) : asC v f t = 0 ∨ asC v f t = 1 := by
  rw [(as_ok hv ht).2.2]
  exact cutC_or _ _ _
theorem as_wide {v : Vl} {t u : Ty} (h : Gd v t) (hu : Valid u) (hk : u.k = t.k) (hq : t.q ≤ u.q) (hp : t.p - t.q ≤ u.p - u.q) : asE v t u = 0 ∧ asC v t u = 0 ∧ asN v t u = scl v.n (u.q - t.q) := by
  refine as_in h hu ?_
  have b := scl_lt h.1 (gd_rng h) hq (fun h' => hu.2.2.2.2.2.1 (by omega))
  have m := pw_mono (k := t.k) (show t.p - t.q + u.q ≤ u.p by omega)
  have e : bnd u = pw (base t.k) u.p := by rw [bnd, hk]
  exact ⟨by omega, by omega⟩
theorem as_by {v : Vl} {t u o : Ty} (h : Gd v t) (hu : Valid u) (ho : Valid o) (hk : u.k = t.k) (hq : t.q ≤ u.q) (hp : t.p - t.q ≤ u.p - u.q) :
    asE ⟨asN v t u, e0⟩ u o = 0 ∧ asN ⟨asN v t u, e0⟩ u o = asN v t o ∧ asC ⟨asN v t u, e0⟩ u o = asC v t o := by
  have g := as_gd h hu
  obtain ⟨_, _, w⟩ := as_wide h hu hk hq hp
  obtain ⟨a1, a2, a3⟩ := as_ok g ho
  obtain ⟨_, b2, b3⟩ := as_ok h ho
  have e : scl (asN v t u) (o.q - u.q) = scl v.n (o.q - t.q) := by rw [w, scl_scl (by omega)]; congr 1; omega
  exact ⟨a1, by rw [a2, b2]; show cutN (scl (asN v t u) _) o = _; rw [e], by rw [a3, b3]; show cutC (scl (asN v t u) _) o 1 = _; rw [e]⟩
end Go.Fx
