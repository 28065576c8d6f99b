/-
  Totals, in plain numbers.
-/
import Derived.Test.YthaedhabookjeaaFx38
set_option linter.unusedVariables false
set_option linter.unusedSimpArgs false
namespace Go.Fx
open Go Go.Ab Go.Proofs

def sumV : List Vl → Int
  | [] => 0
  | v :: r => v.n + sumV r
theorem sumV_append : ∀ a b : List Vl, sumV (a ++ b) = sumV a + sumV b
  | [], b => by simp [sumV]
  | v :: r, b => by simp only [List.cons_append, sumV, sumV_append r b]; omega
theorem sumV_perm {a b : List Vl} (h : a.Perm b) : sumV a = sumV b := by
  induction h with
  | nil => rfl
  | cons x _ ih => simp only [sumV, ih]
  | swap x y l => simp only [sumV]; omega
  | trans _ _ h1 h2 => exact h1.trans h2
def AllGd (t : Ty) (l : List Vl) : Prop := ∀ v ∈ l, Gd v t
theorem AllGd.perm {t : Ty} {a b : List Vl} (h : AllGd t a) (hp : b.Perm a) : AllGd t b := fun v hv => h v (hp.mem_iff.1 hv)
theorem sumGo_gd {t : Ty} : ∀ (l : List Vl) (s i : Int), AllGd t l → (sumGo t l s i).1 = 0 ∧ (sumGo t l s i).2.1 = s + sumV l
  | [], s, i, _ => by simp [sumGo, sumV]
  | v :: r, s, i, h => by
    have hv : fits v t = 0 := gd_iff.2 (h v (by simp))
    rw [sumGo, if_neg (by simp [hv])]
    obtain ⟨h1, h2⟩ := sumGo_gd r (s + v.n) (i + 1) fun u hu => h u (by simp [hu])
    exact ⟨h1, by rw [h2, sumV]; omega⟩
theorem su_gd {t : Ty} {l : List Vl} (ht : Valid t) (h : AllGd t l) : suE l t = 0 ∧ suN l t = cutN (sumV l) (totT t) ∧ suC l t = cutC (sumV l) (totT t) 2 := by
  obtain ⟨h1, h2⟩ := sumGo_gd l 0 0 h
  have h0 := check0.2 ht
  have hE : suE l t = 0 := by rw [suE, if_neg (by simp [h0]), h1]
  refine ⟨hE, ?_, ?_⟩
  · rw [suN, if_neg (by simp [hE]), h2, Int.zero_add]
  · rw [suC, if_neg (by simp [hE]), h2, Int.zero_add]
theorem fbad_gd {t : Ty} : ∀ (l : List Vl) (i : Int), 0 ≤ i → fbad t l i = -1 → AllGd t l
  | [], _, _, _ => fun v hv => by cases hv
  | u :: r, i, h0, h => by
    unfold fbad at h
    split at h
    · omega
    · rename_i hz
      have hz : fits u t = 0 := by simpa using hz
      intro v hv
      rcases List.mem_cons.1 hv with rfl | hv
      · exact gd_iff.1 hz
      · exact fbad_gd r (i + 1) (by omega) h v hv
theorem fbad_pos {t : Ty} : ∀ (l : List Vl) (i : Int), 0 ≤ i → fbad t l i ≠ -1 → 0 ≤ fbad t l i
  | [], _, _, h => absurd rfl h
  | u :: r, i, h0, h => by
    unfold fbad at h ⊢
    split
    · exact h0
    · rename_i hz
      rw [if_neg hz] at h
      exact fbad_pos r (i + 1) (by omega) h
theorem totT_v {t : Ty} (h : Valid t) : totT t = ⟨t.k, most t.k, t.q, false, e0⟩ := if_pos h
theorem bnd_tot {t : Ty} (h : Valid t) : bnd (totT t) = pw (base t.k) (most t.k) := by rw [totT_v h]; rfl
theorem su_fits {t : Ty} {n : Int} (h : Valid t) : fits ⟨cutN n (totT t), e0⟩ (totT t) = 0 := by
  have hv := totT_ok h
  obtain ⟨h1, h2⟩ := cutN_inb (n := n) hv
  exact gd_iff.2 ⟨hv, e0_nil, h1, h2⟩
theorem cutN_q (n : Int) (t : Ty) : ∃ q, cutN n t = n - bnd t * q := by
  unfold cutN
  split
  · exact ⟨0, by simp⟩
  · exact ⟨n.tdiv (bnd t), by have := Int.mul_tdiv_add_tmod n (bnd t); omega⟩
theorem cut_mod {t : Ty} {a b : Int} : (cutN a t + cutN b t - cutN (a + b) t).tmod (bnd t) = 0 := by
  obtain ⟨x, hx⟩ := cutN_q a t
  obtain ⟨y, hy⟩ := cutN_q b t
  obtain ⟨z, hz⟩ := cutN_q (a + b) t
  have e : cutN a t + cutN b t - cutN (a + b) t = bnd t * (z - x - y) := by
    rw [hx, hy, hz, Int.mul_sub, Int.mul_sub]; omega
  rw [e, Int.mul_tmod_right]
theorem rty_tot {t : Ty} (h : Valid t) : rty 6 (totT t) t = totT t := by
  have hq := most_q h
  have hp : t.p ≤ most t.k := h.2.2.1
  rw [totT_v h]
  simp only [rty, resD, resQ]
  rcases hq with ⟨k, m⟩ | ⟨k, m, q⟩
  · simp only [k, Ty.mk.injEq]
    simp
    simp only [k] at m hp
    omega
  · simp only [k, q, Ty.mk.injEq]
    simp
    simp only [k] at m hp
    omega
theorem add_step {t : Ty} {v : Vl} {s : Int} (ht : Valid t) (hs : Gd ⟨s, e0⟩ (totT t)) (hv : Gd v t) (hc : doC 6 ⟨s, e0⟩ (totT t) v t = 0) :
    doN 6 ⟨s, e0⟩ (totT t) v t = s + v.n ∧ Gd ⟨doN 6 ⟨s, e0⟩ (totT t) v t, e0⟩ (totT t) := by
  have hk : (totT t).k = t.k := by rw [totT_v ht]
  have hq : (totT t).q = t.q := by rw [totT_v ht]
  obtain ⟨_, _, _, _, h5, _, _⟩ := do_lin (op := 6) (by omega) hs hv hk
  rw [rty_tot ht] at h5
  refine ⟨?_, h5⟩
  rw [do_lin0 (by omega) hs hv hk hc]
  simp [opN, exN, hq, scl, pw_0]
theorem addGo_gd {t : Ty} (ht : Valid t) : ∀ (l : List Vl) (s i : Int), AllGd t l → Gd ⟨s, e0⟩ (totT t) → (addGo (totT t) t l s i).1 = true →
    (addGo (totT t) t l s i).2.1 = s + sumV l ∧ InB (s + sumV l) (totT t)
  | [], s, i, _, hs, _ => by
    simp only [addGo, sumV, Int.add_zero, true_and]
    exact hs.2.2
  | v :: r, s, i, h, hs, ha => by
    unfold addGo at ha ⊢
    split at ha
    · cases ha
    · rename_i hz
      rw [if_neg hz]
      have hc : doC 6 ⟨s, e0⟩ (totT t) v t = 0 := by
        cases Decidable.em (doC 6 ⟨s, e0⟩ (totT t) v t = 0) with
        | inl h => exact h
        | inr h => exact absurd (.inr h) hz
      obtain ⟨h1, h2⟩ := add_step ht hs (h v (by simp)) hc
      rw [h1] at ha h2 ⊢
      obtain ⟨q1, q2⟩ := addGo_gd ht r (s + v.n) (i + 1) (fun u hu => h u (by simp [hu])) h2 ha
      rw [sumV, ← Int.add_assoc]
      exact ⟨q1, q2⟩
theorem gd_zero {t : Ty} (ht : Valid t) : Gd ⟨0, e0⟩ (totT t) := by
  have b := bnd_pos (totT_ok ht)
  exact ⟨totT_ok ht, e0_nil, by simp only; omega, by simp only; omega⟩
/-- The end of the law: one value after the other. -/
theorem add_law {t : Ty} {l : List Vl} (ht : Valid t) (h : AllGd t l) (ha : (addGo (totT t) t l 0 0).1 = true) : cutC (sumV l) (totT t) 2 = 0 ∧ (addGo (totT t) t l 0 0).2.1 = cutN (sumV l) (totT t) := by
  obtain ⟨h1, h2⟩ := addGo_gd ht l 0 0 h (gd_zero ht) ha
  rw [Int.zero_add] at h1 h2
  exact ⟨(cutC0 (by decide)).2 h2, by rw [h1, cutN_in h2]⟩

/-! ### Cells -/
theorem vlsN_app : ∀ (n m : Nat) (a b : List Value) (l k : List Vl), vlsN n a = some l → a.length = 2 * n → vlsN m b = some k → vlsN (n + m) (a ++ b) = some (l ++ k)
  | 0, m, a, b, l, k, h, ha, hb => by
    simp only [vlsN, Option.some.injEq] at h
    subst h
    have : a = [] := List.eq_nil_of_length_eq_zero (by omega)
    subst this
    simpa using hb
  | n + 1, m, a, b, l, k, h, ha, hb => by
    unfold vlsN at h
    split at h
    · rename_i hm; cases hm
    · rename_i q x s r hm
      cases hm
      split at h
      · rename_i l' hl
        cases h
        have ih := vlsN_app n m r b l' k hl (by simp only [List.length_cons] at ha; omega) hb
        rw [show n + 1 + m = (n + m) + 1 by omega]
        simp only [List.cons_append, vlsN, ih]
      · cases h
    · cases h
theorem vlsN_pre : ∀ (n : Nat) (a b : List Value) (l : List Vl), vlsN n a = some l → vlsN n (a ++ b) = some l
  | 0, a, b, l, h => h
  | n + 1, a, b, l, h => by
    unfold vlsN at h
    split at h
    · rename_i hm; cases hm
    · rename_i q x s r hm
      cases hm
      split at h
      · rename_i l' hl
        cases h
        simp only [List.cons_append, vlsN, vlsN_pre n r b l' hl]
      · cases h
    · cases h
theorem vlsN_take : ∀ (n m : Nat) (a : List Value) (l : List Vl), vlsN n a = some l → m ≤ n → vlsN m (a.take (m * 2)) = some (l.take m)
  | n, 0, a, l, h, hm => by simp [vlsN]
  | 0, m + 1, a, l, h, hm => by omega
  | n + 1, m + 1, a, l, h, hm => by
    unfold vlsN at h
    split at h
    · rename_i hm; cases hm
    · rename_i q x s r hq
      cases hq
      split at h
      · rename_i l' hl
        cases h
        rw [show (m + 1) * 2 = m * 2 + 1 + 1 by omega]
        simp only [List.take_succ_cons, vlsN, vlsN_take n m r l' hl (by omega)]
      · cases h
    · cases h
theorem vlsN_drop : ∀ (n m : Nat) (a : List Value) (l : List Vl), vlsN n a = some l → m ≤ n → vlsN (n - m) (a.drop (m * 2)) = some (l.drop m)
  | n, 0, a, l, h, hm => by simpa using h
  | 0, m + 1, a, l, h, hm => by omega
  | n + 1, m + 1, a, l, h, hm => by
    unfold vlsN at h
    split at h
    · rename_i hm; cases hm
    · rename_i q x s r hq
      cases hq
      split at h
      · rename_i l' hl
        cases h
        rw [show (m + 1) * 2 = m * 2 + 1 + 1 by omega, show n + 1 - (m + 1) = n - m by omega]
        simpa only [List.drop_succ_cons] using vlsN_drop n m r l' hl (by omega)
      · cases h
    · cases h
theorem vlsN_cell : ∀ (n : Nat) (a : List Value) (l : List Vl), vlsN n a = some l → (a.take (n * 2)).all cellOk = true
  | 0, a, l, h => by simp
  | n + 1, a, l, h => by
    unfold vlsN at h
    split at h
    · rename_i hm; cases hm
    · rename_i q x s r hq
      cases hq
      split at h
      · rename_i l' hl
        rw [show (n + 1) * 2 = n * 2 + 1 + 1 by omega]
        simp only [List.take_succ_cons, List.all_cons, vlsN_cell n r l' hl]
        rfl
      · cases h
    · cases h
end Go.Fx
