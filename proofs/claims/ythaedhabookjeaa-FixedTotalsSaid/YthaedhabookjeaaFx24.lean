/-
  Rounding, plainly.
-/
import Derived.Test.YthaedhabookjeaaFx22
set_option linter.unusedVariables false
set_option linter.unusedSimpArgs false
namespace Go.Fx
open Go Go.Ab Go.Proofs

theorem mul_lt_cancel {x y u : Int} (hu : 1 ≤ u) (h : x * u < y * u) : x < y := Int.lt_of_mul_lt_mul_right h (by omega)
theorem mul_le_cancel {x y u : Int} (hu : 1 ≤ u) (h : x * u ≤ y * u) : x ≤ y := Int.le_of_mul_le_mul_right h (by omega)
theorem flr_pr (n : Int) {u : Int} (hu : 1 ≤ u) : flr n u * u ≤ n ∧ n < flr n u * u + u := by
  have h := tdiv_mul n hu
  rw [flr_tdiv n hu]
  split
  · rename_i hg
    rw [Int.sub_mul, Int.one_mul]
    rcases Int.le_total 0 n with h0 | h0
    · have := h.1 h0; omega
    · have := h.2 h0; omega
  · rcases Int.le_total 0 n with h0 | h0
    · have := h.1 h0; omega
    · have := h.2 h0; omega
theorem cei_pr (n : Int) {u : Int} (hu : 1 ≤ u) : n ≤ cei n u * u ∧ cei n u * u < n + u := by
  have h := tdiv_mul n hu
  rw [cei_tdiv n hu]
  split
  · rename_i hg
    rw [Int.add_mul, Int.one_mul]
    rcases Int.le_total 0 n with h0 | h0
    · have := h.1 h0; omega
    · have := h.2 h0; omega
  · rcases Int.le_total 0 n with h0 | h0
    · have := h.1 h0; omega
    · have := h.2 h0; omega
theorem flr_neg (n u : Int) (hu : 1 ≤ u) : flr (-n) u = -cei n u := by
  have a := flr_pr (-n) hu
  have b := cei_pr n hu
  have e : (flr (-n) u + cei n u) * u = flr (-n) u * u + cei n u * u := Int.add_mul ..
  have := sq_lt (u := u) (x := flr (-n) u + cei n u) hu (by omega) (by omega)
  omega
theorem rnd_neg (n u : Int) (hu : 1 ≤ u) : rnd (-n) u = -rnd n u := by
  unfold rnd
  split
  · split
    · omega
    · rw [← Int.neg_tdiv]; congr 1; omega
  · split
    · rw [← Int.neg_tdiv]; congr 1; omega
    · have : n = 0 := by omega
      subst this
      have h : (u / 2).tdiv u = 0 := by
        rw [Int.tdiv_eq_ediv_of_nonneg (by omega)]; exact Int.ediv_eq_zero_of_lt (by omega) (by omega)
      simp [h]
theorem rnd_pos {n u : Int} (hu : 1 ≤ u) (hn : 0 ≤ n) : 0 ≤ rnd n u ∧ rnd n u * u ≤ n + u / 2 ∧ n + u / 2 < rnd n u * u + u := by
  rw [rnd, if_neg (by omega)]
  have h := (tdiv_mul (n + u / 2) hu).1 (by omega)
  exact ⟨Int.tdiv_nonneg (by omega) (by omega), by omega, by omega⟩
theorem rnd_pr (n : Int) {u : Int} (hu : 1 ≤ u) (h2 : u = 1 ∨ 2 * (u / 2) = u) :
    2 * (max (rnd n u * u) (-(rnd n u * u)) - max n (-n)) ≤ u ∧ -2 * (max (rnd n u * u) (-(rnd n u * u)) - max n (-n)) < u ∧ (rnd n u = 0 ∨ (rnd n u < 0 ↔ n < 0)) := by
  have key : ∀ m : Int, 0 ≤ m → 2 * (rnd m u * u - m) ≤ u ∧ -2 * (rnd m u * u - m) < u ∧ 0 ≤ rnd m u ∧ 0 ≤ rnd m u * u := fun m hm => by
    have h := rnd_pos hu hm
    have h0 : 0 ≤ rnd m u * u := Int.mul_nonneg h.1 (by omega)
    rcases h2 with rfl | h2
    · rw [Int.mul_one] at *; omega
    · omega
  rcases Int.lt_or_le n 0 with hn | hn
  · have k := key (-n) (by omega)
    rw [rnd_neg n u hu, Int.neg_mul] at k
    omega
  · have := key n hn; omega
theorem pw_even {j : Int} (h : 0 ≤ j) : pw 10 j = 1 ∨ 2 * (pw 10 j / 2) = pw 10 j := by
  rcases Int.lt_or_le 0 j with h1 | h1
  · right
    have := pw_succ 10 (show 0 ≤ j - 1 by omega)
    rw [show j - 1 + 1 = j by omega] at this
    omega
  · left; exact pw_zero 10 h1
theorem whT_ok {t : Ty} (h : Valid t) : Valid (whT t) ∧ bnd (whT t) = pw (base t.k) (min (most t.k) (t.p - t.q + 1)) := by
  have r := valid_r h
  have m := most_r t.k
  rw [whT, if_pos h]
  exact ⟨⟨h.1, by simp only; omega, by simp only; omega, by simp only; omega, by simp only; omega, fun _ => rfl, rfl, e0_nil⟩, rfl⟩
theorem bnd_split {t : Ty} {j : Int} (h : Valid t) (hj : 0 ≤ j ∧ j ≤ t.q) : bnd t = pw (base t.k) (t.p - j) * pw 10 j := by
  have r := valid_r h
  unfold bnd
  rcases h.1 with k | k
  · rw [k, show base 1 = 10 by rfl, ← pw_add 10 (by omega) (by omega)]; congr 1; omega
  · have : t.q = 0 := h.2.2.2.2.2.1 k
    rw [show j = 0 by omega, pw_0, Int.mul_one]; congr 1; omega
theorem whole_in {n x : Int} {t : Ty} (h : Valid t) (hn : -bnd t < n ∧ n < bnd t) (hx : n < x * pw 10 t.q + pw 10 t.q ∧ x * pw 10 t.q < n + pw 10 t.q) : Gd ⟨x, e0⟩ (whT t) := by
  have r := valid_r h
  obtain ⟨hv, hb⟩ := whT_ok h
  refine gd_mk hv ?_
  unfold InB
  rw [hb]
  have s := bnd_split h (j := t.q) (by omega)
  have p1 := pw_pos (b := 10) (by omega) t.q
  have hp : t.p ≤ most t.k := h.2.2.1
  rcases Int.lt_or_le 0 t.q with hq | hq
  · have hk : t.k = 1 := by
      rcases h.1 with k | k
      · exact k
      · have : t.q = 0 := h.2.2.2.2.2.1 k; omega
    have m9 : most t.k = 9 := by rw [hk]; rfl
    rw [show min (most t.k) (t.p - t.q + 1) = t.p - t.q + 1 by omega, pw_succ _ (by omega), hk, show base 1 = 10 by rfl]
    rw [hk, show base 1 = 10 by rfl] at s
    have pA := pw_pos (b := 10) (by omega) (t.p - t.q)
    generalize pw 10 (t.p - t.q) = A at *
    generalize pw 10 t.q = u at *
    have c1 : x * u < (A + 1) * u := by rw [Int.add_mul, Int.one_mul]; omega
    have c2 : (-(A + 1)) * u < x * u := by rw [Int.neg_mul, Int.add_mul, Int.one_mul]; omega
    have := mul_lt_cancel p1 c1
    have := mul_lt_cancel p1 c2
    omega
  · have hq0 : t.q = 0 := by omega
    rw [hq0, pw_0, Int.mul_one] at hx
    have := pw_mono (k := t.k) (show t.p ≤ min (most t.k) (t.p - t.q + 1) by omega)
    have e : bnd t = pw (base t.k) t.p := rfl
    omega
theorem rdT_ok {t : Ty} {k : Int} (h : Valid t) (hk : 0 ≤ k ∧ k ≤ t.q) : Valid (rdT t k) ∧ (rdT t k).q = k ∧ rdE t k = 0 ∧ bnd (rdT t k) = pw (base t.k) (min (most t.k) (t.p - t.q + 1 + k)) := by
  have r := valid_r h
  have m := most_q h
  have hp : t.p ≤ most t.k := h.2.2.1
  rw [rdT, rdE, if_pos h, if_pos h, if_neg (by omega), if_neg (by omega)]
  exact ⟨⟨h.1, by simp only; omega, by simp only; omega, by simp only; omega, by simp only; omega, fun h' => by have : t.q = 0 := h.2.2.2.2.2.1 h'; simp only; omega, rfl, e0_nil⟩, rfl, rfl, rfl⟩
theorem round_in {n : Int} {t : Ty} {k : Int} (h : Valid t) (hk : 0 ≤ k ∧ k ≤ t.q) (hn : -bnd t < n ∧ n < bnd t) : Gd ⟨rnd n (pw 10 (t.q - k)), e0⟩ (rdT t k) := by
  have r := valid_r h
  obtain ⟨hv, _, _, hb⟩ := rdT_ok h hk
  refine gd_mk hv ?_
  unfold InB
  rw [hb]
  have s := bnd_split h (j := t.q - k) (by omega)
  have p1 := pw_pos (b := 10) (by omega) (t.q - k)
  have hp : t.p ≤ most t.k := h.2.2.1
  have pr := rnd_pr n p1 (pw_even (by omega))
  rcases Int.lt_or_le k t.q with hq | hq
  · have hk1 : t.k = 1 := by
      rcases h.1 with k' | k'
      · exact k'
      · have : t.q = 0 := h.2.2.2.2.2.1 k'; omega
    have m9 : most t.k = 9 := by rw [hk1]; rfl
    rw [show min (most t.k) (t.p - t.q + 1 + k) = t.p - (t.q - k) + 1 by omega, pw_succ _ (by omega), hk1, show base 1 = 10 by rfl]
    rw [hk1, show base 1 = 10 by rfl] at s
    have pA := pw_pos (b := 10) (by omega) (t.p - (t.q - k))
    generalize pw 10 (t.p - (t.q - k)) = A at *
    generalize pw 10 (t.q - k) = u at *
    have c1 : rnd n u * u < (A + 1) * u := by rw [Int.add_mul, Int.one_mul]; omega
    have c2 : (-(A + 1)) * u < rnd n u * u := by rw [Int.neg_mul, Int.add_mul, Int.one_mul]; omega
    have := mul_lt_cancel p1 c1
    have := mul_lt_cancel p1 c2
    omega
  · have hq0 : t.q - k = 0 := by omega
    rw [hq0, pw_0] at pr ⊢
    rw [Int.mul_one] at pr
    have := pw_mono (k := t.k) (show t.p ≤ min (most t.k) (t.p - t.q + 1 + k) by omega)
    have e : bnd t = pw (base t.k) t.p := rfl
    omega
theorem gd_neg {v : Vl} {t : Ty} (h : Gd v t) : IntKind.i64.wrap (0 - v.n) = -v.n ∧ Gd ⟨-v.n, e0⟩ t := by
  have r := gd_rng h
  have b := bnd_range h.1
  exact ⟨by rw [w64 (by omega)]; omega, gd_mk h.1 ⟨by omega, by omega⟩⟩
/-- What the laws of rounding say. -/
structure RoundP (v : Vl) (t : Ty) : Prop where
  wf : Gd ⟨flN v t, e0⟩ (whT t)
  wc : Gd ⟨ceN v t, e0⟩ (whT t)
  f1 : IntKind.i64.wrap (flN v t * pw 10 t.q) ≤ v.n
  f2 : IntKind.i64.wrap (v.n - IntKind.i64.wrap (flN v t * pw 10 t.q)) < pw 10 t.q
  c1 : v.n ≤ IntKind.i64.wrap (ceN v t * pw 10 t.q)
  c2 : IntKind.i64.wrap (IntKind.i64.wrap (ceN v t * pw 10 t.q) - v.n) < pw 10 t.q
  tf : 0 ≤ v.n → trN v t = flN v t
  tc : v.n < 0 → trN v t = ceN v t
  nf : flN ⟨IntKind.i64.wrap (0 - v.n), e0⟩ t = IntKind.i64.wrap (0 - ceN v t)
  nt : trN ⟨IntKind.i64.wrap (0 - v.n), e0⟩ t = IntKind.i64.wrap (0 - trN v t)
  ng : fits ⟨IntKind.i64.wrap (0 - v.n), e0⟩ t = 0
theorem roundP {v : Vl} {t : Ty} (h : Gd v t) : RoundP v t := by
  have hf := gd_iff.2 h
  have r := valid_r h.1
  have hn := gd_rng h
  have b := bnd_range h.1
  have p1 := pw_pos (b := 10) (by omega) t.q
  have p2 := pw_le (b := 10) (by omega) (show t.q ≤ 9 by omega)
  have p9 := pw10_9
  obtain ⟨e, g⟩ := gd_neg h
  have hg := gd_iff.2 g
  have eF : flN v t = flr v.n (pw 10 t.q) := by simp [flN, hf]
  have eC : ceN v t = cei v.n (pw 10 t.q) := by simp [ceN, hf]
  have eT : trN v t = v.n.tdiv (pw 10 t.q) := by simp [trN, hf]
  have eF' : flN ⟨-v.n, e0⟩ t = flr (-v.n) (pw 10 t.q) := by simp [flN, hg]
  have eT' : trN ⟨-v.n, e0⟩ t = (-v.n).tdiv (pw 10 t.q) := by simp [trN, hg]
  have f := flr_pr v.n p1
  have c := cei_pr v.n p1
  have tb := tdiv_small v.n p1 hn
  have cb : -4000000000 ≤ cei v.n (pw 10 t.q) ∧ cei v.n (pw 10 t.q) ≤ 4000000000 := by
    have x1 : cei v.n (pw 10 t.q) * pw 10 t.q < 4000000001 * pw 10 t.q := by omega
    have x2 : (-4000000001) * pw 10 t.q < cei v.n (pw 10 t.q) * pw 10 t.q := by omega
    have := mul_lt_cancel p1 x1
    have := mul_lt_cancel p1 x2
    omega
  refine ⟨?_, ?_, ?_, ?_, ?_, ?_, ?_, ?_, ?_, ?_, by rw [e]; exact hg⟩
  · rw [eF]; exact whole_in h.1 hn (by omega)
  · rw [eC]; exact whole_in h.1 hn (by omega)
  · rw [eF, w64 (by omega)]; omega
  · rw [eF, w64 (n := flr _ _ * _) (by omega), w64 (by omega)]; omega
  · rw [eC, w64 (by omega)]; omega
  · rw [eC, w64 (n := cei _ _ * _) (by omega), w64 (by omega)]; omega
  · intro h0; rw [eT, eF, flr, if_neg (by omega)]
  · intro h0; rw [eT, eC, cei, if_pos h0]
  · rw [e, eF', eC, flr_neg _ _ p1, w64 (by omega)]; omega
  · rw [e, eT', eT, Int.neg_tdiv, w64 (by omega)]; omega
structure RoundK (v : Vl) (t : Ty) (k : Int) : Prop where
  e1 : rdE t k = 0
  e2 : rnE v t k = 0
  e3 : rnE ⟨IntKind.i64.wrap (0 - v.n), e0⟩ t k = 0
  q : (rdT t k).q = k
  g : Gd ⟨rnN v t k, e0⟩ (rdT t k)
  n : rnN ⟨IntKind.i64.wrap (0 - v.n), e0⟩ t k = IntKind.i64.wrap (0 - rnN v t k)
  w : IntKind.i64.wrap (t.q - k) = t.q - k
  p : pwOK 10 (t.q - k)
  r1 : R63 (IntKind.i64.wrap (rnN v t k * pw 10 (t.q - k)))
  r2 : R63 v.n
  o1 : IntKind.i64.wrap (2 * IntKind.i64.wrap (max (IntKind.i64.wrap (rnN v t k * pw 10 (t.q - k))) (-IntKind.i64.wrap (rnN v t k * pw 10 (t.q - k))) - max v.n (-v.n))) ≤ pw 10 (t.q - k)
  o2 : IntKind.i64.wrap (-2 * IntKind.i64.wrap (max (IntKind.i64.wrap (rnN v t k * pw 10 (t.q - k))) (-IntKind.i64.wrap (rnN v t k * pw 10 (t.q - k))) - max v.n (-v.n))) < pw 10 (t.q - k)
  s : rnN v t k = 0 ∨ (rnN v t k < 0 ↔ v.n < 0)
theorem roundK {v : Vl} {t : Ty} {k : Int} (h : Gd v t) (hk : 0 ≤ k ∧ k ≤ t.q) : RoundK v t k := by
  have hf := gd_iff.2 h
  have r := valid_r h.1
  have hn := gd_rng h
  have b := bnd_range h.1
  have p1 := pw_pos (b := 10) (by omega) (t.q - k)
  have p2 := pw_le (b := 10) (by omega) (show t.q - k ≤ 9 by omega)
  have p9 := pw10_9
  obtain ⟨e, g⟩ := gd_neg h
  have hg := gd_iff.2 g
  have e2 : rnE v t k = 0 := by simp [rnE, hf]; omega
  have e3 : rnE ⟨-v.n, e0⟩ t k = 0 := by simp [rnE, hg]; omega
  have eN : rnN v t k = rnd v.n (pw 10 (t.q - k)) := by simp [rnN, e2]
  have eN' : rnN ⟨-v.n, e0⟩ t k = rnd (-v.n) (pw 10 (t.q - k)) := by simp [rnN, e3]
  have pr := rnd_pr v.n p1 (pw_even (by omega))
  obtain ⟨_, q2, q3, _⟩ := rdT_ok h.1 hk
  have cb : -4000000000 ≤ rnd v.n (pw 10 (t.q - k)) ∧ rnd v.n (pw 10 (t.q - k)) ≤ 4000000000 := by
    have x1 : rnd v.n (pw 10 (t.q - k)) * pw 10 (t.q - k) < 4000000001 * pw 10 (t.q - k) := by omega
    have x2 : (-4000000001) * pw 10 (t.q - k) < rnd v.n (pw 10 (t.q - k)) * pw 10 (t.q - k) := by omega
    have := mul_lt_cancel p1 x1
    have := mul_lt_cancel p1 x2
    omega
  refine ⟨q3, e2, by rw [e]; exact e3, q2, ?_, ?_, w64 (by omega), by unfold pwOK; omega, ?_, by unfold R63; omega, ?_, ?_, by rw [eN]; exact pr.2.2⟩
  · rw [eN]; exact round_in h.1 hk hn
  · rw [e, eN', eN, rnd_neg _ _ p1, w64 (by omega)]; omega
  · rw [eN, w64 (by omega)]; unfold R63; omega
  · rw [eN, w64 (n := rnd _ _ * _) (by omega), w64 (n := max _ _ - _) (by omega), w64 (by omega)]; omega
  · rw [eN, w64 (n := rnd _ _ * _) (by omega), w64 (n := max _ _ - _) (by omega), w64 (by omega)]; omega
end Go.Fx
