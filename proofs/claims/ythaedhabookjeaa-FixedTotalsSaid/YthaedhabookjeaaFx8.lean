/-
  Ranges of scaled numbers, products and quotients.
-/
import Derived.Test.YthaedhabookjeaaFx7
set_option linter.unusedVariables false
set_option linter.unusedSimpArgs false
namespace Go.Fx
open Go Go.Ab Go.Proofs

theorem pure_weak {P : Program} {f : FuncId} {s s' : Ab.Spec} (h : PureOK P f s) (hs : ∀ args bs v, s' args bs = some (true, v) → s args bs = some (true, v)) : PureOK P f s' :=
  ⟨h.1, fun args v N w0 lk ι w hr hv hp => h.2 args v N w0 lk ι w hr (hs _ _ _ hv) hp⟩

theorem pure_or {P : Program} {f : FuncId} {s s1 s2 : Ab.Spec} (h1 : PureOK P f s1) (h2 : PureOK P f s2)
    (hs : ∀ args bs v, s args bs = some (true, v) → s1 args bs = some (true, v) ∨ s2 args bs = some (true, v)) : PureOK P f s :=
  ⟨h1.1, fun args v N w0 lk ι w hr hv hp => (hs _ _ _ hv).elim (fun h => h1.2 args v N w0 lk ι w hr h hp) fun h => h2.2 args v N w0 lk ι w hr h hp⟩
/-- By two cases of the arguments. -/
theorem or5 {α β γ δ ε : Type} [Enc α] [Enc β] [Enc γ] [Enc δ] [Enc ε] {P : Program} {f : FuncId} {s s1 s2 : α → β → γ → δ → ε → Bool × Value} (h1 : PureOK P f (sp5 s1)) (h2 : PureOK P f (sp5 s2))
    (hs : ∀ a b c d e, s1 a b c d e = s a b c d e ∨ s2 a b c d e = s a b c d e) : PureOK P f (sp5 s) :=
  pure_or h1 h2 fun args bs v h => by
    simp only [sp5] at h ⊢
    split at h
    · split at h
      · rename_i a b c d e _ _ _ _ _
        rcases hs a b c d e with q | q
        · left; simp_all
        · right; simp_all
      · cases h
    · cases h

theorem mul_rng {x y A B : Int} (hx : -A ≤ x ∧ x ≤ A) (hy : 0 ≤ y ∧ y ≤ B) : -(A * B) ≤ x * y ∧ x * y ≤ A * B := by
  have hA : 0 ≤ A := by omega
  have h1 := Int.mul_le_mul_of_nonneg_right hx.2 hy.1
  have h2 := Int.mul_le_mul_of_nonneg_left hy.2 hA
  have h3 := Int.mul_le_mul_of_nonneg_right hx.1 hy.1
  have h4 : -A * y = -(A * y) := Int.neg_mul ..
  omega
theorem mul_rng2 {x y A B : Int} (hx : -A ≤ x ∧ x ≤ A) (hy : -B ≤ y ∧ y ≤ B) : -(A * B) ≤ x * y ∧ x * y ≤ A * B := by
  rcases Int.le_total 0 y with h | h
  · exact mul_rng hx ⟨h, hy.2⟩
  · have := mul_rng (y := -y) hx ⟨by omega, show -y ≤ B by omega⟩
    rw [Int.mul_neg] at this
    omega
theorem tdiv_rng {x y A : Int} (hx : -A ≤ x ∧ x ≤ A) : -A ≤ x.tdiv y ∧ x.tdiv y ≤ A := by
  have := Int.natAbs_tdiv_le_natAbs x y
  omega
theorem fits0 {v : Vl} {t : Ty} : fits v t = 0 ↔ Valid t ∧ Fit v t := by grind [fits]
theorem pw0 : pw 10 0 = 1 := by decide
theorem scl0 (n : Int) : scl n 0 = n := by rw [scl, if_pos (by omega), pw0, Int.mul_one]

theorem bnd_dec {t : Ty} (h : Valid t) (hk : t.k = 1) : bnd t ≤ 1000000000 := by
  have h2 := h.2.2.1
  have := pw_le (b := 10) (by omega) (show t.p ≤ 9 by rw [hk] at h2; simpa [most] using h2)
  simp only [bnd, hk, base, if_true]
  have c := pw10_9
  omega
theorem scl_rng {t : Ty} (h : Valid t) {n d : Int} (hn : -bnd t < n ∧ n < bnd t) (hd : 0 ≤ d ∧ d ≤ 9) (hb : t.k = 2 → d = 0) : -P18 ≤ scl n d ∧ scl n d ≤ P18 := by
  unfold P18
  have hr := bnd_range h
  rcases h.1 with hk | hk
  · have h1 := bnd_dec h hk
    have h2 := pw_le (b := 10) (by omega) hd.2
    have h3 := pw_pos (b := 10) (by omega) d
    have h4 := pw10_9
    rw [scl, if_pos hd.1]
    have := mul_rng (x := n) (y := pw 10 d) (A := 1000000000) (B := 1000000000) (by omega) (by omega)
    omega
  · rw [hb hk, scl0]
    omega
theorem scl_ne {n d : Int} (hd : 0 ≤ d) : scl n d = 0 ↔ n = 0 := by
  have h3 := pw_pos (b := 10) (by omega) d
  rw [scl, if_pos hd, Int.mul_eq_zero]
  omega
/-- A shift to the greater scale of two. -/
theorem scl_max {t u : Ty} (ht : Valid t) (hu : Valid u) (hk : t.k = u.k) {n : Int} (hn : -bnd t < n ∧ n < bnd t) :
    (-P18 ≤ scl n (max t.q u.q - t.q) ∧ scl n (max t.q u.q - t.q) ≤ P18) ∧ (-P18 ≤ scl n (max u.q t.q - t.q) ∧ scl n (max u.q t.q - t.q) ≤ P18) := by
  have r1 := valid_r ht
  have r2 := valid_r hu
  have q1 : t.k = 2 → t.q = 0 := ht.2.2.2.2.2.1
  have q2 : u.k = 2 → u.q = 0 := hu.2.2.2.2.2.1
  exact ⟨scl_rng ht hn (by omega) (by omega), scl_rng ht hn (by omega) (by omega)⟩
theorem mul_fit {t u : Ty} (ht : Valid t) (hu : Valid u) (hk : t.k = u.k) {n m : Int} (hn : -bnd t < n ∧ n < bnd t) (hm : -bnd u < m ∧ m < bnd u) : -4611686018427387904 ≤ n * m ∧ n * m ≤ 4611686018427387904 := by
  have r1 := bnd_range ht
  have r2 := bnd_range hu
  have := mul_rng2 (x := n) (y := m) (A := 2147483648) (B := 2147483648) (by omega) (by omega)
  omega
theorem resQ_mul {t u : Ty} (ht : Valid t) (hu : Valid u) (hk : t.k = u.k) : 0 ≤ resQ 8 t u ∧ resQ 8 t u ≤ t.q + u.q := by
  have r1 := valid_r ht
  have r2 := valid_r hu
  have q1 : t.k = 2 → t.q = 0 := ht.2.2.2.2.2.1
  have q2 : u.k = 2 → u.q = 0 := hu.2.2.2.2.2.1
  unfold resQ
  split
  · omega
  · simp only [show ¬ ((8 : Int) = 5 ∨ (8 : Int) = 11) by decide, if_false, if_true]
    omega
theorem scl_neg {n d A : Int} (hd : d ≤ 0) (hn : -A ≤ n ∧ n ≤ A) : -A ≤ scl n d ∧ scl n d ≤ A := by
  rcases Int.lt_or_eq_of_le hd with h | h
  · rw [scl, if_neg (by omega)]
    exact tdiv_rng hn
  · rw [h, scl0]
    exact hn
theorem rty_valid {op : Int} {a b : Ty} (ha : Valid a) (hb : Valid b) (hk : a.k = b.k) (ho : isOp op = true) : Valid (rty op a b) := by
  have r1 := valid_r ha
  have r2 := valid_r hb
  have h3 : 9 ≤ most a.k := (most_r _).1
  have ho' : 5 ≤ op ∧ op ≤ 13 := by simpa [isOp] using ho
  have hm : a.p ≤ most a.k := ha.2.2.1
  have hm2 : b.p ≤ most a.k := by rw [hk]; exact hb.2.2.1
  refine ⟨ha.1, ?_, ?_, ?_, ?_, ?_, rfl, by show e0.toList = []; kernel_rfl⟩
  · simp only [rty, resD]
    grind
  · simp only [rty]; omega
  · simp only [rty, resQ]
    grind
  · simp only [rty, resQ, resD]
    have hk' := ha.1
    grind [most]
  · intro h
    simp only [rty] at h
    simp [rty, resQ, h]
theorem op_cases {p : Int → Prop} {op : Int} (h : isOp op = true) (h5 : p 5) (h6 : p 6) (h7 : p 7) (h8 : p 8) (h9 : p 9) (h10 : p 10) (h11 : p 11) (h12 : p 12) (h13 : p 13) : p op := by
  obtain rfl | rfl | rfl | rfl | rfl | rfl | rfl | rfl | rfl : op = 5 ∨ op = 6 ∨ op = 7 ∨ op = 8 ∨ op = 9 ∨ op = 10 ∨ op = 11 ∨ op = 12 ∨ op = 13 := by
    simp only [isOp, decide_eq_true_eq] at h
    omega
  all_goals assumption
theorem do_bin {op : Int} {a : Vl} {ta : Ty} {b : Vl} {tb : Ty} (ho : isOp op = true) (hu : unary op = false) (ea : fits a ta = 0) (eb : fits b tb = 0) (ek : ta.k = tb.k) :
    doR op a ta b tb = tup [vv ⟨doN1 op a.n ta b.n tb, e0⟩, I (doC1 op a.n ta b.n tb), I 0] ∧ opnds op a ta b tb = 0 := by
  have h : doE op a ta b tb = 0 := by simp [doE, ho, hu, ea, eb, ek]
  exact ⟨by simp [doR, doN, doC, h, hu], by simp [opnds, ea, eb]⟩
theorem do_un {op : Int} {a : Vl} {ta : Ty} {b : Vl} {tb : Ty} (ho : isOp op = true) (hu : unary op = true) (ea : fits a ta = 0) :
    doR op a ta b tb = tup [vv ⟨doN1 op a.n ta a.n ta, e0⟩, I (doC1 op a.n ta a.n ta), I 0] ∧ opnds op a ta b tb = 0 := by
  have h : doE op a ta b tb = 0 := by simp [doE, ho, hu, ea]
  exact ⟨by simp [doR, doN, doC, h, hu], by simp [opnds, ea, hu]⟩
theorem opN_8 (a : Int) (ta : Ty) (b : Int) (tb : Ty) : opN 8 a ta b tb = scl (a * b) (resQ 8 ta tb - (ta.q + tb.q)) := rfl
theorem opN_9 (a : Int) (ta : Ty) (b : Int) (tb : Ty) : opN 9 a ta b tb = quoN a b (tb.q + resQ 9 ta tb - ta.q) := rfl
theorem opN_x {op : Int} (h8 : op ≠ 8) (h9 : op ≠ 9) (a : Int) (ta : Ty) (b : Int) (tb : Ty) : opN op a ta b tb = exN op (scl a (max ta.q tb.q - ta.q)) (scl b (max ta.q tb.q - tb.q)) := by simp [opN, h8, h9]
theorem rty_q (op : Int) (a b : Ty) : (rty op a b).q = resQ op a b := rfl
theorem mod_twice {x y : Int} (h : 0 < y) : (x.tmod y + y).tmod y = x % y := by
  have b1 := Int.tmod_lt_of_pos x h
  have b2 := Int.lt_tmod_of_pos x h
  rw [tmod_emod h, Int.tmod_eq_emod_of_nonneg (by omega), Int.add_emod_right]
  split
  · rw [← Int.add_emod_right, Int.emod_eq_of_lt (by omega) (by omega)]
  · rw [Int.emod_eq_of_lt (by omega) (by omega)]
theorem quo_up {a b up : Int} (h : quoOK a b up) (hu : 0 ≤ up) : isIntAt .i64 tensL up.toNat = true ∧ IntKind.i64.wrap ((IntKind.i64.wrap (a * intAt tensL up.toNat)).tdiv b) = quoN a b up := by
  obtain ⟨h1, h2, h3, h4, h5, h6, h7⟩ := h
  have t := tens_at hu (by omega)
  unfold Q18 at *
  have hb := h6 hu
  have hd := tdiv_rng (x := a * pw 10 up) (y := b) (A := 4000000000000000000) (by omega)
  rw [t.2, quoN, if_pos hu, w64 (n := a * pw 10 up) (by omega), w64 (by omega)]
  exact ⟨t.1, rfl⟩
theorem quo_dn {a b up : Int} (h : quoOK a b up) (hu : up < 0) : isIntAt .i64 tensL (0 - up).toNat = true ∧ IntKind.i64.wrap (b * intAt tensL (0 - up).toNat) ≠ 0 ∧
    IntKind.i64.wrap (a.tdiv (IntKind.i64.wrap (b * intAt tensL (0 - up).toNat))) = quoN a b up := by
  obtain ⟨h1, h2, h3, h4, h5, h6, h7⟩ := h
  have t := tens_at (p := 0 - up) (by omega) (by omega)
  unfold Q18 at *
  have hb := h7 hu
  rw [← Int.zero_sub up] at hb
  have hd := tdiv_rng (x := a) (y := b * pw 10 (0 - up)) (A := 4000000000000000000) (by omega)
  have hp := pw_pos (b := 10) (by omega) (0 - up)
  have hz : b * pw 10 (0 - up) ≠ 0 := by
    rw [Ne, Int.mul_eq_zero]
    omega
  rw [t.2, quoN, if_neg (by omega), w64 (n := b * pw 10 (0 - up)) (by omega), w64 (n := a.tdiv (b * pw 10 (0 - up))) (by omega), ← Int.zero_sub]
  exact ⟨t.1, hz, rfl⟩
theorem div_ok {t u : Ty} (ht : Valid t) (hu : Valid u) (hk : t.k = u.k) {a b : Int} (hn : -bnd t < a ∧ a < bnd t) (hm : -bnd u < b ∧ b < bnd u) :
    -9 ≤ u.q + resQ 9 t u - t.q ∧ u.q + resQ 9 t u - t.q ≤ 9 ∧ 0 ≤ resQ 9 t u ∧ resQ 9 t u ≤ 9 ∧ (b ≠ 0 → quoOK a b (u.q + resQ 9 t u - t.q)) := by
  have r1 := valid_r ht
  have r2 := valid_r hu
  have b1 := bnd_range ht
  have b2 := bnd_range hu
  rcases ht.1 with k1 | k1
  · have e1 := bnd_dec ht k1
    have e2 := bnd_dec hu (by omega)
    have hp : t.p ≤ 9 := by
      have := ht.2.2.1
      simpa [most, k1] using this
    have hq : resQ 9 t u = max 0 (9 - (t.p - t.q) - u.q) := by simp [resQ, k1]
    rw [hq]
    refine ⟨by omega, by omega, by omega, by omega, fun hb => ⟨hb, by omega, by omega, ⟨by omega, by omega⟩, ⟨by omega, by omega⟩, fun h => ?_, fun h => ?_⟩⟩
    · have p1 := pw_le (b := 10) (by omega) (show u.q + max 0 (9 - (t.p - t.q) - u.q) - t.q ≤ 9 by omega)
      have p2 := pw_pos (b := 10) (by omega) (u.q + max 0 (9 - (t.p - t.q) - u.q) - t.q)
      have p3 := pw10_9
      have := mul_rng (x := a) (y := pw 10 (u.q + max 0 (9 - (t.p - t.q) - u.q) - t.q)) (A := 1000000000) (B := 1000000000) (by omega) (by omega)
      exact ⟨by omega, by omega⟩
    · have p1 := pw_le (b := 10) (by omega) (show -(u.q + max 0 (9 - (t.p - t.q) - u.q) - t.q) ≤ 9 by omega)
      have p2 := pw_pos (b := 10) (by omega) (-(u.q + max 0 (9 - (t.p - t.q) - u.q) - t.q))
      have p3 := pw10_9
      have := mul_rng (x := b) (y := pw 10 (-(u.q + max 0 (9 - (t.p - t.q) - u.q) - t.q))) (A := 1000000000) (B := 1000000000) (by omega) (by omega)
      exact ⟨by omega, by omega⟩
  · have q1 : t.q = 0 := ht.2.2.2.2.2.1 k1
    have q2 : u.q = 0 := hu.2.2.2.2.2.1 (by omega)
    have hq : resQ 9 t u = 0 := by simp [resQ, k1]
    rw [hq, q1, q2]
    refine ⟨by omega, by omega, by omega, by omega, fun hb => ⟨hb, by omega, by omega, ⟨by omega, by omega⟩, ⟨by omega, by omega⟩, fun _ => ?_, fun h => by omega⟩⟩
    rw [show (0 : Int) + 0 - 0 = 0 by omega, pw0, Int.mul_one]
    exact ⟨by omega, by omega⟩
end Go.Fx
namespace Go.Fx
theorem rnd_neg' (n u : Int) : (n - u / 2).tdiv u = 0 - (0 - n + u / 2).tdiv u := by
  have h : n - u / 2 = -(0 - n + u / 2) := by omega
  rw [h, Int.neg_tdiv]
  omega
end Go.Fx
namespace Go.Fx
theorem tdiv_mul (n : Int) {u : Int} (hu : 1 ≤ u) : (0 ≤ n → n - u < n.tdiv u * u ∧ n.tdiv u * u ≤ n) ∧ (n ≤ 0 → n ≤ n.tdiv u * u ∧ n.tdiv u * u < n + u) := by
  have h1 := Int.tmod_add_mul_tdiv n u
  have h2 := Int.tmod_lt_of_pos n (show 0 < u by omega)
  have h3 := Int.lt_tmod_of_pos n (show 0 < u by omega)
  rw [Int.mul_comm u] at h1
  refine ⟨fun h => ?_, fun h => ?_⟩
  · have := Int.tmod_nonneg u h
    omega
  · have : (-n).tmod u = -(n.tmod u) := Int.neg_tmod ..
    have h4 := Int.tmod_nonneg u (show 0 ≤ -n by omega)
    omega
theorem sq_lt {u x : Int} (hu : 1 ≤ u) (h1 : -u < x * u) (h2 : x * u < u) : x = 0 := by
  rcases Int.lt_trichotomy x 0 with h | h | h
  · have := Int.mul_le_mul_of_nonneg_right (show x ≤ -1 by omega) (show 0 ≤ u by omega)
    omega
  · exact h
  · have := Int.mul_le_mul_of_nonneg_right (show 1 ≤ x by omega) (show 0 ≤ u by omega)
    omega
theorem flr_tdiv (n : Int) {u : Int} (hu : 1 ≤ u) : flr n u = if n.tdiv u * u > n then n.tdiv u - 1 else n.tdiv u := by
  have h := tdiv_mul n hu
  unfold flr
  split
  · rename_i hn
    have g := tdiv_mul (n - (u - 1)) hu
    generalize n.tdiv u = A at *
    generalize (n - (u - 1)).tdiv u = B at *
    have g2 := g.2 (by omega)
    have h2 := h.2 (by omega)
    split
    · rename_i h3
      have l1 : (A - 1) * u = A * u - u := by rw [Int.sub_mul, Int.one_mul]
      have l2 : (B - (A - 1)) * u = B * u - (A - 1) * u := Int.sub_mul ..
      have l3 : -u < (B - (A - 1)) * u := by omega
      have l4 : (B - (A - 1)) * u < u := by omega
      have := sq_lt hu l3 l4
      omega
    · have l2 : (B - A) * u = B * u - A * u := Int.sub_mul ..
      have := sq_lt hu (show -u < (B - A) * u by omega) (by omega)
      omega
  · rename_i hn
    have h2 := h.1 (by omega)
    rw [if_neg (by omega)]
theorem cei_tdiv (n : Int) {u : Int} (hu : 1 ≤ u) : cei n u = if n.tdiv u * u < n then n.tdiv u + 1 else n.tdiv u := by
  have h := tdiv_mul n hu
  unfold cei
  split
  · rename_i hn
    have h2 := h.2 (by omega)
    rw [if_neg (by omega)]
  · rename_i hn
    have g := tdiv_mul (n + (u - 1)) hu
    generalize n.tdiv u = A at *
    generalize (n + (u - 1)).tdiv u = B at *
    have g2 := g.1 (by omega)
    have h2 := h.1 (by omega)
    split
    · rename_i h3
      have l1 : (A + 1) * u = A * u + u := by rw [Int.add_mul, Int.one_mul]
      have l2 : (B - (A + 1)) * u = B * u - (A + 1) * u := Int.sub_mul ..
      have := sq_lt hu (show -u < (B - (A + 1)) * u by omega) (by omega)
      omega
    · have l2 : (B - A) * u = B * u - A * u := Int.sub_mul ..
      have := sq_lt hu (show -u < (B - A) * u by omega) (by omega)
      omega
theorem scl_any {t : Ty} (h : Valid t) {n d : Int} (hn : -bnd t < n ∧ n < bnd t) (hd : -9 ≤ d ∧ d ≤ 9) : -4000000000000000000 ≤ scl n d ∧ scl n d ≤ 4000000000000000000 := by
  have hr := bnd_range h
  rcases Int.le_total d 0 with h0 | h0
  · have := scl_neg (n := n) h0 (A := 2147483648) (by omega)
    omega
  · have h2 := pw_le (b := 10) (by omega) hd.2
    have h3 := pw_pos (b := 10) (by omega) d
    have h4 := pw10_9
    rw [scl, if_pos h0]
    have := mul_rng (x := n) (y := pw 10 d) (A := 2147483648) (B := 1000000000) (by omega) (by omega)
    omega
end Go.Fx
