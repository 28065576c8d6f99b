/-
  Into, of the program and of the reference.
-/
import Derived.Test.YthaedhabookjeaaFx17
import Derived.Test.YthaedhabookjeaaFx20
set_option linter.unusedVariables false
set_option linter.unusedSimpArgs false
namespace Go.Fx
open Go Go.Ab Go.Proofs

theorem or6 {α β γ δ ε ζ : Type} [Enc α] [Enc β] [Enc γ] [Enc δ] [Enc ε] [Enc ζ] {P : Program} {f : FuncId} {s s1 s2 : α → β → γ → δ → ε → ζ → Bool × Value} (h1 : PureOK P f (sp6 s1)) (h2 : PureOK P f (sp6 s2))
    (hs : ∀ a b c d e k, s1 a b c d e k = s a b c d e k ∨ s2 a b c d e k = s a b c d e k) : PureOK P f (sp6 s) :=
  pure_or h1 h2 fun args bs v h => by
    simp only [sp6] at h ⊢
    split at h
    · split at h
      · rename_i a b c d e k _ _ _ _ _ _
        rcases hs a b c d e k with q | q
        · left; simp_all
        · right; simp_all
      · cases h
    · cases h

theorem into_cut {N Y : Int} {t : Ty} (ht : Valid t) (hY : Y ≠ 0) : 
    cutN ((N * pw 10 t.q).tdiv Y) t = (if (N < 0) ≠ (Y < 0) then -(fq (max N (-N)) (max Y (-Y)) t.q % bnd t) else fq (max N (-N)) (max Y (-Y)) t.q % bnd t) ∧
    (InB ((N * pw 10 t.q).tdiv Y) t ↔ fq (max N (-N)) (max Y (-Y)) t.q < bnd t) := by
  have h0 := fq_nonneg (x := max N (-N)) (y := max Y (-Y)) (i := t.q) (by omega) (by omega)
  obtain ⟨c1, c2, c3, c4⟩ := cut_abs ht h0
  rw [into_q hY]
  split
  · exact ⟨c2, c4⟩
  · exact ⟨c1, c3⟩
abbrev tupI (n c : Int) : Value := Value.tuple (Array.mk [Value.agg (Array.mk [Value.int IntKind.i64 n, Value.string (ByteArray.mk #[])]), Value.int IntKind.i64 c, Value.int IntKind.i64 0])
theorem into_tail {N Y : Int} {t : Ty} (ht : Valid t) (hN : -4611686018427387904 ≤ N ∧ N ≤ 4611686018427387904) (hY : Y ≠ 0) (hY' : -1000000000000000000 ≤ Y ∧ Y ≤ 1000000000000000000) {V : Value}
    (hV : V = tupI (cutN ((N * pw 10 t.q).tdiv Y) t) (cutC ((N * pw 10 t.q).tdiv Y) t 2)) :
    bif dgOK (IntKind.u64.wrap (max N (IntKind.i64.wrap (0 - N)))) (IntKind.u64.wrap (max Y (IntKind.i64.wrap (0 - Y)))) t.q (IntKind.u64.wrap (bnd t)) then
      (bif !decide (N < 0) == decide (Y < 0) then
        (bif decide (IntKind.u64.wrap (bnd t) ≤ fq (IntKind.u64.wrap (max N (IntKind.i64.wrap (0 - N)))) (IntKind.u64.wrap (max Y (IntKind.i64.wrap (0 - Y)))) t.q) then
          tupI (IntKind.i64.wrap (0 - IntKind.i64.wrap (fq (IntKind.u64.wrap (max N (IntKind.i64.wrap (0 - N)))) (IntKind.u64.wrap (max Y (IntKind.i64.wrap (0 - Y)))) t.q % IntKind.u64.wrap (bnd t)))) 2 = V
        else tupI (IntKind.i64.wrap (0 - IntKind.i64.wrap (fq (IntKind.u64.wrap (max N (IntKind.i64.wrap (0 - N)))) (IntKind.u64.wrap (max Y (IntKind.i64.wrap (0 - Y)))) t.q % IntKind.u64.wrap (bnd t)))) 0 = V)
      else
        (bif decide (IntKind.u64.wrap (bnd t) ≤ fq (IntKind.u64.wrap (max N (IntKind.i64.wrap (0 - N)))) (IntKind.u64.wrap (max Y (IntKind.i64.wrap (0 - Y)))) t.q) then
          tupI (IntKind.i64.wrap (fq (IntKind.u64.wrap (max N (IntKind.i64.wrap (0 - N)))) (IntKind.u64.wrap (max Y (IntKind.i64.wrap (0 - Y)))) t.q % IntKind.u64.wrap (bnd t))) 2 = V
        else tupI (IntKind.i64.wrap (fq (IntKind.u64.wrap (max N (IntKind.i64.wrap (0 - N)))) (IntKind.u64.wrap (max Y (IntKind.i64.wrap (0 - Y)))) t.q % IntKind.u64.wrap (bnd t))) 0 = V))
    else False := by
  have b := bnd_range ht
  have r := valid_r ht
  have e1 : IntKind.i64.wrap (0 - N) = -N := by rw [w64 (by omega)]; omega
  have e2 : IntKind.i64.wrap (0 - Y) = -Y := by rw [w64 (by omega)]; omega
  rw [e1, e2, wu64 (n := max N (-N)) (by omega), wu64 (n := max Y (-Y)) (by omega), wu64 (n := bnd t) (by omega)]
  refine c_t (decide_eq_true (by omega)) ?_
  obtain ⟨c1, c2⟩ := into_cut (N := N) ht hY
  have h0 := fq_nonneg (x := max N (-N)) (y := max Y (-Y)) (i := t.q) (by omega) (by omega)
  subst hV
  unfold cutC
  rw [c1]
  generalize fq (max N (-N)) (max Y (-Y)) t.q = F at *
  have m0 := Int.emod_nonneg F (show bnd t ≠ 0 by omega)
  have m1 := Int.emod_lt_of_pos F (show 0 < bnd t by omega)
  rw [w64 (n := F % bnd t) (by omega), w64 (n := 0 - F % bnd t) (by omega), show 0 - F % bnd t = -(F % bnd t) by omega]
  refine cond_intro (fun s => ?_) (fun s => ?_)
  · have s : (N < 0) ≠ (Y < 0) := by
      intro h
      simp [h] at s
    rw [if_pos s]
    refine cond_intro (fun f => ?_) (fun f => ?_)
    · have f := of_decide_eq_true f
      rw [if_neg (fun h => by have := c2.1 h; omega)]
    · have f := of_decide_eq_false f
      rw [if_pos (c2.2 (by omega))]
  · have s : ¬ ((N < 0) ≠ (Y < 0)) := by
      intro h
      apply h
      by_cases h1 : N < 0 <;> by_cases h2 : Y < 0 <;> simp [h1, h2] at s ⊢
    rw [if_neg s]
    refine cond_intro (fun f => ?_) (fun f => ?_)
    · have f := of_decide_eq_true f
      rw [if_neg (fun h => by have := c2.1 h; omega)]
    · have f := of_decide_eq_false f
      rw [if_pos (c2.2 (by omega))]
/-- The errors. -/
theorem in_err {op : Int} {a b : Vl} {ta tb to : Ty} (ho : isIn op = true) : inE op a ta b tb to = fst4 (fits a ta) (fits b tb) (check to) (same2 ta tb to) := by
  unfold inE fst4 same2
  rw [if_neg (by simp [ho])]
  split
  · rfl
  · split
    · rfl
    · split
      · rename_i h; rw [check] at h ⊢; split at h <;> simp_all
      · split <;> split <;> simp_all
theorem in_ok {a b : Vl} {ta tb to : Ty} (h : fst4 (fits a ta) (fits b tb) (check to) (same2 ta tb to) = 0) : Gd a ta ∧ Gd b tb ∧ Valid to ∧ ta.k = tb.k ∧ to.k = ta.k := by
  unfold fst4 same2 at h
  split at h
  · rename_i h1; exact absurd h h1
  · split at h
    · rename_i h1; exact absurd h h1
    · split at h
      · rename_i h1; exact absurd h h1
      · rename_i h1 h2 h3
        simp only [ne_eq, Decidable.not_not] at h1 h2 h3
        split at h
        · rename_i h4
          exact ⟨gd_iff.1 h1, gd_iff.1 h2, check0.1 h3, h4.1.symm, h4.2⟩
        · cases h
theorem inR_err {op : Int} {a b : Vl} {ta tb to : Ty} {e : Int} (h : inE op a ta b tb to = e) (he : e ≠ 0) : inR op a ta b tb to = Value.tuple (Array.mk [Value.agg (Array.mk [Value.int IntKind.i64 0, Value.string (ByteArray.mk #[])]), Value.int IntKind.i64 0, Value.int IntKind.i64 e]) := by
  subst h
  simp only [inR, inN, inC, if_pos he]
  rfl
theorem inR_ok {op : Int} {a b : Vl} {ta tb to : Ty} (h : inE op a ta b tb to = 0) (hz : ¬ zer9 op b.n) : inR op a ta b tb to = tupI (cutN (inQ op a.n ta b.n tb to) to) (cutC (inQ op a.n ta b.n tb to) to 2) := by
  simp only [inR, inN, inC, h, ne_eq, not_true_eq_false, if_false, hz]
  rfl
theorem inR_z {op : Int} {a b : Vl} {ta tb to : Ty} (h : inE op a ta b tb to = 0) (hz : zer9 op b.n) : inR op a ta b tb to = tupI 0 3 := by
  simp only [inR, inN, inC, h, ne_eq, not_true_eq_false, if_false, hz, if_true]
  rfl
theorem md_all {a b to : Ty} (ha : Valid a) (hb : Valid b) (hk : a.k = b.k) (ht : to.k = a.k) (hv : Valid to) : a.k = 2 → a.q = 0 ∧ b.q = 0 ∧ to.q = 0 := fun h => ⟨ha.2.2.2.2.2.1 h, hb.2.2.2.2.2.1 (by omega), hv.2.2.2.2.2.1 (by omega)⟩

theorem w37_6 (a : Vl) (ta : Ty) (b : Vl) (tb to : Ty) : Does Try.prog G20 noL Try.f37 [Enc.enc (6 : Int), Enc.enc a, Enc.enc ta, Enc.enc b, Enc.enc tb, Enc.enc to] (inR 6 a ta b tb to) := by
  rw [Does, d37_6]
  refine cond_intro (fun h => ?_) (fun h => ?_)
  · have h : fst4 (fits a ta) (fits b tb) (check to) (same2 ta tb to) ≠ 0 := by simpa using h
    rw [inR_err (in_err (op := 6) rfl) h]
  have h : fst4 (fits a ta) (fits b tb) (check to) (same2 ta tb to) = 0 := by simpa using h
  have hE := (in_err (op := 6) (a := a) (ta := ta) (b := b) (tb := tb) (to := to) rfl).trans h
  obtain ⟨ha, hb, hv, hk, ht⟩ := in_ok h
  have ra := valid_r ha.1
  have rb := valid_r hb.1
  have rt := valid_r hv
  have md := md_all ha.1 hb.1 hk ht hv
  have na := gd_rng ha
  have nb := gd_rng hb
  have ba := bnd_range ha.1
  have bb := bnd_range hb.1
  simp only [imax_max]
  have sa := scl_rng ha.1 na (d := max ta.q tb.q - ta.q) (by omega) (fun k => by have := md k; omega)
  have sb := scl_rng hb.1 nb (d := max ta.q tb.q - tb.q) (by omega) (fun k => by have := md (by omega); omega)
  have tq := tens_at (p := max ta.q tb.q) (by omega) (by omega)
  unfold P18 at sa sb
  have e : inQ 6 a.n ta b.n tb to = ((scl a.n (max ta.q tb.q - ta.q) + scl b.n (max ta.q tb.q - tb.q)) * pw 10 to.q).tdiv (pw 10 (max ta.q tb.q)) := rfl
  rw [inR_ok hE (by unfold zer9; omega), e]
  generalize scl a.n (max ta.q tb.q - ta.q) = x at *
  generalize scl b.n (max ta.q tb.q - tb.q) = y at *
  rw [tq.1, tq.2, w64 (n := x + y) (by omega)]
  refine c_t (by simp; omega) (c_t (decide_eq_true (by unfold R64; omega)) (c_t (decide_eq_true (by unfold R64; omega)) (c_t (decide_eq_true hv) ?_)))
  have p := pw_pos (b := 10) (by omega) (max ta.q tb.q)
  have p' := pw_le (b := 10) (by omega) (show max ta.q tb.q ≤ 9 by omega)
  have p9 := pw10_9
  exact into_tail (N := x + y) (Y := pw 10 (max ta.q tb.q)) hv (by omega) (by omega) (by omega) rfl


theorem w37_7 (a : Vl) (ta : Ty) (b : Vl) (tb to : Ty) : Does Try.prog G20 noL Try.f37 [Enc.enc (7 : Int), Enc.enc a, Enc.enc ta, Enc.enc b, Enc.enc tb, Enc.enc to] (inR 7 a ta b tb to) := by
  rw [Does, d37_7]
  refine cond_intro (fun h => ?_) (fun h => ?_)
  · have h : fst4 (fits a ta) (fits b tb) (check to) (same2 ta tb to) ≠ 0 := by simpa using h
    rw [inR_err (in_err (op := 7) rfl) h]
  have h : fst4 (fits a ta) (fits b tb) (check to) (same2 ta tb to) = 0 := by simpa using h
  have hE := (in_err (op := 7) (a := a) (ta := ta) (b := b) (tb := tb) (to := to) rfl).trans h
  obtain ⟨ha, hb, hv, hk, ht⟩ := in_ok h
  have ra := valid_r ha.1
  have rb := valid_r hb.1
  have rt := valid_r hv
  have md := md_all ha.1 hb.1 hk ht hv
  have na := gd_rng ha
  have nb := gd_rng hb
  have ba := bnd_range ha.1
  have bb := bnd_range hb.1
  simp only [imax_max]
  have sa := scl_rng ha.1 na (d := max ta.q tb.q - ta.q) (by omega) (fun k => by have := md k; omega)
  have sb := scl_rng hb.1 nb (d := max ta.q tb.q - tb.q) (by omega) (fun k => by have := md (by omega); omega)
  have tq := tens_at (p := max ta.q tb.q) (by omega) (by omega)
  unfold P18 at sa sb
  have e : inQ 7 a.n ta b.n tb to = ((scl a.n (max ta.q tb.q - ta.q) - scl b.n (max ta.q tb.q - tb.q)) * pw 10 to.q).tdiv (pw 10 (max ta.q tb.q)) := rfl
  rw [inR_ok hE (by unfold zer9; omega), e]
  generalize scl a.n (max ta.q tb.q - ta.q) = x at *
  generalize scl b.n (max ta.q tb.q - tb.q) = y at *
  rw [tq.1, tq.2, w64 (n := x - y) (by omega)]
  refine c_t (by simp; omega) (c_t (decide_eq_true (by unfold R64; omega)) (c_t (decide_eq_true (by unfold R64; omega)) (c_t (decide_eq_true hv) ?_)))
  have p := pw_pos (b := 10) (by omega) (max ta.q tb.q)
  have p' := pw_le (b := 10) (by omega) (show max ta.q tb.q ≤ 9 by omega)
  have p9 := pw10_9
  exact into_tail (N := x - y) (Y := pw 10 (max ta.q tb.q)) hv (by omega) (by omega) (by omega) rfl


theorem w37_8 (a : Vl) (ta : Ty) (b : Vl) (tb to : Ty) : Does Try.prog G20 noL Try.f37 [Enc.enc (8 : Int), Enc.enc a, Enc.enc ta, Enc.enc b, Enc.enc tb, Enc.enc to] (inR 8 a ta b tb to) := by
  rw [Does, d37_8]
  refine cond_intro (fun h => ?_) (fun h => ?_)
  · have h : fst4 (fits a ta) (fits b tb) (check to) (same2 ta tb to) ≠ 0 := by simpa using h
    rw [inR_err (in_err (op := 8) rfl) h]
  have h : fst4 (fits a ta) (fits b tb) (check to) (same2 ta tb to) = 0 := by simpa using h
  have hE := (in_err (op := 8) (a := a) (ta := ta) (b := b) (tb := tb) (to := to) rfl).trans h
  obtain ⟨ha, hb, hv, hk, ht⟩ := in_ok h
  have ra := valid_r ha.1
  have rb := valid_r hb.1
  have rt := valid_r hv
  have md := md_all ha.1 hb.1 hk ht hv
  have na := gd_rng ha
  have nb := gd_rng hb
  have ba := bnd_range ha.1
  have bb := bnd_range hb.1
  simp only [imax_max]
  have tq := tens_at (p := max ta.q tb.q) (by omega) (by omega)
  have ts := tens_at (p := ta.q + tb.q) (by omega) (by omega)
  have m := mul_fit ha.1 hb.1 hk na nb
  have e : inQ 8 a.n ta b.n tb to = (a.n * b.n * pw 10 to.q).tdiv (pw 10 (ta.q + tb.q)) := rfl
  rw [inR_ok hE (by unfold zer9; omega), e]
  generalize a.n * b.n = x at *
  rw [w64 (n := ta.q + tb.q) (by omega), tq.1, ts.1, ts.2, w64 (n := x) (by omega)]
  refine c_t (by simp; omega) (c_t (by simp; omega) (c_t (decide_eq_true hv) ?_))
  have p := pw_pos (b := 10) (by omega) (ta.q + tb.q)
  have p' := pw_le (b := 10) (by omega) (show ta.q + tb.q ≤ 18 by omega)
  have p9 := pw10_18
  exact into_tail (N := x) (Y := pw 10 (ta.q + tb.q)) hv (by omega) (by omega) (by omega) rfl
theorem w37_9 (a : Vl) (ta : Ty) (b : Vl) (tb to : Ty) : Does Try.prog G20 noL Try.f37 [Enc.enc (9 : Int), Enc.enc a, Enc.enc ta, Enc.enc b, Enc.enc tb, Enc.enc to] (inR 9 a ta b tb to) := by
  rw [Does, d37_9]
  refine cond_intro (fun h => ?_) (fun h => ?_)
  · have h : fst4 (fits a ta) (fits b tb) (check to) (same2 ta tb to) ≠ 0 := by simpa using h
    rw [inR_err (in_err (op := 9) rfl) h]
  have h : fst4 (fits a ta) (fits b tb) (check to) (same2 ta tb to) = 0 := by simpa using h
  have hE := (in_err (op := 9) (a := a) (ta := ta) (b := b) (tb := tb) (to := to) rfl).trans h
  obtain ⟨ha, hb, hv, hk, ht⟩ := in_ok h
  have ra := valid_r ha.1
  have rb := valid_r hb.1
  have rt := valid_r hv
  have md := md_all ha.1 hb.1 hk ht hv
  have na := gd_rng ha
  have nb := gd_rng hb
  have ba := bnd_range ha.1
  have bb := bnd_range hb.1
  simp only [imax_max]
  refine cond_intro (fun hz => ?_) (fun hz => ?_)
  · rw [inR_z hE ⟨rfl, by simpa using hz⟩]
  have hz : b.n ≠ 0 := by simpa using hz
  have tq := tens_at (p := max ta.q tb.q) (by omega) (by omega)
  have t1 := tens_at (p := max ta.q tb.q - ta.q) (by omega) (by omega)
  have t2 := tens_at (p := max ta.q tb.q - tb.q) (by omega) (by omega)
  have sa := scl_rng ha.1 na (d := max ta.q tb.q - ta.q) (by omega) (fun k => by have := md k; omega)
  have sb := scl_rng hb.1 nb (d := max ta.q tb.q - tb.q) (by omega) (fun k => by have := md (by omega); omega)
  have s0 : scl b.n (max ta.q tb.q - tb.q) ≠ 0 := by rw [Ne, scl_ne (by omega)]; exact hz
  have e : inQ 9 a.n ta b.n tb to = (a.n * pw 10 (max ta.q tb.q - ta.q) * pw 10 to.q).tdiv (b.n * pw 10 (max ta.q tb.q - tb.q)) := rfl
  rw [scl_up (by omega)] at sa sb s0
  unfold P18 at sa sb
  rw [inR_ok hE (by unfold zer9; omega), e]
  rw [w64 (n := max ta.q tb.q - ta.q) (by omega), w64 (n := max ta.q tb.q - tb.q) (by omega), tq.1, t1.1, t1.2, t2.1, t2.2]
  generalize a.n * pw 10 (max ta.q tb.q - ta.q) = x at *
  generalize b.n * pw 10 (max ta.q tb.q - tb.q) = y at *
  rw [w64 (n := x) (by omega), w64 (n := y) (by omega)]
  refine c_t (by simp; omega) (c_t (by simp; omega) (c_t (by simp; omega) (c_t (decide_eq_true hv) ?_)))
  exact into_tail (N := x) (Y := y) hv (by omega) s0 (by omega) rfl

def G20x : Env := ((G20.add 23 (sp2 fun (_ : Vl) (_ : Ty) => (false, I 0))).add 88 (sp5 fun (_ : Int) (_ : Vl) (_ : Ty) (_ : Vl) (_ : Ty) => (false, I 0)))

theorem ok_G20x : EnvOK Try.prog G20x := env_add (env_add ok_G20 (pure_weak ok23 fun args bs v h => by
  simp only [sp2] at h
  split at h
  · split at h
    · simp at h
    · cases h
  · cases h)) (pure_weak ok88 fun args bs v h => by
  simp only [sp5] at h
  split at h
  · split at h
    · simp at h
    · cases h
  · cases h)

def s37x (op : Int) (a : Vl) (ta : Ty) (b : Vl) (tb : Ty) (to : Ty) : Bool × Value := (decide (isIn op = false), tup [vv V0, I 0, I 1])
theorem v37x (op : Int) (a : Vl) (ta : Ty) (b : Vl) (tb : Ty) (to : Ty) (R : Value → Prop) : bodyR Try.prog G20x noL Try.f37 [Enc.enc op, Enc.enc a, Enc.enc ta, Enc.enc b, Enc.enc tb, Enc.enc to] (fun _ => none) 0 (fun v _ _ => R v) = (
    bif op != 6 then
      bif op != 7 then
        bif op != 8 then
          bif op != 9 then
            R (Value.tuple (Array.mk [Value.agg (Array.mk [Value.int IntKind.i64 0, Value.string (ByteArray.mk #[])]), Value.int IntKind.i64 0, Value.int IntKind.i64 1]))
          else False
        else False
      else False
    else False) := by kernel_rfl
theorem ok37x : PureOK Try.prog 37 (sp6 s37x) := by
  refine pure6 ok_G20x hmix fn37 lokf_none (Nat.le_of_ble_eq_true (by kernel_rfl)) fun op a ta b tb to hc => ?_
  rw [Does, v37x]
  have hc : (isIn op = false) := of_decide_eq_true hc
  repeat' first | refine And.intro ?_ ?_ | refine cond_intro (fun h => ?_) (fun h => ?_)
  all_goals simp_all [s37x, V0, isIn]
  all_goals omega

theorem in_err2 {op : Int} {a b : Vl} {ta tb to : Ty} (ho : 6 ≤ op ∧ op ≤ 9) :
    (opnds op a ta b tb ≠ 0 → inE op a ta b tb to = opnds op a ta b tb) ∧ (opnds op a ta b tb = 0 → check to ≠ 0 → inE op a ta b tb to = check to) ∧ (opnds op a ta b tb = 0 → check to = 0 → ta.k ≠ tb.k → inE op a ta b tb to = 5) ∧
    (opnds op a ta b tb = 0 → check to = 0 → ta.k = tb.k → ta.k ≠ to.k → inE op a ta b tb to = 5) ∧
    (opnds op a ta b tb = 0 → check to = 0 → ta.k = tb.k → ta.k = to.k → inE op a ta b tb to = 0 ∧ Gd a ta ∧ Gd b tb ∧ Valid to) := by
  have h1 : isIn op = true := decide_eq_true ho
  have h2 : unary op = false := by unfold unary; exact decide_eq_false (by omega)
  have h3 : ∀ t : Ty, check t = 0 ∨ check t = 5 := fun t => by unfold check; split <;> simp
  have h4 := h3 to
  have ho2 : opnds op a ta b tb = if fits a ta ≠ 0 then fits a ta else fits b tb := by simp [opnds, h2]
  have hi : inE op a ta b tb to = if fits a ta ≠ 0 then fits a ta else if fits b tb ≠ 0 then fits b tb else if check to ≠ 0 then 5 else if tb.k ≠ ta.k ∨ to.k ≠ ta.k then 5 else 0 := by
    rw [inE, if_neg (by simp [h1])]
  rw [ho2, hi]
  simp only [← gd_iff, ← check0]
  refine ⟨fun h => ?_, fun h h' => ?_, fun h h' k => ?_, fun h h' k k' => ?_, fun h h' k k' => ?_⟩
  all_goals (by_cases e1 : fits a ta = 0)
  all_goals (try simp only [e1, ne_eq, not_true_eq_false, not_false_eq_true, if_true, if_false] at h ⊢)
  · rw [if_pos h]
  · rw [if_neg (by simpa using h), if_pos h']; omega
  · rw [if_neg (by simpa using h), if_neg (by simpa using h'), if_pos (.inl fun q => k q.symm)]
  · rw [if_neg (by simpa using h), if_neg (by simpa using h'), if_pos (.inr fun q => k' q.symm)]
  · rw [if_neg (by simpa using h), if_neg (by simpa using h'), if_neg (by omega)]
    exact ⟨rfl, trivial, h, h'⟩
theorem scl_tdiv {n d m : Int} (hd : 0 ≤ d) (hm : 0 ≤ m) : scl n (d - m) = (n * pw 10 d).tdiv (pw 10 m) := by
  have p1 := pw_pos (b := 10) (by omega) d
  have p2 := pw_pos (b := 10) (by omega) m
  rcases Int.le_total m d with h | h
  · have e : pw 10 d = pw 10 (d - m) * pw 10 m := by rw [← pw_add 10 (by omega) hm]; congr 1; omega
    rw [e, ← Int.mul_assoc, Int.mul_tdiv_cancel _ (by omega), scl_up (by omega)]
  · have e : pw 10 m = pw 10 (m - d) * pw 10 d := by rw [← pw_add 10 (by omega) hd]; congr 1; omega
    rw [e, Int.mul_tdiv_mul_of_pos_left _ _ (by omega), scl_dn (by omega), show -(d - m) = m - d by omega]
theorem cut_tail {n : Int} {t : Ty} {V : Value} (hV : V = tupI (cutN n t) (cutC n t 2)) : bif !decide (InB n t) then tupI (cutN n t) 2 = V else tupI (cutN n t) 0 = V := by
  subst hV
  unfold cutC
  by_cases h : InB n t
  · rw [decide_eq_true h, if_pos h]; exact rfl
  · rw [decide_eq_false h, if_neg h]; exact rfl

theorem w38_6 (a : Vl) (ta : Ty) (b : Vl) (tb to : Ty) : Does Try.prog G20 noL Try.f38 [Enc.enc (6 : Int), Enc.enc a, Enc.enc ta, Enc.enc b, Enc.enc tb, Enc.enc to] (inR 6 a ta b tb to) := by
  rw [Does, d38_6]
  obtain ⟨i1, i2, i3, i4, i5⟩ := in_err2 (op := 6) (a := a) (ta := ta) (b := b) (tb := tb) (to := to) (by omega)
  refine cond_intro (fun h => ?_) (fun h1 => ?_)
  · have h : opnds 6 a ta b tb ≠ 0 := by simpa using h
    rw [inR_err (i1 h) h]
  have h1 : opnds 6 a ta b tb = 0 := by simpa using h1
  refine cond_intro (fun h => ?_) (fun h2 => ?_)
  · have h : check to ≠ 0 := by simpa using h
    rw [inR_err (i2 h1 h) h]
  have h2 : check to = 0 := by simpa using h2
  refine cond_intro (fun h => ?_) (fun h3 => ?_)
  · rw [inR_err (i3 h1 h2 (by simpa using h)) (by decide)]
  have hk : ta.k = tb.k := by simpa using h3
  refine cond_intro (fun h => ?_) (fun h4 => ?_)
  · rw [inR_err (i4 h1 h2 hk (by simpa using h)) (by decide)]
  have ht : ta.k = to.k := by simpa using h4
  obtain ⟨hE, ha, hb, hv⟩ := i5 h1 h2 hk ht
  have ra := valid_r ha.1
  have rb := valid_r hb.1
  have rt := valid_r hv
  have md := md_all ha.1 hb.1 hk ht.symm hv
  have na := gd_rng ha
  have nb := gd_rng hb
  try simp only [imax_max]
  have sa := scl_rng ha.1 na (d := max ta.q tb.q - ta.q) (by omega) (fun k => by have := md k; omega)
  have sb := scl_rng hb.1 nb (d := max ta.q tb.q - tb.q) (by omega) (fun k => by have := md (by omega); omega)
  have ba := bnd_range ha.1
  have bb := bnd_range hb.1
  have e : inQ 6 a.n ta b.n tb to = ((scl a.n (max ta.q tb.q - ta.q) + scl b.n (max ta.q tb.q - tb.q)) * pw 10 to.q).tdiv (pw 10 (max ta.q tb.q)) := rfl
  rw [inR_ok hE (by unfold zer9; omega), e, ← scl_tdiv (by omega) (by omega)]
  rw [w64 (n := max ta.q tb.q - ta.q) (by omega), w64 (n := max ta.q tb.q - tb.q) (by omega)]
  generalize scl a.n (max ta.q tb.q - ta.q) = x at *
  generalize scl b.n (max ta.q tb.q - tb.q) = y at *
  have ex : exN 6 x y = x + y := rfl
  rw [ex]
  unfold P18 at sa sb ⊢
  refine c_t (decide_eq_true (by unfold R64; omega)) (c_t (decide_eq_true (by unfold R64; omega)) (c_t (decide_eq_true (by unfold dvOK; omega)) (c_t (decide_eq_true ⟨hv, by omega, by omega, by omega, by omega⟩) ?_)))
  exact cut_tail rfl


theorem w38_7 (a : Vl) (ta : Ty) (b : Vl) (tb to : Ty) : Does Try.prog G20 noL Try.f38 [Enc.enc (7 : Int), Enc.enc a, Enc.enc ta, Enc.enc b, Enc.enc tb, Enc.enc to] (inR 7 a ta b tb to) := by
  rw [Does, d38_7]
  obtain ⟨i1, i2, i3, i4, i5⟩ := in_err2 (op := 7) (a := a) (ta := ta) (b := b) (tb := tb) (to := to) (by omega)
  refine cond_intro (fun h => ?_) (fun h1 => ?_)
  · have h : opnds 7 a ta b tb ≠ 0 := by simpa using h
    rw [inR_err (i1 h) h]
  have h1 : opnds 7 a ta b tb = 0 := by simpa using h1
  refine cond_intro (fun h => ?_) (fun h2 => ?_)
  · have h : check to ≠ 0 := by simpa using h
    rw [inR_err (i2 h1 h) h]
  have h2 : check to = 0 := by simpa using h2
  refine cond_intro (fun h => ?_) (fun h3 => ?_)
  · rw [inR_err (i3 h1 h2 (by simpa using h)) (by decide)]
  have hk : ta.k = tb.k := by simpa using h3
  refine cond_intro (fun h => ?_) (fun h4 => ?_)
  · rw [inR_err (i4 h1 h2 hk (by simpa using h)) (by decide)]
  have ht : ta.k = to.k := by simpa using h4
  obtain ⟨hE, ha, hb, hv⟩ := i5 h1 h2 hk ht
  have ra := valid_r ha.1
  have rb := valid_r hb.1
  have rt := valid_r hv
  have md := md_all ha.1 hb.1 hk ht.symm hv
  have na := gd_rng ha
  have nb := gd_rng hb
  try simp only [imax_max]
  have sa := scl_rng ha.1 na (d := max ta.q tb.q - ta.q) (by omega) (fun k => by have := md k; omega)
  have sb := scl_rng hb.1 nb (d := max ta.q tb.q - tb.q) (by omega) (fun k => by have := md (by omega); omega)
  have ba := bnd_range ha.1
  have bb := bnd_range hb.1
  have e : inQ 7 a.n ta b.n tb to = ((scl a.n (max ta.q tb.q - ta.q) - scl b.n (max ta.q tb.q - tb.q)) * pw 10 to.q).tdiv (pw 10 (max ta.q tb.q)) := rfl
  rw [inR_ok hE (by unfold zer9; omega), e, ← scl_tdiv (by omega) (by omega)]
  rw [w64 (n := max ta.q tb.q - ta.q) (by omega), w64 (n := max ta.q tb.q - tb.q) (by omega)]
  generalize scl a.n (max ta.q tb.q - ta.q) = x at *
  generalize scl b.n (max ta.q tb.q - tb.q) = y at *
  have ex : exN 7 x y = x - y := rfl
  rw [ex]
  unfold P18 at sa sb ⊢
  refine c_t (decide_eq_true (by unfold R64; omega)) (c_t (decide_eq_true (by unfold R64; omega)) (c_t (decide_eq_true (by unfold dvOK; omega)) (c_t (decide_eq_true ⟨hv, by omega, by omega, by omega, by omega⟩) ?_)))
  exact cut_tail rfl


theorem w38_8 (a : Vl) (ta : Ty) (b : Vl) (tb to : Ty) : Does Try.prog G20 noL Try.f38 [Enc.enc (8 : Int), Enc.enc a, Enc.enc ta, Enc.enc b, Enc.enc tb, Enc.enc to] (inR 8 a ta b tb to) := by
  rw [Does, d38_8]
  obtain ⟨i1, i2, i3, i4, i5⟩ := in_err2 (op := 8) (a := a) (ta := ta) (b := b) (tb := tb) (to := to) (by omega)
  refine cond_intro (fun h => ?_) (fun h1 => ?_)
  · have h : opnds 8 a ta b tb ≠ 0 := by simpa using h
    rw [inR_err (i1 h) h]
  have h1 : opnds 8 a ta b tb = 0 := by simpa using h1
  refine cond_intro (fun h => ?_) (fun h2 => ?_)
  · have h : check to ≠ 0 := by simpa using h
    rw [inR_err (i2 h1 h) h]
  have h2 : check to = 0 := by simpa using h2
  refine cond_intro (fun h => ?_) (fun h3 => ?_)
  · rw [inR_err (i3 h1 h2 (by simpa using h)) (by decide)]
  have hk : ta.k = tb.k := by simpa using h3
  refine cond_intro (fun h => ?_) (fun h4 => ?_)
  · rw [inR_err (i4 h1 h2 hk (by simpa using h)) (by decide)]
  have ht : ta.k = to.k := by simpa using h4
  obtain ⟨hE, ha, hb, hv⟩ := i5 h1 h2 hk ht
  have ra := valid_r ha.1
  have rb := valid_r hb.1
  have rt := valid_r hv
  have md := md_all ha.1 hb.1 hk ht.symm hv
  have na := gd_rng ha
  have nb := gd_rng hb
  try simp only [imax_max]
  have m := mul_fit ha.1 hb.1 hk na nb
  have e : inQ 8 a.n ta b.n tb to = (a.n * b.n * pw 10 to.q).tdiv (pw 10 (ta.q + tb.q)) := rfl
  rw [inR_ok hE (by unfold zer9; omega), e, ← scl_tdiv (by omega) (by omega)]
  generalize a.n * b.n = x at *
  rw [w64 (n := ta.q + tb.q) (by omega), w64 (n := x) (by omega)]
  refine c_t (decide_eq_true ⟨hv, by omega, by omega, by omega, by omega⟩) ?_
  exact cut_tail rfl
theorem abs_mul {a u : Int} (hu : 1 ≤ u) : max (a * u) (-(a * u)) = max a (-a) * u ∧ (a * u < 0 ↔ a < 0) := by
  rcases Int.lt_or_le a 0 with h | h
  · have := Int.mul_le_mul_of_nonneg_right (show a ≤ -1 by omega) (show 0 ≤ u by omega)
    rw [show max a (-a) = -a by omega, Int.neg_mul]
    omega
  · have := Int.mul_nonneg h (show 0 ≤ u by omega)
    rw [show max a (-a) = a by omega]
    omega
theorem w38_9 (a : Vl) (ta : Ty) (b : Vl) (tb to : Ty) : Does Try.prog G20 noL Try.f38 [Enc.enc (9 : Int), Enc.enc a, Enc.enc ta, Enc.enc b, Enc.enc tb, Enc.enc to] (inR 9 a ta b tb to) := by
  rw [Does, d38_9]
  obtain ⟨i1, i2, i3, i4, i5⟩ := in_err2 (op := 9) (a := a) (ta := ta) (b := b) (tb := tb) (to := to) (by omega)
  refine cond_intro (fun h => ?_) (fun h1 => ?_)
  · have h : opnds 9 a ta b tb ≠ 0 := by simpa using h
    rw [inR_err (i1 h) h]
  have h1 : opnds 9 a ta b tb = 0 := by simpa using h1
  refine cond_intro (fun h => ?_) (fun h2 => ?_)
  · have h : check to ≠ 0 := by simpa using h
    rw [inR_err (i2 h1 h) h]
  have h2 : check to = 0 := by simpa using h2
  refine cond_intro (fun h => ?_) (fun h3 => ?_)
  · rw [inR_err (i3 h1 h2 (by simpa using h)) (by decide)]
  have hk : ta.k = tb.k := by simpa using h3
  refine cond_intro (fun h => ?_) (fun h4 => ?_)
  · rw [inR_err (i4 h1 h2 hk (by simpa using h)) (by decide)]
  have ht : ta.k = to.k := by simpa using h4
  obtain ⟨hE, ha, hb, hv⟩ := i5 h1 h2 hk ht
  have ra := valid_r ha.1
  have rb := valid_r hb.1
  have rt := valid_r hv
  have md := md_all ha.1 hb.1 hk ht.symm hv
  have na := gd_rng ha
  have nb := gd_rng hb
  try simp only [imax_max]
  refine cond_intro (fun hz => ?_) (fun hz => ?_)
  · rw [inR_z hE ⟨rfl, by simpa using hz⟩]
  have hz : b.n ≠ 0 := by simpa using hz
  refine c_t (decide_eq_true ⟨ha.1, hb.1, hv, hz, na, nb, hk⟩) ?_
  have p1 := pw_pos (b := 10) (by omega) (max 0 (tb.q - ta.q))
  have p2 := pw_pos (b := 10) (by omega) (max 0 (ta.q - tb.q))
  obtain ⟨x1, x2⟩ := abs_mul (a := a.n) p1
  obtain ⟨y1, y2⟩ := abs_mul (a := b.n) p2
  have y0 : b.n * pw 10 (max 0 (ta.q - tb.q)) ≠ 0 := Int.mul_ne_zero hz (by omega)
  obtain ⟨c1, c2⟩ := into_cut (N := a.n * pw 10 (max 0 (tb.q - ta.q))) (t := to) hv y0
  have e : inQ 9 a.n ta b.n tb to = (a.n * pw 10 (max 0 (tb.q - ta.q)) * pw 10 to.q).tdiv (b.n * pw 10 (max 0 (ta.q - tb.q))) := by
    show (a.n * pw 10 (max ta.q tb.q - ta.q) * pw 10 to.q).tdiv (b.n * pw 10 (max ta.q tb.q - tb.q)) = _
    rw [show max ta.q tb.q - ta.q = max 0 (tb.q - ta.q) by omega, show max ta.q tb.q - tb.q = max 0 (ta.q - tb.q) by omega]
  rw [x1, y1] at c1 c2
  have f : dvN a.n ta b.n tb to = fq (max a.n (-a.n) * pw 10 (max 0 (tb.q - ta.q))) (max b.n (-b.n) * pw 10 (max 0 (ta.q - tb.q))) to.q := rfl
  rw [← f] at c1 c2
  rw [inR_ok hE (by unfold zer9; omega), e]
  generalize (a.n * pw 10 (max 0 (tb.q - ta.q)) * pw 10 to.q).tdiv (b.n * pw 10 (max 0 (ta.q - tb.q))) = M at *
  simp only [x2, y2] at c1
  have d : decide (dvN a.n ta b.n tb to < bnd to) = decide (InB M to) := by simp only [c2]
  rw [← c1, d]
  exact cut_tail rfl

def s38x (op : Int) (a : Vl) (ta : Ty) (b : Vl) (tb : Ty) (to : Ty) : Bool × Value := (decide (isIn op = false), tup [vv V0, I 0, I 1])
theorem fn38 : Fn1 Try.prog 38 Try.f38 := ⟨Try.func38, by kernel_rfl, by kernel_rfl, by kernel_rfl⟩
theorem v38x (op : Int) (a : Vl) (ta : Ty) (b : Vl) (tb : Ty) (to : Ty) (R : Value → Prop) : bodyR Try.prog G20x noL Try.f38 [Enc.enc op, Enc.enc a, Enc.enc ta, Enc.enc b, Enc.enc tb, Enc.enc to] (fun _ => none) 0 (fun v _ _ => R v) = (
    bif op != 6 then
      bif op != 7 then
        bif op != 8 then
          bif op != 9 then
            R (Value.tuple (Array.mk [Value.agg (Array.mk [Value.int IntKind.i64 0, Value.string (ByteArray.mk #[])]), Value.int IntKind.i64 0, Value.int IntKind.i64 1]))
          else False
        else False
      else False
    else False) := by kernel_rfl
theorem ok38x : PureOK Try.prog 38 (sp6 s38x) := by
  refine pure6 ok_G20x hmix fn38 lokf_none (Nat.le_of_ble_eq_true (by kernel_rfl)) fun op a ta b tb to hc => ?_
  rw [Does, v38x]
  have hc : (isIn op = false) := of_decide_eq_true hc
  repeat' first | refine And.intro ?_ ?_ | refine cond_intro (fun h => ?_) (fun h => ?_)
  all_goals simp_all [s38x, V0, isIn]
  all_goals omega

theorem w37 (op : Int) (a : Vl) (ta : Ty) (b : Vl) (tb to : Ty) (h : isIn op = true) : Does Try.prog G20 noL Try.f37 [Enc.enc op, Enc.enc a, Enc.enc ta, Enc.enc b, Enc.enc tb, Enc.enc to] (inR op a ta b tb to) := by
  have h : 6 ≤ op ∧ op ≤ 9 := of_decide_eq_true h
  have c : op = 6 ∨ op = 7 ∨ op = 8 ∨ op = 9 := by omega
  rcases c with rfl | rfl | rfl | rfl
  · exact w37_6 a ta b tb to
  · exact w37_7 a ta b tb to
  · exact w37_8 a ta b tb to
  · exact w37_9 a ta b tb to
def s37y (op : Int) (a : Vl) (ta : Ty) (b : Vl) (tb to : Ty) : Bool × Value := (decide (isIn op = true), inR op a ta b tb to)
theorem ok37y : PureOK Try.prog 37 (sp6 s37y) :=
  pure6 ok_G20 hmix fn37 lokf_none (Nat.le_of_ble_eq_true (by kernel_rfl)) fun op a ta b tb to hc => w37 op a ta b tb to (of_decide_eq_true hc)
def s37 (op : Int) (a : Vl) (ta : Ty) (b : Vl) (tb to : Ty) : Bool × Value := (true, inR op a ta b tb to)
theorem ok37 : PureOK Try.prog 37 (sp6 s37) := or6 ok37x ok37y fun op a ta b tb to => by
  cases h : isIn op
  · left
    simp [s37x, s37, h, inN, inC, inE, V0, e0]
  · right
    simp [s37y, s37, h]

theorem w38 (op : Int) (a : Vl) (ta : Ty) (b : Vl) (tb to : Ty) (h : isIn op = true) : Does Try.prog G20 noL Try.f38 [Enc.enc op, Enc.enc a, Enc.enc ta, Enc.enc b, Enc.enc tb, Enc.enc to] (inR op a ta b tb to) := by
  have h : 6 ≤ op ∧ op ≤ 9 := of_decide_eq_true h
  have c : op = 6 ∨ op = 7 ∨ op = 8 ∨ op = 9 := by omega
  rcases c with rfl | rfl | rfl | rfl
  · exact w38_6 a ta b tb to
  · exact w38_7 a ta b tb to
  · exact w38_8 a ta b tb to
  · exact w38_9 a ta b tb to
def s38y (op : Int) (a : Vl) (ta : Ty) (b : Vl) (tb to : Ty) : Bool × Value := (decide (isIn op = true), inR op a ta b tb to)
theorem ok38y : PureOK Try.prog 38 (sp6 s38y) :=
  pure6 ok_G20 hmix fn38 lokf_none (Nat.le_of_ble_eq_true (by kernel_rfl)) fun op a ta b tb to hc => w38 op a ta b tb to (of_decide_eq_true hc)
def s38 (op : Int) (a : Vl) (ta : Ty) (b : Vl) (tb to : Ty) : Bool × Value := (true, inR op a ta b tb to)
theorem ok38 : PureOK Try.prog 38 (sp6 s38) := or6 ok38x ok38y fun op a ta b tb to => by
  cases h : isIn op
  · left
    simp [s38x, s38, h, inN, inC, inE, V0, e0]
  · right
    simp [s38y, s38, h]

def G21 : Env := ((G20.add 37 (sp6 s37)).add 38 (sp6 s38))
theorem ok_G21 : EnvOK Try.prog G21 := env_add (env_add (ok_G20) ok37) ok38

end Go.Fx
