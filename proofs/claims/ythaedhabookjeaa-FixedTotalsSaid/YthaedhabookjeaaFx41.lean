/-
  The law of totals: the law.
-/
import Derived.Test.YthaedhabookjeaaFx40
set_option linter.unusedVariables false
set_option linter.unusedSimpArgs false
namespace Go.Fx
open Go Go.Ab Go.Proofs

theorem imx {k : Int} {n : Nat} : ∃ m : Nat, imax 0 (imin k (n : Int)) = m ∧ m ≤ n := by
  have h : 0 ≤ imax 0 (imin k (n : Int)) ∧ imax 0 (imin k (n : Int)) ≤ n := by
    unfold imax imin; split <;> split <;> omega
  exact ⟨(imax 0 (imin k (n : Int))).toNat, by omega, by omega⟩
theorem fitsA_ok {k : Nat} (h : k ≤ 1000) : fitsA k 24 = true := by
  simp only [fitsA, Bool.and_eq_true, Nat.ble_eq]
  omega
theorem offz (cap : Nat) : (bif Nat.beq cap 0 then 0 else 0 + 0 * 2) = 0 := by cases Nat.beq cap 0 <;> rfl
theorem ids_tail {a tail : List Value} {cap need size q : Nat} (ha : plainL a = true) (ht : tailOK tail cap need size = true) : idsLt q (a ++ tail) = true := by
  simp only [tailOK, Bool.and_eq_true] at ht
  exact ids_view (plainL_iff.2 fun v hv => by
    rcases List.mem_append.1 hv with h | h
    · exact plainL_iff.1 ha v h
    · exact plainL_iff.1 ht.1.1.1 v h)
theorem plainL_take {a : List Value} (h : plainL a = true) (q : Nat) : plainL (a.take q) = true := plainL_iff.2 fun v hv => plainL_iff.1 h v (List.mem_of_mem_take hv)
theorem plainL_drop {a : List Value} (h : plainL a = true) (q : Nat) : plainL (a.drop q) = true := plainL_iff.2 fun v hv => plainL_iff.1 h v (List.mem_of_mem_drop hv)
theorem plainL_app {a b : List Value} (h : plainL a = true) (h' : plainL b = true) : plainL (a ++ b) = true := plainL_iff.2 fun v hv => by
  rcases List.mem_append.1 hv with q | q
  · exact plainL_iff.1 h v q
  · exact plainL_iff.1 h' v q
theorem tail_plain {tail : List Value} {cap need size : Nat} (ht : tailOK tail cap need size = true) : plainL tail = true := by
  simp only [tailOK, Bool.and_eq_true] at ht
  exact ht.1.1.1
set_option maxHeartbeats 4000000 in
theorem k19 (c : List Value) (ty : Nat) (own : Bool) (n cap : Nat) (t : Ty) (k : Int) (hc : (vlsOK c 0 n && Nat.ble n cap) = true) :
    DoesVQ Try.prog G69 noL Try.f19 [sl0 0 n cap, Enc.enc t, I k] [some ⟨c, ty, own⟩, none, none] 3 (B true) := by
  simp only [Bool.and_eq_true, Nat.ble_eq] at hc
  obtain ⟨ho, hcap⟩ := hc
  obtain ⟨hl, hpl, hat⟩ := vls_at ho
  obtain ⟨hv0, _⟩ := vlsOK_some ho
  have hcl := vlsN_len n c _ hv0
  have hcell := vlsN_cell n c _ hv0
  rw [DoesVQ, vw_viewL hpl [none, none] (by simp), v19]
  obtain ⟨m, hm, hmn⟩ := imx (k := k) (n := n)
  rw [hm, ids_view hpl, ids_view hpl]
  simp only [Int.toNat_natCast]
  refine cond_intro (fun _ => trivial) (fun h => ?_)
  have hv : Valid t := check0.1 (by simpa using h)
  have h0 : check t = 0 := check0.2 hv
  refine cond_intro (fun _ => trivial) (fun h => ?_)
  have hn : n ≤ 200 := by have := of_decide_eq_false h; omega
  refine c_t rfl (c_t ?_ ?_)
  · simp only [S103_0, Bool.and_eq_true, decide_eq_true_eq]
    exact ⟨ho, hn, trivial, by omega, by omega, hv⟩
  rw [show List.drop (Int.toNat 0) (vlsA c 0 n) = vlsA c 0 n from rfl]
  refine cond_intro (fun hf => ?_) (fun hf => ?_)
  · have hf : fbad t (vlsA c 0 n) 0 = -1 := by simpa using hf
    have hg := fbad_gd _ _ (by omega) hf
    obtain ⟨e1, e2, e3⟩ := su_gd hv hg
    have w1 : IntKind.wrap IntKind.i64 (0 + ((n - m : Nat) : Int)) = ((n - m : Nat) : Int) := by rw [Int.zero_add, w64 (by omega)]
    have w2 : IntKind.wrap IntKind.i64 (((n - m : Nat) : Int) + (m : Int)) = (n : Int) := by rw [w64 (by omega)]; omega
    have w3 : IntKind.wrap IntKind.i64 ((n : Int) - IntKind.wrap IntKind.i64 (0 - 0)) = (n : Int) := by rw [w64 (n := 0 - 0) (by omega), w64 (by omega)]; omega
    refine c_t rfl (fun _ => c_t (by simp [ho]; omega) (c_t (by simp) (c_f ?_ (c_t ?_ (fun cap1 tail1 ht1 => ?_)))))
    · have := su_fits (n := sumV (vlsA c 0 n)) hv
      simp only [h0, e1, e2, this]
      simp [totT_v hv]
    · simp only [Nat.zero_add, List.drop_zero, Bool.and_eq_true, Nat.ble_eq]
      exact ⟨⟨by omega, hcell⟩, fitsA_ok (by omega)⟩
    simp only [w1, w2, w3, offz, Int.toNat_natCast, Nat.zero_add, Nat.sub_zero, List.drop_zero, Nat.zero_mul]
    have hp1 := plainL_take hpl (n * 2)
    have hD : vlsN n (List.take (n * 2) c ++ tail1) = some (vlsA c 0 n) := vlsN_pre n _ _ _ (by have := vlsN_take n n c _ hv0 (Nat.le_refl _); rwa [List.take_of_length_le (l := vlsA c 0 n) (by omega)] at this)
    obtain ⟨hD1, hD2⟩ := vlsOK_of hD (plainL_app hp1 (tail_plain ht1))
    refine c_t (by rw [ids_tail hp1 ht1]; rfl) (c_t ?_ (fun d' i' j' hrev => ?_))
    · simp only [S67_0, Bool.and_eq_true, decide_eq_true_eq]
      exact ⟨⟨hpl, hD1⟩, by omega, by omega, by omega, by rw [w64 (by omega)]; omega, by rw [w64 (by omega)]; omega⟩
    obtain ⟨r1, r2, r3⟩ := hrev
    rw [hD2] at r2
    have hp2 := (vlsOK_some r1).2
    obtain ⟨f1, f2, f3⟩ := su_gd hv (hg.perm r2)
    rw [sumV_perm r2] at f2 f3
    refine c_t (by rw [ids_view hp2]; rfl) (fun _ => c_t (decide_eq_true (by omega)) (c_t (decide_eq_true (by omega)) (c_f (decide_eq_false (by omega)) (c_f (decide_eq_false (by omega)) (c_f (decide_eq_false (by omega)) ?_)))))
    have hpw : pw (base t.k) (most t.k) ≠ 0 := by
      have := bnd_pos (totT_ok hv)
      rw [bnd_tot hv] at this
      omega
    have fz : (bif Nat.beq cap 0 then 0 else 0) = 0 := by cases Nat.beq cap 0 <;> rfl
    -- the parts
    have hA : vlsN m c = some ((vlsA c 0 n).take m) := by
      have h1 := vlsN_take n m c _ hv0 hmn
      have h2 := vlsN_pre m _ (c.drop (m * 2)) _ h1
      rwa [List.take_append_drop] at h2
    obtain ⟨a1, a2⟩ := vlsOK_of hA hpl
    obtain ⟨oB, hoB⟩ : ∃ oB, (bif Nat.beq cap m then 0 else m * 2) = oB := ⟨_, rfl⟩
    have hB : vlsN (n - m) (c.drop oB) = some ((vlsA c 0 n).drop m) := by
      cases hb : Nat.beq cap m with
      | false =>
        rw [hb] at hoB
        subst hoB
        exact vlsN_drop n m c _ hv0 hmn
      | true =>
        have := Nat.eq_of_beq_eq_true hb
        have e : n - m = 0 := by omega
        rw [e, show (vlsA c 0 n).drop m = [] from List.drop_eq_nil_of_le (by omega)]
        rfl
    have hoBle : oB ≤ 2 * n := by
      rw [← hoB]
      cases Nat.beq cap m with
      | true => exact Nat.zero_le _
      | false =>
        show m * 2 ≤ 2 * n
        omega
    have b0 : vlsOK c oB (n - m) = true ∧ vlsA c oB (n - m) = (vlsA c 0 n).drop m := by
      simp [vlsOK, vlsA, hB, hpl]
    obtain ⟨b1, b2⟩ := b0
    have hBl := vlsN_len _ _ _ hB
    rw [List.length_drop] at hBl
    have hBc := vlsN_cell _ _ _ hB
    have hAc := vlsN_cell _ _ _ hA
    have gA : AllGd t ((vlsA c 0 n).take m) := fun v hv => hg v (List.mem_of_mem_take hv)
    have gB : AllGd t ((vlsA c 0 n).drop m) := fun v hv => hg v (List.mem_of_mem_drop hv)
    obtain ⟨p1, p2, p3⟩ := su_gd hv gA
    obtain ⟨q1, q2, q3⟩ := su_gd hv gB
    have hsum : sumV ((vlsA c 0 n).take m) + sumV ((vlsA c 0 n).drop m) = sumV (vlsA c 0 n) := by rw [← sumV_append, List.take_append_drop]
    have hmod : (IntKind.wrap IntKind.i64 (IntKind.wrap IntKind.i64 (cutN (sumV ((vlsA c 0 n).take m)) (totT t) + cutN (sumV ((vlsA c 0 n).drop m)) (totT t)) - cutN (sumV (vlsA c 0 n)) (totT t))).tmod (pw (base t.k) (most t.k)) = 0 := by
      have i1 := cutN_inb (n := sumV ((vlsA c 0 n).take m)) (totT_ok hv)
      have i2 := cutN_inb (n := sumV ((vlsA c 0 n).drop m)) (totT_ok hv)
      have i3 := cutN_inb (n := sumV (vlsA c 0 n)) (totT_ok hv)
      have r := bnd_range (totT_ok hv)
      unfold InB at i1 i2 i3
      rw [w64 (n := cutN (sumV ((vlsA c 0 n).take m)) (totT t) + cutN (sumV ((vlsA c 0 n).drop m)) (totT t)) (by omega), w64 (by omega), ← bnd_tot hv, ← hsum]
      exact cut_mod
    have hend : (!(addGo (totT t) t (vlsA c 0 n) 0 0).fst || cutC (sumV (vlsA c 0 n)) (totT t) 2 == 0 && ((if (addGo (totT t) t (vlsA c 0 n) 0 0).fst = true then (addGo (totT t) t (vlsA c 0 n) 0 0).snd.fst else 0) == cutN (sumV (vlsA c 0 n)) (totT t) && (e0.toList == e0.toList && true))) = true := by
      cases ha : (addGo (totT t) t (vlsA c 0 n) 0 0).fst with
      | false => rfl
      | true =>
        obtain ⟨z1, z2⟩ := add_law hv hg ha
        simp [z1, z2]
    have sA := su_fits (n := sumV ((vlsA c 0 n).take m)) hv
    have sB := su_fits (n := sumV ((vlsA c 0 n).drop m)) hv
    simp only [hoB, fz, a2, b2, p1, p2, q1, q2, f1, f2, f3, e2, e3, a1, b1, r1, ho, sA, sB, hmod, hend]
    rcases Nat.eq_zero_or_pos n with hz | hz
    · have hm0 : m = 0 := by omega
      have hL : vlsA c 0 n = [] := List.eq_nil_of_length_eq_zero (by omega)
      refine c_f (decide_eq_false (by omega)) ?_
      obtain ⟨n1, n2, n3⟩ := su_gd (l := []) hv (fun v hv => by cases hv)
      simp only [hL, n1, n2, n3, hm0, hz]
      have hfit : fitsA 0 24 = true := rfl
      have hob : Nat.ble (oB + 0) c.length = true := by
        rw [Nat.ble_eq]
        omega
      have hob0 : Nat.ble (oB + (0 - 0) * 2) c.length = true := by
        rw [Nat.ble_eq]
        omega
      have hL0 : vlsA c 0 0 = [] := rfl
      simp [hfit, hob, hpw, hL0, hob0]
      omega
    · refine c_t (decide_eq_true (by omega)) ?_
      refine c_t (by rw [fitsA_ok (by omega)]; simp) (c_f (by cases hb : Nat.beq n 0; rfl; exact absurd (Nat.eq_of_beq_eq_true hb) (by omega)) (fun cap2 tail2 ht2 => ?_))
      have z2 : (bif Nat.beq cap2 0 then 0 else 0) = 0 := by cases Nat.beq cap2 0 <;> rfl
      simp only [z2, show Int.toNat 0 = 0 from rfl, Nat.zero_add, Nat.sub_add_cancel hmn]
      simp only [tailOK, Bool.and_eq_true, Nat.ble_eq, Nat.beq_eq] at ht2
      refine c_t ?_ (fun cap3 tail3 ht3 => c_t ?_ (fun cap4 tail4 ht4 => ?_))
      · simp only [Bool.and_eq_true, Nat.ble_eq, Nat.beq_eq, List.length_append]
        refine ⟨⟨⟨⟨⟨trivial, ?_⟩, trivial⟩, by omega⟩, ⟨by omega, hBc⟩⟩, fitsA_ok (by omega)⟩
        have : (zrow (Value.agg ⟨[Value.int IntKind.i64 0, Value.string ⟨#[]⟩]⟩) n).length = n * 2 := by rw [zrow, zeroCells_len]; rfl
        omega
      · simp only [tailOK, Bool.and_eq_true, Nat.ble_eq, Nat.beq_eq] at ht3
        simp only [Bool.and_eq_true, Nat.ble_eq, Nat.beq_eq, List.length_append, List.length_take, List.length_drop]
        refine ⟨⟨⟨⟨?_, by omega⟩, by omega⟩, ⟨by omega, hAc⟩⟩, fitsA_ok (by omega)⟩
        omega
      have hO : vlsN n (List.take ((n - m) * 2) (List.take ((n - m) * 2) (List.drop oB c) ++ tail3) ++ List.take (m * 2) (List.drop 0 c) ++ tail4) = some ((vlsA c 0 n).drop m ++ (vlsA c 0 n).take m) := by
        have l1 : (List.take ((n - m) * 2) (List.drop oB c)).length = (n - m) * 2 := by rw [List.length_take, List.length_drop]; omega
        have h1 := vlsN_take _ _ _ _ hB (Nat.le_refl _)
        rw [List.take_of_length_le (l := List.drop m (vlsA c 0 n)) (by rw [List.length_drop]; omega)] at h1
        have h2 := vlsN_take _ _ _ _ hA (Nat.le_refl _)
        rw [List.take_of_length_le (l := List.take m (vlsA c 0 n)) (by rw [List.length_take]; omega)] at h2
        have h3 := vlsN_app (n - m) m _ _ _ _ h1 (by omega) h2
        rw [Nat.sub_add_cancel hmn] at h3
        have h4 := vlsN_pre n _ tail4 _ h3
        rw [List.take_append_of_le_length (by omega), List.take_of_length_le (l := List.take ((n - m) * 2) (List.drop oB c)) (by omega)]
        exact h4
      have hOp : plainL (List.take ((n - m) * 2) (List.take ((n - m) * 2) (List.drop oB c) ++ tail3) ++ List.take (m * 2) (List.drop 0 c) ++ tail4) = true :=
        plainL_app (plainL_app (plainL_take (plainL_app (plainL_take (plainL_drop hpl _) _) (tail_plain ht3)) _) (plainL_take (plainL_drop hpl _) _)) (tail_plain ht4)
      obtain ⟨o1, o2⟩ := vlsOK_of hO hOp
      have gO : AllGd t ((vlsA c 0 n).drop m ++ (vlsA c 0 n).take m) := fun v hv => by
        rcases List.mem_append.1 hv with h | h
        · exact gB v h
        · exact gA v h
      obtain ⟨x1, x2, x3⟩ := su_gd hv gO
      have hs2 : sumV ((vlsA c 0 n).drop m ++ (vlsA c 0 n).take m) = sumV (vlsA c 0 n) := by rw [sumV_append, Int.add_comm]; exact hsum
      rw [hs2] at x2 x3
      simp only [o1, o2, x1, x2, x3]
      have d1 : n ≤ 1000 := by omega
      have d2 : m ≤ 1000 := by omega
      have d3 : n - m ≤ 1000 := by omega
      have d4 : (m : Int) ≤ n := by omega
      have d5 : (n : Int) ≤ cap := by omega
      have d6 : (m : Int) ≤ cap := by omega
      have d7 : (0 : Int) ≤ m := by omega
      simp [d1, d2, d3, d4, d5, d6, d7, hpw]
  · have hf : fbad t (vlsA c 0 n) 0 ≠ -1 := by simpa using hf
    have := fbad_pos _ _ (by omega) hf
    exact c_t rfl (fun _ => c_t (decide_eq_true this) trivial)
theorem k19n (t : Ty) (k : Int) : DoesVQ Try.prog Gn69 noL Try.f19 [.slice none 0 0, Enc.enc t, I k] [none, none, none] 3 (B true) := by
  rw [DoesVQ, viewL_none3, v19n]
  have hm : imax 0 (imin k 0) = 0 := by
    unfold imax imin
    split <;> (try split) <;> omega
  refine cond_intro (fun _ => rfl) (fun h => ?_)
  have hv : Valid t := check0.1 (by simpa using h)
  have h0 : check t = 0 := check0.2 hv
  have hg : AllGd t [] := fun v hv => by cases hv
  obtain ⟨e1, e2, e3⟩ := su_gd hv hg
  have hs : sumV [] = 0 := rfl
  rw [hs] at e2 e3
  have hin : cutN 0 (totT t) = 0 := cutN_in (gd_zero hv).2.2
  rw [hin] at e2
  have hC : cutC 0 (totT t) 2 = 0 := (cutC0 (by decide)).2 (gd_zero hv).2.2
  rw [hC] at e3
  have sA := su_fits (n := 0) hv
  rw [hin] at sA
  have hpw : pw (base t.k) (most t.k) ≠ 0 := by
    have := bnd_pos (totT_ok hv)
    rw [bnd_tot hv] at this
    omega
  have t1 : (totT t).p = most t.k := by rw [totT_v hv]
  have t2 : (totT t).q = t.q := by rw [totT_v hv]
  have hw : IntKind.wrap IntKind.i64 (IntKind.wrap IntKind.i64 (0 + 0) - 0) = 0 := rfl
  have ha : (addGo (totT t) t [] 0 0).snd.fst = 0 := rfl
  have hw0 : IntKind.wrap IntKind.i64 0 = 0 := rfl
  simp [hm, h0, e1, e2, e3, sA, hpw, t1, t2, hw0, ha]
def s19a : Ab.Spec := fun args bs => match args, bs with
  | [.slice (some ⟨_, 0, some 1⟩) n cap, .agg ⟨[.int .i64 k, .int .i64 p, .int .i64 q, .bool v, .string s]⟩, .int .i64 j], [some ⟨c, ty, own⟩, none, none] => some (vlsOK c 0 n && Nat.ble n cap, B true)
  | _, _ => none
def s19b : Ab.Spec := fun args bs => match args, bs with
  | [.slice none 0 0, .agg ⟨[.int .i64 k, .int .i64 p, .int .i64 q, .bool v, .string s]⟩, .int .i64 j], [none, none, none] => some (true, B true)
  | _, _ => none
theorem fn19 : Fn1 Try.prog 19 Try.f19 := ⟨Try.func19, by kernel_rfl, by kernel_rfl, by kernel_rfl⟩
theorem ok19a : PureOK Try.prog 19 s19a := by
  refine pure_viewQ ok_G69 hmix fn19 lokf_none fun args bs v hs => ?_
  simp only [s19a] at hs
  split at hs
  · simp only [Option.some.injEq, Prod.mk.injEq] at hs
    obtain ⟨hc, rfl⟩ := hs
    exact ⟨_, 3, rfl, rfl, Nat.le_of_ble_eq_true (by kernel_rfl), k19 _ _ _ _ _ ⟨_, _, _, _, _⟩ _ hc⟩
  · cases hs
theorem ok19b : PureOK Try.prog 19 s19b := by
  refine pure_viewQ ok_Gn69 hmix fn19 lokf_none fun args bs v hs => ?_
  simp only [s19b] at hs
  split at hs
  · simp only [Option.some.injEq, Prod.mk.injEq] at hs
    obtain ⟨hc, rfl⟩ := hs
    exact ⟨_, 3, rfl, rfl, Nat.le_of_ble_eq_true (by kernel_rfl), k19n ⟨_, _, _, _, _⟩ _⟩
  · cases hs
end Go.Fx
