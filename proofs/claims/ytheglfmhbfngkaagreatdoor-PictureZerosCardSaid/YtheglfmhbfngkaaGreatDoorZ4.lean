/-
  The run and the laws that serve these rows (part 4)
-/
import Derived.Test.YtheglfmhbfngkaaGreatDoorZ3
set_option linter.unusedVariables false
set_option linter.unusedSimpArgs false
noncomputable section
set_option maxHeartbeats 3200000
namespace Go.Px
open Go Go.Ab Go.Proofs Go.Shelf
theorem cuN_lt (n q sc d : Int) (sg : Bool) : ((cuN n q sc d sg).natAbs : Int) < tenZ d.toNat := by
 have hm := Int.emod_nonneg (cuM n q sc) (b := tenZ d.toNat) (by have := tenZ_pos d.toNat; omega)
 have hl := Int.emod_lt_of_pos (cuM n q sc) (tenZ_pos d.toNat)
 unfold cuN cuV
 split <;> omega
theorem wr_use {s : ByteArray} (h : pN (bz s) = true) {k cap : Nat} {d : List Value} (hR : rowIOK d k cap = true) (hz : zc d k = rolF (pS (bz s))) {m : Int} (hm : (m.natAbs : Int) < tenZ (pD (bz s)).toNat) :
  w64C (sz (pS (bz s))) (sz (digZ m.natAbs (pD (bz s)).toNat)) k cap (pW (bz s)) (fdFl (pS (bz s))) d = true ∧
  wrV (bz (sz (pS (bz s)))) (pW (bz s)) (nD (bodyZ (pS (bz s)))).2.2 (crZ (pS (bz s))) (drZ (bodyZ (pS (bz s)))) (fdFl (pS (bz s))) (cntZ (mkGo (drZ (bodyZ (pS (bz s)))) false (bodyZ (pS (bz s)))) 100) (zc d k) (bz (sz (digZ m.natAbs (pD (bz s)).toNat))) (decide (m < 0)) =
   (fieldZ (pS (bz s)) (pW (bz s)) (pD (bz s)).toNat m, fdLe (pS (bz s)) (pW (bz s)) (pD (bz s)).toNat m) := by
 have hl := pS_len s
 have hr := rowIOK_iff.1 hR
 have hk : k = (pS (bz s)).length := by rw [← rol_len h, ← hz, zi_length hr]
 have b1 : bz (sz (pS (bz s))) = pS (bz s) := bz_sz hl.1
 have hdd := digZ_dg (pD (bz s)).toNat m.natAbs
 have b2 : bz (sz (digZ m.natAbs (pD (bz s)).toNat)) = digZ m.natAbs (pD (bz s)).toNat := bz_sz (dg_isB hdd)
 have z1 : (sz (pS (bz s))).size = (pS (bz s)).length := by rw [← bz_length, b1]
 have z2 : (sz (digZ m.natAbs (pD (bz s)).toNat)).size = (pD (bz s)).toNat := by rw [← bz_length, b2, digZ_len]
 obtain ⟨f1, _, f3, _⟩ := pic_facts hl h
 have hp := pD_rng h
 have hw := pN_ok hl h 0
 refine ⟨?_, by rw [b1, b2, hz]; exact wr_law hl h hm⟩
 simp only [w64C, Bool.and_eq_true, decide_eq_true_eq]
 rw [hz, b2, z1, z2, f3]
 refine ⟨hR, ?_, hdd, ⟨by omega, by omega, by omega, by omega, hw.2.2.2.1, by omega⟩, by omega, ?_⟩
 ·simp only [roOK, List.all_eq_true, decide_eq_true_eq]
  exact fun r hr => by have := f1 r hr; omega
 ·unfold fdFl
  split
  ·exact .inr rfl
  ·exact .inl rfl
def s20 (n : Int) (q : Int) (s : ByteArray) : Bool × Value := (decide (s.size ≤ 9223372036854775807 ∧ -9223372036854775808 ≤ n ∧ n ≤ 9223372036854775807), .tuple ⟨[.string (sz (edS (bz s) n q)), .bool (edF (bz s) n q), .int .i64 (edE (bz s) q)]⟩)
theorem fn20 : Fn1 Tryz.prog 20 Tryz.f20 := ⟨Tryz.func20, by kernel_rfl, by kernel_rfl, by kernel_rfl⟩
theorem v20 (n : Int) (q : Int) (s : ByteArray) (R : Value → Prop) : bodyQ Tryz.prog G37 noL Tryz.f20 [Enc.enc n, Enc.enc q, Enc.enc s] (fun _ => none) 0 (fun v _ _ => R v) = ( bif decide (ByteArray.size s ≤ 9223372036854775807) then bif pN (bz s) then ∀ (k cap : Nat) (d : List Value), rowIOK d k cap = true → zc d k = rolF (pS (bz s)) → bif decide (q < 0) || true then bif decide (q < 0) || decide (q > 9) then R (.tuple (.mk [.string (ByteArray.mk #[]), .bool false, .int .i64 1])) else bif i64B n && (decide (0 ≤ q ∧ q ≤ 9) && (decide (0 ≤ pQ (bz s) ∧ pQ (bz s) ≤ 9) && decide (0 ≤ pD (bz s) ∧ pD (bz s) ≤ 9))) then bif rowIOK d k cap && (roOK (zc d k) && (dgL (bz (sz (digZ (↑(Int.natAbs (cuN n q (pQ (bz s)) (pD (bz s)) (pG (bz s)))) : Int) (Int.toNat (pD (bz s)))))) && decide ((k ≤ 1000 ∧ ByteArray.size (sz (digZ (↑(Int.natAbs (cuN n q (pQ (bz s)) (pD (bz s)) (pG (bz s)))) : Int) (Int.toNat (pD (bz s))))) ≤ 1000 ∧ k ≤ ByteArray.size (sz (pS (bz s))) ∧ ByteArray.size (sz (pS (bz s))) ≤ 1000 ∧ 0 ≤ pW (bz s) ∧ pW (bz s) ≤ 1000) ∧ cdg (zc d k) ≤ (↑(ByteArray.size (sz (digZ (↑(Int.natAbs (cuN n q (pQ (bz s)) (pD (bz s)) (pG (bz s)))) : Int) (Int.toNat (pD (bz s)))))) : Int) ∧ (fdFl (pS (bz s)) = 32 ∨ fdFl (pS (bz s)) = 42)))) then ∀ (t : ByteArray) (l : Int), sz (Prod.fst (wrV (bz (sz (pS (bz s)))) (pW (bz s)) (Prod.snd (Prod.snd (nD (bodyZ (pS (bz s)))))) (crZ (pS (bz s))) (drZ (bodyZ (pS (bz s)))) (fdFl (pS (bz s))) (↑(cntZ (mkGo (drZ (bodyZ (pS (bz s)))) false (bodyZ (pS (bz s)))) 100) : Int) (zc d k) (bz (sz (digZ (↑(Int.natAbs (cuN n q (pQ (bz s)) (pD (bz s)) (pG (bz s)))) : Int) (Int.toNat (pD (bz s)))))) (decide (cuN n q (pQ (bz s)) (pD (bz s)) (pG (bz s)) < 0)))) = t → Prod.snd (wrV (bz (sz (pS (bz s)))) (pW (bz s)) (Prod.snd (Prod.snd (nD (bodyZ (pS (bz s)))))) (crZ (pS (bz s))) (drZ (bodyZ (pS (bz s)))) (fdFl (pS (bz s))) (↑(cntZ (mkGo (drZ (bodyZ (pS (bz s)))) false (bodyZ (pS (bz s)))) 100) : Int) (zc d k) (bz (sz (digZ (↑(Int.natAbs (cuN n q (pQ (bz s)) (pD (bz s)) (pG (bz s)))) : Int) (Int.toNat (pD (bz s)))))) (decide (cuN n q (pQ (bz s)) (pD (bz s)) (pG (bz s)) < 0))) = l → R (.tuple (.mk [.string t, .bool (cuF n q (pQ (bz s)) (pD (bz s)) (pG (bz s))), .int .i64 0])) else False else False else False else R (.tuple (.mk [.string (ByteArray.mk #[]), .bool false, .int .i64 30])) else False) := by kernel_rfl
theorem ok20 : PureOK Tryz.prog 20 (sp3 s20) := by
 refine qure3 ok_G37 hmix fn20 lokf_none (Nat.le_of_ble_eq_true (by kernel_rfl)) fun n q s hc => ?_
 rw [DoesQ, v20]
 have hc : (s.size ≤ 9223372036854775807 ∧ -9223372036854775808 ≤ n ∧ n ≤ 9223372036854775807) := of_decide_eq_true hc
 try dsimp only [s20]
 refine c_t (decide_eq_true hc.1) (cond_intro (fun h => ?_) (fun h => ?_))
 ·intro k cap d hR hz
  refine c_t (by simp) (cond_intro (fun hq => ?_) (fun hq => ?_))
  ·have hq : q < 0 ∨ q > 9 := by simpa using hq
   have h1 : ¬ (0 ≤ q ∧ q ≤ 9) := by omega
   rw [edS, edF, edE, if_neg (fun e => h1 ⟨e.2.1, e.2.2⟩), if_neg (fun e => h1 ⟨e.2.1, e.2.2⟩), if_pos h, if_neg h1, sz_nil]
  ·have hq : 0 ≤ q ∧ q ≤ 9 := by
    simp only [Bool.or_eq_false_iff, decide_eq_false_iff_not] at hq
    omega
   have hp := pD_rng h
   obtain ⟨g1, g2⟩ := wr_use h hR hz (cuN_lt n q (pQ (bz s)) (pD (bz s)) (pG (bz s)))
   refine c_t (by simp only [i64B, Bool.and_eq_true, decide_eq_true_eq]; omega) (c_t g1 fun t l h1 h2 => ?_)
   rw [g2] at h1 h2
   rw [edS, edF, edE, if_pos ⟨h, hq⟩, if_pos ⟨h, hq⟩, if_pos h, if_pos hq, ← h1]
 ·have h1 : ¬ pN (bz s) = true := by rw [h]; simp
  rw [edS, edF, edE, if_neg (fun e => h1 e.1), if_neg (fun e => h1 e.1), if_neg h1, sz_nil]
def s36 (n : Int) (s : ByteArray) : Bool × Value := (decide (s.size ≤ 9223372036854775807 ∧ -9223372036854775808 ≤ n ∧ n ≤ 9223372036854775807), .tuple ⟨[.int .i64 (leZ (bz s) n), .int .i64 (nE (bz s))]⟩)
theorem fn36 : Fn1 Tryz.prog 36 Tryz.f36 := ⟨Tryz.func36, by kernel_rfl, by kernel_rfl, by kernel_rfl⟩
theorem v36 (n : Int) (s : ByteArray) (R : Value → Prop) : bodyQ Tryz.prog G37 noL Tryz.f36 [Enc.enc n, Enc.enc s] (fun _ => none) 0 (fun v _ _ => R v) = ( bif decide (ByteArray.size s ≤ 9223372036854775807) then bif pN (bz s) then ∀ (k cap : Nat) (d : List Value), rowIOK d k cap = true → zc d k = rolF (pS (bz s)) → bif i64B n && (decide (0 ≤ pQ (bz s) ∧ pQ (bz s) ≤ 9) && (decide (0 ≤ pQ (bz s) ∧ pQ (bz s) ≤ 9) && decide (0 ≤ pD (bz s) ∧ pD (bz s) ≤ 9))) then bif rowIOK d k cap && (roOK (zc d k) && (dgL (bz (sz (digZ (↑(Int.natAbs (cuN n (pQ (bz s)) (pQ (bz s)) (pD (bz s)) (pG (bz s)))) : Int) (Int.toNat (pD (bz s)))))) && decide ((k ≤ 1000 ∧ ByteArray.size (sz (digZ (↑(Int.natAbs (cuN n (pQ (bz s)) (pQ (bz s)) (pD (bz s)) (pG (bz s)))) : Int) (Int.toNat (pD (bz s))))) ≤ 1000 ∧ k ≤ ByteArray.size (sz (pS (bz s))) ∧ ByteArray.size (sz (pS (bz s))) ≤ 1000 ∧ 0 ≤ pW (bz s) ∧ pW (bz s) ≤ 1000) ∧ cdg (zc d k) ≤ (↑(ByteArray.size (sz (digZ (↑(Int.natAbs (cuN n (pQ (bz s)) (pQ (bz s)) (pD (bz s)) (pG (bz s)))) : Int) (Int.toNat (pD (bz s)))))) : Int) ∧ (fdFl (pS (bz s)) = 32 ∨ fdFl (pS (bz s)) = 42)))) then ∀ (t : ByteArray) (l : Int), sz (Prod.fst (wrV (bz (sz (pS (bz s)))) (pW (bz s)) (Prod.snd (Prod.snd (nD (bodyZ (pS (bz s)))))) (crZ (pS (bz s))) (drZ (bodyZ (pS (bz s)))) (fdFl (pS (bz s))) (↑(cntZ (mkGo (drZ (bodyZ (pS (bz s)))) false (bodyZ (pS (bz s)))) 100) : Int) (zc d k) (bz (sz (digZ (↑(Int.natAbs (cuN n (pQ (bz s)) (pQ (bz s)) (pD (bz s)) (pG (bz s)))) : Int) (Int.toNat (pD (bz s)))))) (decide (cuN n (pQ (bz s)) (pQ (bz s)) (pD (bz s)) (pG (bz s)) < 0)))) = t → Prod.snd (wrV (bz (sz (pS (bz s)))) (pW (bz s)) (Prod.snd (Prod.snd (nD (bodyZ (pS (bz s)))))) (crZ (pS (bz s))) (drZ (bodyZ (pS (bz s)))) (fdFl (pS (bz s))) (↑(cntZ (mkGo (drZ (bodyZ (pS (bz s)))) false (bodyZ (pS (bz s)))) 100) : Int) (zc d k) (bz (sz (digZ (↑(Int.natAbs (cuN n (pQ (bz s)) (pQ (bz s)) (pD (bz s)) (pG (bz s)))) : Int) (Int.toNat (pD (bz s)))))) (decide (cuN n (pQ (bz s)) (pQ (bz s)) (pD (bz s)) (pG (bz s)) < 0))) = l → R (.tuple (.mk [.int .i64 l, .int .i64 0])) else False else False else R (.tuple (.mk [.int .i64 0, .int .i64 30])) else False) := by kernel_rfl
theorem ok36 : PureOK Tryz.prog 36 (sp2 s36) := by
 refine qure2 ok_G37 hmix fn36 lokf_none (Nat.le_of_ble_eq_true (by kernel_rfl)) fun n s hc => ?_
 rw [DoesQ, v36]
 have hc : (s.size ≤ 9223372036854775807 ∧ -9223372036854775808 ≤ n ∧ n ≤ 9223372036854775807) := of_decide_eq_true hc
 try dsimp only [s36]
 refine c_t (decide_eq_true hc.1) (cond_intro (fun h => ?_) (fun h => ?_))
 ·intro k cap d hR hz
  have hp := pD_rng h
  obtain ⟨g1, g2⟩ := wr_use h hR hz (cuN_lt n (pQ (bz s)) (pQ (bz s)) (pD (bz s)) (pG (bz s)))
  refine c_t (by simp only [i64B, Bool.and_eq_true, decide_eq_true_eq]; omega) (c_t g1 fun t l h1 h2 => ?_)
  rw [g2] at h1 h2
  rw [leZ, nE, if_pos h, if_pos h, ← h2]
  rfl
 ·have h1 : ¬ pN (bz s) = true := by rw [h]; simp
  rw [leZ, nE, if_neg h1, if_neg h1]
end Go.Px
end
noncomputable section
namespace Go.Px
open Go Go.Ab Go.Proofs
def cel0 (le fill dr : Int) (neg : Bool) (m c d o : Int) : Int :=
 bif m == 100 then fmZ c d neg else bif m == 99 then (bif decide (o < le) then fill else d)
 else bif m == 105 then (bif c == 66 then 32 else bif decide (o < le) then fill else c) else ssZ c dr neg
def celZ (le fill dr : Int) (neg : Bool) (m c d o : Int) : Int := bif dr != 0 && o == le - 1 then sgZ dr neg else cel0 le fill dr neg m c d o
def fsGo (le fill dr : Int) (neg : Bool) : List Int → List Int → List Int → Int → List Int
 | [], _, _, _ => []
 | m :: r, sp, ds, o => bif m == 118 then fsGo le fill dr neg r sp.tail ds o
  else celZ le fill dr neg m (sp.headD 0) (ds.headD 0) o :: fsGo le fill dr neg r sp.tail (bif isP m then ds.tail else ds) (o + 1)
theorem fd_cons (le fill dr : Int) (neg : Bool) (m : Int) (r sp ds : List Int) (o : Int) : fdGo le fill dr neg (m :: r) sp ds o =
  bif m == 118 then fdGo le fill dr neg r sp.tail ds o else cel0 le fill dr neg m (sp.headD 0) (ds.headD 0) o :: fdGo le fill dr neg r sp.tail (bif isP m then ds.tail else ds) (o + 1) := by
 rw [fdGo, cel0, isP]
 by_cases h1 : m = 100
 ·subst h1; rfl
 by_cases h2 : m = 99
 ·subst h2; rfl
 by_cases h3 : m = 105
 ·subst h3; rfl
 have e1 : (m == 100) = false := beq_eq_false_iff_ne.2 h1
 have e2 : (m == 99) = false := beq_eq_false_iff_ne.2 h2
 have e3 : (m == 105) = false := beq_eq_false_iff_ne.2 h3
 rw [e1, e2, e3]
 by_cases h4 : m = 118
 ·subst h4; rfl
 have e4 : (m == 118) = false := beq_eq_false_iff_ne.2 h4
 have e5 : (m != 118) = true := by rw [bne, e4]; rfl
 rw [e4, e5]
 rfl
theorem fs_past {le fill dr : Int} {neg : Bool} : ∀ (ms sp ds : List Int) (o : Int), dr = 0 ∨ le - 1 < o → fsGo le fill dr neg ms sp ds o = fdGo le fill dr neg ms sp ds o
 | [], _, _, _, _ => rfl
 | m :: r, sp, ds, o, h => by
  have hc : (dr != 0 && o == le - 1) = false := by
   rcases h with rfl | h
   ·rfl
   ·have : (o == le - 1) = false := beq_eq_false_iff_ne.2 (by omega)
    rw [this, Bool.and_false]
  rw [fsGo, fd_cons, celZ, hc, cond_false, fs_past r _ _ (o + 1) (by omega), fs_past r _ _ o h]
theorem fs_set {le fill dr : Int} {neg : Bool} (hd : dr ≠ 0) : ∀ (ms sp ds : List Int) (o : Int), o ≤ le - 1 → le - 1 < o + nv ms → fsGo le fill dr neg ms sp ds o = (fdGo le fill dr neg ms sp ds o).set (le - 1 - o).toNat (sgZ dr neg)
 | [], _, _, o, h1, h2 => by simp [nv] at h2; omega
 | m :: r, sp, ds, o, h1, h2 => by
  rw [nv_cons] at h2
  rw [fsGo, fd_cons]
  by_cases hm : m = 118
  ·subst hm
   rw [if_pos rfl] at h2
   exact fs_set hd r _ _ o h1 (by omega)
  ·have e : (m == 118) = false := beq_eq_false_iff_ne.2 hm
   rw [if_neg hm] at h2
   rw [e, cond_false, cond_false, celZ]
   have hd' : (dr != 0) = true := bne_iff_ne.2 hd
   by_cases ho : o = le - 1
   ·have e2 : (o == le - 1) = true := beq_iff_eq.2 ho
    rw [hd', e2, fs_past r _ _ (o + 1) (.inr (by omega))]
    have : (le - 1 - o).toNat = 0 := by omega
    rw [this]
    rfl
   ·have e2 : (o == le - 1) = false := beq_eq_false_iff_ne.2 ho
    have : (le - 1 - o).toNat = (le - 1 - (o + 1)).toNat + 1 := by omega
    rw [e2, Bool.and_false, cond_false, fs_set hd r _ _ (o + 1) (by omega) (by omega), this]
    rfl
theorem fs_len (le fill dr : Int) (neg : Bool) : ∀ (ms sp ds : List Int) (o : Int), (fsGo le fill dr neg ms sp ds o).length = nv ms
 | [], _, _, _ => rfl
 | m :: r, sp, ds, o => by
  rw [fsGo, nv_cons]
  by_cases hm : m = 118
  ·subst hm
   rw [if_pos rfl, Nat.zero_add]
   exact fs_len le fill dr neg r _ _ _
  ·have e : (m == 118) = false := beq_eq_false_iff_ne.2 hm
   rw [e, cond_false, List.length_cons, fs_len, if_neg hm]
   omega
theorem field_fs {sp : List Int} {w : Int} {k : Nat} {n : Int} (h : fdOK sp w k n = true) : fieldZ sp w k n =
  bif fdBl sp w k n then rep1 (fdFl sp) w.toNat else fsGo (fdLe sp w k n) (fdFl sp) (fdDr sp) (decide (n < 0)) (marksZ sp) sp (digZ n.natAbs k) 0 := by
 unfold fieldZ
 cases hb : fdBl sp w k n with
 | true => rfl
 | false =>
  rw [cond_false, cond_false]
  unfold fdOK at h
  rw [hb, Bool.false_or] at h
  by_cases h0 : fdDr sp = 0
  ·have e : (fdDr sp != 0) = false := by rw [h0]; rfl
   rw [e, cond_false, fdOut, fs_past _ _ _ _ (.inl h0)]
  ·have e : (fdDr sp != 0) = true := bne_iff_ne.2 h0
   have e2 : (fdDr sp == 0) = false := beq_eq_false_iff_ne.2 h0
   rw [e2, Bool.false_or, decide_eq_true_eq, fdOut, fd_len] at h
   rw [e, cond_true, fdOut, fs_set h0 _ _ _ _ (by omega) (by omega), Int.sub_zero]
end Go.Px
end
noncomputable section
namespace Go.Px
open Go Go.Ab Go.Proofs
def tmZ (s : List Int) : List Int := if crZ s = true then [115, 115] else []
theorem marks_eq (s : List Int) : marksZ s = mkGo (drZ (bodyZ s)) false (bodyZ s) ++ tmZ s := rfl
end Go.Px
end
noncomputable section
namespace Go.Px
open Go Go.Ab Go.Proofs
theorem fdN_len {l : List Int} (hl : IsB (pS l) ∧ (pS l).length ≤ 32) (h : pN l = true) (n : Int) : ((fdN l n).length : Int) = pW l := by
 obtain ⟨_, _, p3, p4, _, p6⟩ := pN_ok hl h n
 rw [fdN, field_fs p6]
 cases fdBl (pS l) (pW l) (pD l).toNat n with
 | true => simp [rep1]; omega
 | false => rw [cond_false, fs_len, pN_nv h]
end Go.Px
end
noncomputable section
set_option maxHeartbeats 3200000
namespace Go.Px
open Go Go.Ab Go.Proofs Go.Shelf
theorem unK_dig {c : Int} (h1 : c ≥ 48) (h2 : c ≤ 57) : unK c = false := by
 cases h : unK c with
 | false => rfl
 | true =>
  have := hasZ_iff.1 h
  simp only [punchedZ, List.mem_cons, List.not_mem_nil, or_false] at this
  omega
def gsGo : List Int → List Int → List Int
 | [], _ => []
 | r :: rs, cs => bif r == 2 then gsGo rs cs else bif r != 0 && r != 1 then gsGo rs cs.tail else (48 + rdD (cs.headD 0)) :: gsGo rs cs.tail
def V67_0 : ByteArray × ByteArray × Rw × Int × Nat × Nat × Int × Int × List Value → List Value := fun (t, r4, o, aa, k2, cap2, L, i, d) => [.string t, .string r4, o.v 200, .int .i64 aa, .slice (some ⟨1, 0, some 1⟩) k2 cap2, .int .i64 L, .int .i64 i]
def B67_0 : ByteArray × ByteArray × Rw × Int × Nat × Nat × Int × Int × List Value → List (Option Blk) := fun (t, r4, o, aa, k2, cap2, L, i, d) => [some ⟨d, 102, false⟩, o.b]
def S67_0 : LSpecA (ByteArray × ByteArray × Rw × Int × Nat × Nat × Int × Int × List Value) where
 live := [1, 4, 5, 6, 16, 17, 18]
 mid := [1, 200]
 n := 210
 ap := [(.tmp 5, 200)]
 dec vs bs := match vs, bs with | [.string t, .string r4, .slice none 0 0, .int .i64 aa, .slice (some ⟨1, 0, some 1⟩) k2 cap2, .int .i64 L, .int .i64 i], [some ⟨d, 102, false⟩, none] => some (t, r4, .nil, aa, k2, cap2, L, i, d) | [.string t, .string r4, .slice (some ⟨200, 0, some 1⟩) om oc, .int .i64 aa, .slice (some ⟨1, 0, some 1⟩) k2 cap2, .int .i64 L, .int .i64 i], [some ⟨d, 102, false⟩, some ⟨od, 5, true⟩] => some (t, r4, .own od om oc, aa, k2, cap2, L, i, d) | _, _ => none
 pre := fun (t, r4, o, aa, k2, cap2, L, i, d) => o.ok && (rowIOK d k2 cap2 && decide (0 ≤ i ∧ i ≤ k2 ∧ k2 ≤ 1000 ∧ L = k2 ∧ 0 ≤ aa ∧ aa ≤ i ∧ aa + cN ((zc d k2).drop i.toNat) ≤ t.size ∧ o.z.length ≤ i))
 fin := fun (t, r4, o, aa, k2, cap2, L, i, d) Z => (o.is = false → gsGo ((zc d k2).drop i.toNat) ((bz t).drop aa.toNat) = [] → ∀ a' i', Z (.exit 0) [.string t, .string r4, .slice none 0 0, .int .i64 a', .slice (some ⟨1, 0, some 1⟩) k2 cap2, .int .i64 L, .int .i64 i'] [some ⟨d, 102, false⟩, none]) ∧ (∀ a' i' od' om' oc', rowOK od' om' oc' = true → zc od' om' = o.z ++ gsGo ((zc d k2).drop i.toNat) ((bz t).drop aa.toNat) → Z (.exit 0) [.string t, .string r4, .slice (some ⟨200, 0, some 1⟩) om' oc', .int .i64 a', .slice (some ⟨1, 0, some 1⟩) k2 cap2, .int .i64 L, .int .i64 i'] [some ⟨d, 102, false⟩, some ⟨od', 5, true⟩])
theorem r67_0n (t : ByteArray) (r4 : ByteArray) (aa : Int) (k2 : Nat) (cap2 : Nat) (L : Int) (i : Int) (d : List Value) (jk : Tmps) (R : Exit → List Value → List (Option Blk) → Prop) : (codeQ Tryz.prog G37 noL Tryz.f67.ntmps (loopOf Tryz.f67 0) (tl S67_0.live (V67_0 (t, r4, .nil, aa, k2, cap2, L, i, d)) jk) (ml S67_0.mid (B67_0 (t, r4, .nil, aa, k2, cap2, L, i, d))) S67_0.n fun e t' m' _ => S67_0.out R e t' m') = ( bif decide (i < L) then bif decide (0 ≤ i ∧ i < (↑k2 : Int)) then bif isIntAt IntKind.i64 d (0 + Int.toNat i * 1) then bif intAt d (0 + Int.toNat i * 1) == 2 then bif goodL [] d && true && true then R Exit.normal [.string t, .string r4, .slice none 0 0, .int .i64 aa, .slice (some (.mk 1 0 (some 1))) k2 cap2, .int .i64 L, .int .i64 (IntKind.wrap .i64 (i + 1))] [some (.mk (rlbL [] d) 102 false), none] else False else bif decide (0 ≤ aa ∧ aa < (↑(ByteArray.size t) : Int)) then bif intAt d (0 + Int.toNat i * 1) != 0 || true then bif intAt d (0 + Int.toNat i * 1) != 0 && intAt d (0 + Int.toNat i * 1) != 1 then bif goodL [] d && true && true then R Exit.normal [.string t, .string r4, .slice none 0 0, .int .i64 (IntKind.wrap .i64 (aa + 1)), .slice (some (.mk 1 0 (some 1))) k2 cap2, .int .i64 L, .int .i64 (IntKind.wrap .i64 (i + 1))] [some (.mk (rlbL [] d) 102 false), none] else False else bif decide (byteAt t (Int.toNat aa) ≥ 48) || true then bif decide (byteAt t (Int.toNat aa) ≥ 48) && decide (byteAt t (Int.toNat aa) ≤ 57) then ∀ (cap : Nat) (tail : List Value), tailOK tail cap 1 1 = true → bif goodL [(248, 200)] d && (goodL [(248, 200)] (.int .u8 (byteAt t (Int.toNat aa)) :: tail) && true) && true then R Exit.normal [.string t, .string r4, .slice (some (.mk 200 0 (some 1))) 1 cap, .int .i64 (IntKind.wrap .i64 (aa + 1)), .slice (some (.mk 1 0 (some 1))) k2 cap2, .int .i64 L, .int .i64 (IntKind.wrap .i64 (i + 1))] [some (.mk (rlbL [(248, 200)] d) 102 false), some (.mk (rlbL [(248, 200)] (.int .u8 (byteAt t (Int.toNat aa)) :: tail)) 5 true)] else False else bif unK (byteAt t (Int.toNat aa)) then ∀ (cap : Nat) (tail : List Value), tailOK tail cap 1 1 = true → bif goodL [(252, 200)] d && (goodL [(252, 200)] (.int .u8 (IntKind.wrap .u8 (48 + IntKind.wrap .u8 (unD (byteAt t (Int.toNat aa))))) :: tail) && true) && true then R Exit.normal [.string t, .string r4, .slice (some (.mk 200 0 (some 1))) 1 cap, .int .i64 (IntKind.wrap .i64 (aa + 1)), .slice (some (.mk 1 0 (some 1))) k2 cap2, .int .i64 L, .int .i64 (IntKind.wrap .i64 (i + 1))] [some (.mk (rlbL [(252, 200)] d) 102 false), some (.mk (rlbL [(252, 200)] (.int .u8 (IntKind.wrap .u8 (48 + IntKind.wrap .u8 (unD (byteAt t (Int.toNat aa))))) :: tail)) 5 true)] else False else ∀ (cap : Nat) (tail : List Value), tailOK tail cap 1 1 = true → bif goodL [(249, 200)] d && (goodL [(249, 200)] (.int .u8 48 :: tail) && true) && true then R Exit.normal [.string t, .string r4, .slice (some (.mk 200 0 (some 1))) 1 cap, .int .i64 (IntKind.wrap .i64 (aa + 1)), .slice (some (.mk 1 0 (some 1))) k2 cap2, .int .i64 L, .int .i64 (IntKind.wrap .i64 (i + 1))] [some (.mk (rlbL [(249, 200)] d) 102 false), some (.mk (rlbL [(249, 200)] (.int .u8 48 :: tail)) 5 true)] else False else False else False else False else False else False else bif goodL [] d && true && true then R (Exit.exit 0) [.string t, .string r4, .slice none 0 0, .int .i64 aa, .slice (some (.mk 1 0 (some 1))) k2 cap2, .int .i64 L, .int .i64 i] [some (.mk (rlbL [] d) 102 false), none] else False) := by kernel_rfl
theorem r67_0o (t : ByteArray) (r4 : ByteArray) (od : List Value) (om : Nat) (oc : Nat) (aa : Int) (k2 : Nat) (cap2 : Nat) (L : Int) (i : Int) (d : List Value) (jk : Tmps) (R : Exit → List Value → List (Option Blk) → Prop) : (codeQ Tryz.prog G37 noL Tryz.f67.ntmps (loopOf Tryz.f67 0) (tl S67_0.live (V67_0 (t, r4, (.own od om oc), aa, k2, cap2, L, i, d)) jk) (ml S67_0.mid (B67_0 (t, r4, (.own od om oc), aa, k2, cap2, L, i, d))) S67_0.n fun e t' m' _ => S67_0.out R e t' m') = ( bif decide (i < L) then bif decide (0 ≤ i ∧ i < (↑k2 : Int)) then bif isIntAt IntKind.i64 d (0 + Int.toNat i * 1) then bif intAt d (0 + Int.toNat i * 1) == 2 then bif goodL [(200, 200)] d && (goodL [(200, 200)] od && true) && true then R Exit.normal [.string t, .string r4, .slice (some (.mk 200 0 (some 1))) om oc, .int .i64 aa, .slice (some (.mk 1 0 (some 1))) k2 cap2, .int .i64 L, .int .i64 (IntKind.wrap .i64 (i + 1))] [some (.mk (rlbL [(200, 200)] d) 102 false), some (.mk (rlbL [(200, 200)] od) 5 true)] else False else bif decide (0 ≤ aa ∧ aa < (↑(ByteArray.size t) : Int)) then bif intAt d (0 + Int.toNat i * 1) != 0 || true then bif intAt d (0 + Int.toNat i * 1) != 0 && intAt d (0 + Int.toNat i * 1) != 1 then bif goodL [(200, 200)] d && (goodL [(200, 200)] od && true) && true then R Exit.normal [.string t, .string r4, .slice (some (.mk 200 0 (some 1))) om oc, .int .i64 (IntKind.wrap .i64 (aa + 1)), .slice (some (.mk 1 0 (some 1))) k2 cap2, .int .i64 L, .int .i64 (IntKind.wrap .i64 (i + 1))] [some (.mk (rlbL [(200, 200)] d) 102 false), some (.mk (rlbL [(200, 200)] od) 5 true)] else False else bif decide (byteAt t (Int.toNat aa) ≥ 48) || true then bif decide (byteAt t (Int.toNat aa) ≥ 48) && decide (byteAt t (Int.toNat aa) ≤ 57) then bif Nat.beq (List.length od) (oc * 1) && Nat.ble om oc && Nat.ble oc 9223372036854775807 && true && fitsA (om + 1) 1 then ∀ (cap : Nat) (tail : List Value), tailOK tail cap (om + 1) 1 = true → bif goodL [(248, 200)] d && (goodL [(248, 200)] (List.take (om * 1) od ++ [.int .u8 (byteAt t (Int.toNat aa))] ++ tail) && true) && true then R Exit.normal [.string t, .string r4, .slice (some (.mk 200 0 (some 1))) (om + 1) cap, .int .i64 (IntKind.wrap .i64 (aa + 1)), .slice (some (.mk 1 0 (some 1))) k2 cap2, .int .i64 L, .int .i64 (IntKind.wrap .i64 (i + 1))] [some (.mk (rlbL [(248, 200)] d) 102 false), some (.mk (rlbL [(248, 200)] (List.take (om * 1) od ++ [.int .u8 (byteAt t (Int.toNat aa))] ++ tail)) 5 true)] else False else False else bif unK (byteAt t (Int.toNat aa)) then bif Nat.beq (List.length od) (oc * 1) && Nat.ble om oc && Nat.ble oc 9223372036854775807 && true && fitsA (om + 1) 1 then ∀ (cap : Nat) (tail : List Value), tailOK tail cap (om + 1) 1 = true → bif goodL [(252, 200)] d && (goodL [(252, 200)] (List.take (om * 1) od ++ [.int .u8 (IntKind.wrap .u8 (48 + IntKind.wrap .u8 (unD (byteAt t (Int.toNat aa)))))] ++ tail) && true) && true then R Exit.normal [.string t, .string r4, .slice (some (.mk 200 0 (some 1))) (om + 1) cap, .int .i64 (IntKind.wrap .i64 (aa + 1)), .slice (some (.mk 1 0 (some 1))) k2 cap2, .int .i64 L, .int .i64 (IntKind.wrap .i64 (i + 1))] [some (.mk (rlbL [(252, 200)] d) 102 false), some (.mk (rlbL [(252, 200)] (List.take (om * 1) od ++ [.int .u8 (IntKind.wrap .u8 (48 + IntKind.wrap .u8 (unD (byteAt t (Int.toNat aa)))))] ++ tail)) 5 true)] else False else False else bif Nat.beq (List.length od) (oc * 1) && Nat.ble om oc && Nat.ble oc 9223372036854775807 && true && fitsA (om + 1) 1 then ∀ (cap : Nat) (tail : List Value), tailOK tail cap (om + 1) 1 = true → bif goodL [(249, 200)] d && (goodL [(249, 200)] (List.take (om * 1) od ++ [.int .u8 48] ++ tail) && true) && true then R Exit.normal [.string t, .string r4, .slice (some (.mk 200 0 (some 1))) (om + 1) cap, .int .i64 (IntKind.wrap .i64 (aa + 1)), .slice (some (.mk 1 0 (some 1))) k2 cap2, .int .i64 L, .int .i64 (IntKind.wrap .i64 (i + 1))] [some (.mk (rlbL [(249, 200)] d) 102 false), some (.mk (rlbL [(249, 200)] (List.take (om * 1) od ++ [.int .u8 48] ++ tail)) 5 true)] else False else False else False else False else False else False else False else bif goodL [(200, 200)] d && (goodL [(200, 200)] od && true) && true then R (Exit.exit 0) [.string t, .string r4, .slice (some (.mk 200 0 (some 1))) om oc, .int .i64 aa, .slice (some (.mk 1 0 (some 1))) k2 cap2, .int .i64 L, .int .i64 i] [some (.mk (rlbL [(200, 200)] d) 102 false), some (.mk (rlbL [(200, 200)] od) 5 true)] else False) := by kernel_rfl
theorem l67_0 : LOKf Tryz.prog (oneL 0 S67_0.hA) Tryz.f67 := by
 refine lokf_one (h := S67_0.hA) (by kernel_rfl) (loop_specA ok_G37 hmix (by kernel_rfl) (lok_none _) S67_0 V67_0 B67_0 (fun (t, r4, o, aa, k2, cap2, L, i, d) => (k2 - i).toNat) ?_ ?_ ?_)
 ·intro vs bs s h
  simp only [S67_0] at h
  split at h
  all_goals first | (cases h; exact ⟨rfl, rfl⟩) | cases h | (split at h <;> first | (rename_i hq; cases h; have hq := Nat.eq_of_beq_eq_true hq; subst hq; exact ⟨rfl, rfl⟩) | cases h)
 ·exact fun ⟨t, r4, o, aa, k2, cap2, L, i, d⟩ hp => by
   simp only [S67_0, Bool.and_eq_true] at hp
   have hr := rowIOK_iff.1 hp.2.1
   cases o with
   | nil => simp [V67_0, B67_0, S67_0, idsLt, idsLtB, idsL, ids, Rw.v, Rw.b, ids_plainL hr.plain]
   | own od om oc => simp [V67_0, B67_0, S67_0, idsLt, idsLtB, idsL, ids, Rw.v, Rw.b, ids_plainL hr.plain, ids_plainL (rowOK_iff.1 hp.1).plain]
 ·intro ⟨t, r4, o, aa, k2, cap2, L, i, d⟩ jk Z hp hf
  simp only [S67_0] at hp hf
  cases o with
  | nil =>
   rw [r67_0n]
   simp only [Bool.and_eq_true, decide_eq_true_eq] at hp
   obtain ⟨-, hR, hp⟩ := hp
   have hr := rowIOK_iff.1 hR
   simp only [Rw.z, List.length_nil] at hp hf
   have e0 : 0 + i.toNat * 1 = i.toNat := by omega
   rw [e0]
   refine cond_intro (fun h => ?_) (fun h => ?_)
   ·have h := of_decide_eq_true h
    obtain ⟨a1, a3⟩ := hr.at hp.1 (by omega)
    rw [a3, gsGo] at hf
    rw [a3, cN] at hp
    have hc := cN_nn ((zc d k2).drop (i + 1).toNat)
    rw [a1, w64 (n := i + 1) (by omega), w64 (n := aa + 1) (by omega)]
    generalize intAt d i.toNat = r at *
    refine c_t (decide_eq_true (by omega)) (c_t rfl (cond_intro (fun q => ?_) (fun q => ?_)))
    ·rw [q, cond_true] at hf hp
     refine c_t (by rw [hr.good]; rfl) ?_
     rw [hr.rlb]
     exact ⟨(t, r4, .nil, aa, k2, cap2, L, i + 1, d), rfl, rfl, by simp only [S67_0, Bool.and_eq_true, decide_eq_true_eq]; exact ⟨rfl, hR, by simp only [Rw.z, List.length_nil]; omega⟩, by simp only; omega, hf⟩
    ·rw [q, cond_false] at hf hp
     obtain ⟨p1, p2, p3, p4, p5, p6, p7, p8⟩ := hp
     rw [bz_at p5 (by omega), List.headD_cons, List.tail_cons] at hf
     have hB := byte_rng t aa.toNat
     generalize byteAt t aa.toNat = c at *
     have hu : 0 ≤ unD c ∧ unD c ≤ 9 := by unfold unD; split <;> omega
     rw [w8 (n := unD c) (by omega), w8 (n := 48 + unD c) (by omega)]
     refine c_t (decide_eq_true (by omega)) (c_t (by simp) (cond_intro (fun q2 => ?_) (fun q2 => c_t (by simp) (cond_intro (fun q3 => ?_) (fun q3 => cond_intro (fun q4 => ?_) (fun q4 => ?_))))))
     ·rw [q2, cond_true] at hf
      refine c_t (by rw [hr.good]; rfl) ?_
      rw [hr.rlb]
      exact ⟨(t, r4, .nil, aa + 1, k2, cap2, L, i + 1, d), rfl, rfl, by simp only [S67_0, Bool.and_eq_true, decide_eq_true_eq]; exact ⟨rfl, hR, by simp only [Rw.z, List.length_nil]; omega⟩, by simp only; omega, hf⟩
     ·rw [q2, cond_false] at hf
      intro cap1 tail ht
      obtain ⟨h1, h2⟩ : RowP (Value.int IntKind.u8 (c) :: tail) 1 cap1 ∧ zc (Value.int IntKind.u8 (c) :: tail) 1 = [c] := row_new [c] ht
      have hl1 := zc_length h1
      generalize Value.int IntKind.u8 (c) :: tail = od' at *
      have e : 48 + rdD c = c := by
       have q := q3
       simp only [Bool.and_eq_true, decide_eq_true_eq] at q
       unfold rdD
       rw [unK_dig q.1 q.2, q3]
       simp only [cond_true, cond_false]
       omega
      rw [e] at hf
      refine c_t (by rw [hr.good, h1.good]; rfl) ?_
      rw [hr.rlb, h1.rlb]
      exact ⟨(t, r4, .own od' (1) cap1, aa + 1, k2, cap2, L, i + 1, d), rfl, rfl, by simp only [S67_0, Bool.and_eq_true, decide_eq_true_eq]; exact ⟨rowOK_iff.2 h1, hR, by simp only [Rw.z, hl1]; omega⟩, by simp only; omega, ⟨fun q => (by cases q), fun a' i' od'' om'' oc'' g1 g2 => hf.2 a' i' od'' om'' oc'' g1 (by rw [g2]; simp only [Rw.z, h2, List.append_assoc, List.cons_append, List.nil_append])⟩⟩
     ·rw [q2, cond_false] at hf
      intro cap1 tail ht
      obtain ⟨h1, h2⟩ : RowP (Value.int IntKind.u8 (48 + unD c) :: tail) 1 cap1 ∧ zc (Value.int IntKind.u8 (48 + unD c) :: tail) 1 = [48 + unD c] := row_new [48 + unD c] ht
      have hl1 := zc_length h1
      generalize Value.int IntKind.u8 (48 + unD c) :: tail = od' at *
      have e : 48 + rdD c = 48 + unD c := by
       unfold rdD
       rw [q4]
       rfl
      rw [e] at hf
      refine c_t (by rw [hr.good, h1.good]; rfl) ?_
      rw [hr.rlb, h1.rlb]
      exact ⟨(t, r4, .own od' (1) cap1, aa + 1, k2, cap2, L, i + 1, d), rfl, rfl, by simp only [S67_0, Bool.and_eq_true, decide_eq_true_eq]; exact ⟨rowOK_iff.2 h1, hR, by simp only [Rw.z, hl1]; omega⟩, by simp only; omega, ⟨fun q => (by cases q), fun a' i' od'' om'' oc'' g1 g2 => hf.2 a' i' od'' om'' oc'' g1 (by rw [g2]; simp only [Rw.z, h2, List.append_assoc, List.cons_append, List.nil_append])⟩⟩
     ·rw [q2, cond_false] at hf
      intro cap1 tail ht
      obtain ⟨h1, h2⟩ : RowP (Value.int IntKind.u8 (48) :: tail) 1 cap1 ∧ zc (Value.int IntKind.u8 (48) :: tail) 1 = [48] := row_new [48] ht
      have hl1 := zc_length h1
      generalize Value.int IntKind.u8 (48) :: tail = od' at *
      have e : 48 + rdD c = 48 := by
       unfold rdD
       rw [q4, q3]
       rfl
      rw [e] at hf
      refine c_t (by rw [hr.good, h1.good]; rfl) ?_
      rw [hr.rlb, h1.rlb]
      exact ⟨(t, r4, .own od' (1) cap1, aa + 1, k2, cap2, L, i + 1, d), rfl, rfl, by simp only [S67_0, Bool.and_eq_true, decide_eq_true_eq]; exact ⟨rowOK_iff.2 h1, hR, by simp only [Rw.z, hl1]; omega⟩, by simp only; omega, ⟨fun q => (by cases q), fun a' i' od'' om'' oc'' g1 g2 => hf.2 a' i' od'' om'' oc'' g1 (by rw [g2]; simp only [Rw.z, h2, List.append_assoc, List.cons_append, List.nil_append])⟩⟩
   ·have h := of_decide_eq_false h
    rw [hr.end (by omega), gsGo] at hf
    refine c_t (by rw [hr.good]; rfl) ?_
    rw [hr.rlb]
    exact hf.1 rfl rfl aa i
  | own od om oc =>
   rw [r67_0o]
   simp only [Bool.and_eq_true, decide_eq_true_eq] at hp
   obtain ⟨ho, hR, hp⟩ := hp
   have hr := rowIOK_iff.1 hR
   have ho := rowOK_iff.1 ho
   have hzl := zc_length ho
   simp only [Rw.z, hzl] at hp hf
   have e0 : 0 + i.toNat * 1 = i.toNat := by omega
   rw [e0]
   refine cond_intro (fun h => ?_) (fun h => ?_)
   ·have h := of_decide_eq_true h
    obtain ⟨a1, a3⟩ := hr.at hp.1 (by omega)
    rw [a3, gsGo] at hf
    rw [a3, cN] at hp
    have hc := cN_nn ((zc d k2).drop (i + 1).toNat)
    rw [a1, w64 (n := i + 1) (by omega), w64 (n := aa + 1) (by omega)]
    generalize intAt d i.toNat = r at *
    refine c_t (decide_eq_true (by omega)) (c_t rfl (cond_intro (fun q => ?_) (fun q => ?_)))
    ·rw [q, cond_true] at hf hp
     refine c_t (by rw [hr.good, ho.good]; rfl) ?_
     rw [hr.rlb, ho.rlb]
     exact ⟨(t, r4, .own od om oc, aa, k2, cap2, L, i + 1, d), rfl, rfl, by simp only [S67_0, Bool.and_eq_true, decide_eq_true_eq]; exact ⟨rowOK_iff.2 ho, hR, by simp only [Rw.z, hzl]; omega⟩, by simp only; omega, hf⟩
    ·rw [q, cond_false] at hf hp
     obtain ⟨p1, p2, p3, p4, p5, p6, p7, p8⟩ := hp
     rw [bz_at p5 (by omega), List.headD_cons, List.tail_cons] at hf
     have hB := byte_rng t aa.toNat
     generalize byteAt t aa.toNat = c at *
     have hu : 0 ≤ unD c ∧ unD c ≤ 9 := by unfold unD; split <;> omega
     rw [w8 (n := unD c) (by omega), w8 (n := 48 + unD c) (by omega)]
     refine c_t (decide_eq_true (by omega)) (c_t (by simp) (cond_intro (fun q2 => ?_) (fun q2 => c_t (by simp) (cond_intro (fun q3 => ?_) (fun q3 => cond_intro (fun q4 => ?_) (fun q4 => ?_))))))
     ·rw [q2, cond_true] at hf
      refine c_t (by rw [hr.good, ho.good]; rfl) ?_
      rw [hr.rlb, ho.rlb]
      exact ⟨(t, r4, .own od om oc, aa + 1, k2, cap2, L, i + 1, d), rfl, rfl, by simp only [S67_0, Bool.and_eq_true, decide_eq_true_eq]; exact ⟨rowOK_iff.2 ho, hR, by simp only [Rw.z, hzl]; omega⟩, by simp only; omega, hf⟩
     ·rw [q2, cond_false] at hf
      refine c_t (ho.ask (k := 1) (by omega)) (fun cap1 tail ht => ?_)
      obtain ⟨h1, h2⟩ := ho.app1 (c) ht
      have hl1 := zc_length h1
      generalize List.take (om * 1) od ++ [Value.int IntKind.u8 (c)] ++ tail = od' at *
      have e : 48 + rdD c = c := by
       have q := q3
       simp only [Bool.and_eq_true, decide_eq_true_eq] at q
       unfold rdD
       rw [unK_dig q.1 q.2, q3]
       simp only [cond_true, cond_false]
       omega
      rw [e] at hf
      refine c_t (by rw [hr.good, h1.good]; rfl) ?_
      rw [hr.rlb, h1.rlb]
      exact ⟨(t, r4, .own od' (om + 1) cap1, aa + 1, k2, cap2, L, i + 1, d), rfl, rfl, by simp only [S67_0, Bool.and_eq_true, decide_eq_true_eq]; exact ⟨rowOK_iff.2 h1, hR, by simp only [Rw.z, hl1]; omega⟩, by simp only; omega, ⟨fun q => (by cases q), fun a' i' od'' om'' oc'' g1 g2 => hf.2 a' i' od'' om'' oc'' g1 (by rw [g2]; simp only [Rw.z, h2, List.append_assoc, List.cons_append, List.nil_append])⟩⟩
     ·rw [q2, cond_false] at hf
      refine c_t (ho.ask (k := 1) (by omega)) (fun cap1 tail ht => ?_)
      obtain ⟨h1, h2⟩ := ho.app1 (48 + unD c) ht
      have hl1 := zc_length h1
      generalize List.take (om * 1) od ++ [Value.int IntKind.u8 (48 + unD c)] ++ tail = od' at *
      have e : 48 + rdD c = 48 + unD c := by
       unfold rdD
       rw [q4]
       rfl
      rw [e] at hf
      refine c_t (by rw [hr.good, h1.good]; rfl) ?_
      rw [hr.rlb, h1.rlb]
      exact ⟨(t, r4, .own od' (om + 1) cap1, aa + 1, k2, cap2, L, i + 1, d), rfl, rfl, by simp only [S67_0, Bool.and_eq_true, decide_eq_true_eq]; exact ⟨rowOK_iff.2 h1, hR, by simp only [Rw.z, hl1]; omega⟩, by simp only; omega, ⟨fun q => (by cases q), fun a' i' od'' om'' oc'' g1 g2 => hf.2 a' i' od'' om'' oc'' g1 (by rw [g2]; simp only [Rw.z, h2, List.append_assoc, List.cons_append, List.nil_append])⟩⟩
     ·rw [q2, cond_false] at hf
      refine c_t (ho.ask (k := 1) (by omega)) (fun cap1 tail ht => ?_)
      obtain ⟨h1, h2⟩ := ho.app1 (48) ht
      have hl1 := zc_length h1
      generalize List.take (om * 1) od ++ [Value.int IntKind.u8 (48)] ++ tail = od' at *
      have e : 48 + rdD c = 48 := by
       unfold rdD
       rw [q4, q3]
       rfl
      rw [e] at hf
      refine c_t (by rw [hr.good, h1.good]; rfl) ?_
      rw [hr.rlb, h1.rlb]
      exact ⟨(t, r4, .own od' (om + 1) cap1, aa + 1, k2, cap2, L, i + 1, d), rfl, rfl, by simp only [S67_0, Bool.and_eq_true, decide_eq_true_eq]; exact ⟨rowOK_iff.2 h1, hR, by simp only [Rw.z, hl1]; omega⟩, by simp only; omega, ⟨fun q => (by cases q), fun a' i' od'' om'' oc'' g1 g2 => hf.2 a' i' od'' om'' oc'' g1 (by rw [g2]; simp only [Rw.z, h2, List.append_assoc, List.cons_append, List.nil_append])⟩⟩
   ·have h := of_decide_eq_false h
    rw [hr.end (by omega), gsGo] at hf
    refine c_t (by rw [hr.good, ho.good]; rfl) ?_
    rw [hr.rlb, ho.rlb]
    exact hf.2 aa i od om oc (rowOK_iff.2 ho) (by simp)
end Go.Px
end
noncomputable section
set_option maxHeartbeats 3200000
namespace Go.Px
open Go Go.Ab Go.Proofs Go.Shelf
theorem v67 (s : ByteArray) (nb : Bool) (w : Int) (dg : Int) (sc : Int) (sg : Bool) (k : Nat) (cap : Nat) (dr : Int) (f : Int) (cr : Bool) (fl : Int) (fm : Int) (t : ByteArray) (d : List Value) (R : Value → Prop) : (bodyQ Tryz.prog G37 (oneL 0 S67_0.hA) Tryz.f67 [.pointer (some ⟨0, 0, some 0⟩), .string t] (vwF2 (fmL s nb w dg sc sg 1 k cap dr f cr fl fm) d) 2 (fun v _ _ => R v)) = ( bif goodL [] d && true && true && (idsLt 210 (rlbL [] d) && true) then bif LSpec.pre (LSpecA.toLSpec S67_0) (t, ByteArray.mk #[], Rw.nil, 0, k, cap, natO k, 0, rlbL [] d) then (Rw.is Rw.nil = false → gsGo (List.drop (Int.toNat 0) (zc (rlbL [] d) k)) (List.drop (Int.toNat 0) (bz t)) = [] → ∀ (a' i' : Int), bif idsLt 210 (rlbL [] d) && true then ∀ (x : Tmps), R (.string ByteArray.empty) else False) ∧ ∀ (a' i' : Int) (od' : List Value) (om' oc' : Nat), rowOK od' om' oc' = true → zc od' om' = Rw.z Rw.nil ++ gsGo (List.drop (Int.toNat 0) (zc (rlbL [] d) k)) (List.drop (Int.toNat 0) (bz t)) → bif idsLt 210 (rlbL [] d) && (idsLt 210 od' && true) then ∀ (x : Tmps), bif bytesOK od' 0 om' then R (.string (bytesOf od' 0 om')) else False else False else False else False) := by kernel_rfl
theorem fn67 : Fn1 Tryz.prog 67 Tryz.f67 := ⟨Tryz.func67, by kernel_rfl, by kernel_rfl, by kernel_rfl⟩
theorem w_67 (s : ByteArray) (nb : Bool) (w : Int) (dg : Int) (sc : Int) (sg : Bool) (k : Nat) (cap : Nat) (dr : Int) (f : Int) (cr : Bool) (fl : Int) (fm : Int) (t : ByteArray) (d : List Value) (hR : rowIOK d k cap = true) (hk : k ≤ 1000) (hc : cN (zc d k) ≤ t.size)
  {R : Value → Prop} (hV : R (.string (sz (gsGo (zc d k) (bz t))))) :
  DoesM Tryz.prog G37 (oneL 0 S67_0.hA) Tryz.f67 [.pointer (some ⟨0, 0, some 0⟩), .string t] (vwF2 (fmL s nb w dg sc sg 1 k cap dr f cr fl fm) d) 2 (fun v _ _ => R v) := by
 rw [DoesM, v67]
 have h := rowIOK_iff.1 hR
 have z0 : Int.toNat 0 = 0 := rfl
 have hg : (goodL [] d && true && true && (idsLt 210 d && true)) = true := by rw [h.good]; simp [idsLt, idsL, ids_plainL h.plain]
 have hg' : (goodL [] d && true && (idsLt 210 d && true)) = true := by rw [h.good]; simp [idsLt, idsL, ids_plainL h.plain]
 have hi : (idsLt 210 d && true) = true := by simp [idsLt, idsL, ids_plainL h.plain]
 simp only [h.rlb, z0, List.drop_zero]
 refine c_t (by first | exact hg | exact hg') (c_t ?_ ⟨fun _ hn a' i' => c_t hi fun _ => ?_, fun a' i' od om oc g1 g2 => ?_⟩)
 ·show (Rw.nil.ok && (rowIOK d k cap && decide ((0 : Int) ≤ 0 ∧ (0 : Int) ≤ k ∧ k ≤ 1000 ∧ natO k = k ∧ (0 : Int) ≤ 0 ∧ (0 : Int) ≤ 0 ∧ 0 + cN ((zc d k).drop (Int.toNat 0)) ≤ t.size ∧ ((Rw.nil.z.length : Nat) : Int) ≤ 0))) = true
  rw [hR, natO_eq, z0, List.drop_zero]
  simp only [Bool.true_and, Rw.ok, Rw.z, List.length_nil, decide_eq_true_eq]
  exact ⟨by omega, by omega, by omega, trivial, by omega, by omega, by omega, by omega⟩
 ·rw [hn] at hV
  exact hV
 ·have ho := rowOK_iff.1 g1
  have hio : (idsLt 210 d && (idsLt 210 od && true)) = true := by simp [idsLt, idsL, ids_plainL h.plain, ids_plainL ho.plain]
  have s3 := ho.str
  have g3 : zc od om = gsGo (zc d k) (bz t) := by rw [g2]; rfl
  rw [g3] at s3
  exact c_t hio fun _ => c_t s3.1 (by rw [s3.2]; exact hV)
def h67 : List Value → Lk → Nat → (Value → Lk → Nat → Prop) → Prop := fun args m n K => match args with
 | [.pointer (some ⟨a, 0, some 0⟩), .string t] => match m a with
  | some ⟨[.string s, .bool nb, .int .i64 w, .int .i64 dg, .int .i64 sc, .bool sg, .slice (some ⟨y, 0, some 1⟩) k cap, .int .u8 dr, .int .i64 f, .bool cr, .int .u8 fl, .int .i64 fm], 84, own⟩ => match m y with
   | some ⟨d, 102, own2⟩ => match cnd (rowIOK d k cap && decide (k ≤ 1000 ∧ cN (zc d k) ≤ t.size)) with
    | true => ∀ e : ByteArray, sz (gsGo (zc d k) (bz t)) = e → K (.string e) m n
    | false => False
   | _ => False
  | _ => False
 | _ => False
theorem h67_ok : GenOK Tryz.prog 67 h67 := by
 refine gen_sub ok_G37 hmix fn67 l67_0 fun args m n K h => ?_
 unfold h67 at h
 split at h
 case h_2 => exact h.elim
 rename_i a t
 split at h
 case h_2 => exact h.elim
 rename_i s nb w dg sc sg y k cap dr f cr fl fm own hm
 split at h
 case h_2 => exact h.elim
 rename_i d own2 hy
 split at h
 case h_2 => exact h.elim
 rename_i hc
 simp only [cnd, Bool.and_eq_true, decide_eq_true_eq] at hc
 obtain ⟨h1, h2, h3⟩ := hc
 refine ⟨[.pointer (some ⟨0, 0, some 0⟩), .string t], _, 2, rho2 a y, .string (sz (gsGo (zc d k) (bz t))), sub_F2 (rowIOK_iff.1 h1).plain hm hy, fun ι => by simp [ren, ren1, rho2], Nat.le_of_ble_eq_true (by kernel_rfl), fun v hv j hj => ?_, rfl,
  w_67 s nb w dg sc sg k cap dr f cr fl fm t d h1 h2 h3 (R := fun v => v = .string (sz (gsGo (zc d k) (bz t)))) rfl, h _ rfl⟩
 simp at hv
 rcases hv with rfl | rfl
 ·have : j = 0 := by simpa [ids] using hj
  omega
 ·simp [ids] at hj
end Go.Px
end
noncomputable section
set_option maxHeartbeats 3200000
namespace Go.Px
open Go Go.Ab Go.Proofs Go.Shelf
def V71_0 : ByteArray × Bool × List Value × Nat × Nat × Int × Int → List Value := fun (s, r, d, m, cap, L, i) => [S s, B r, .slice (some ⟨300, 0, some 1⟩) m cap, I L, I i]
def B71_0 : ByteArray × Bool × List Value × Nat × Nat × Int × Int → List (Option Blk) := fun (s, r, d, m, cap, L, i) => [some ⟨d, 5, false⟩]
def S71_0 : LSpecA (ByteArray × Bool × List Value × Nat × Nat × Int × Int) where
 live := [0, 4, 15, 16, 17]
 mid := [300]
 n := 310
 ap := [(.tmp 15, 300)]
 dec vs bs := match vs, bs with | [.string s, .bool r, .slice (some ⟨300, 0, some 1⟩) m cap, .int .i64 L, .int .i64 i], [some ⟨d, 5, false⟩] => some (s, r, d, m, cap, L, i) | _, _ => none
 pre := fun (s, r, d, m, cap, L, i) => vwOK d m && ((bz s).all (hasZ [65, 88, 57]) && decide (0 ≤ i ∧ i ≤ m ∧ L = m ∧ s.size = m ∧ m ≤ 1000))
 fin := fun (s, r, d, m, cap, L, i) Z => (bif onGo ((bz s).drop i.toNat) ((zc d m).drop i.toNat) then ∀ i', Z (.exit 0) [S s, B r, .slice (some ⟨300, 0, some 1⟩) m cap, I L, I i'] [some ⟨d, 5, false⟩] else ∀ i', Z .ret [S s, B false, .slice (some ⟨300, 0, some 1⟩) m cap, I L, I i'] [some ⟨d, 5, false⟩])
theorem r71_0 (s : ByteArray) (r : Bool) (d : List Value) (m : Nat) (cap : Nat) (L : Int) (i : Int) (jk : Tmps) (R : Exit → List Value → List (Option Blk) → Prop) : (codeQ Tryz.prog G37 noL Tryz.f71.ntmps (loopOf Tryz.f71 0) (tl S71_0.live (V71_0 (s, r, d, m, cap, L, i)) jk) (ml S71_0.mid (B71_0 (s, r, d, m, cap, L, i))) S71_0.n fun e t' m' _ => S71_0.out R e t' m') = ( bif decide (i < L) then bif decide (0 ≤ i ∧ i < (↑m : Int)) then bif isIntAt IntKind.u8 d (0 + Int.toNat i * 1) then bif decide (intAt d (0 + Int.toNat i * 1) ≥ 48) || true then bif bif decide (intAt d (0 + Int.toNat i * 1) ≥ 65) then decide (intAt d (0 + Int.toNat i * 1) ≤ 90) || (decide (intAt d (0 + Int.toNat i * 1) ≥ 97) || true) else decide (intAt d (0 + Int.toNat i * 1) ≥ 97) || true then bif decide (0 ≤ i ∧ i < (↑(ByteArray.size s) : Int)) && bif byteAt s (Int.toNat i) == 65 then bif !bif decide (intAt d (0 + Int.toNat i * 1) ≥ 65) then decide (intAt d (0 + Int.toNat i * 1) ≤ 90) || decide (intAt d (0 + Int.toNat i * 1) ≥ 97) && decide (intAt d (0 + Int.toNat i * 1) ≤ 122) else decide (intAt d (0 + Int.toNat i * 1) ≥ 97) && decide (intAt d (0 + Int.toNat i * 1) ≤ 122) then intAt d (0 + Int.toNat i * 1) != 32 || decide (0 ≤ i ∧ i < (↑(ByteArray.size s) : Int)) && bif byteAt s (Int.toNat i) == 57 then !(decide (intAt d (0 + Int.toNat i * 1) ≥ 48) && decide (intAt d (0 + Int.toNat i * 1) ≤ 57)) || true else true else decide (0 ≤ i ∧ i < (↑(ByteArray.size s) : Int)) && bif byteAt s (Int.toNat i) == 57 then !(decide (intAt d (0 + Int.toNat i * 1) ≥ 48) && decide (intAt d (0 + Int.toNat i * 1) ≤ 57)) || true else true else decide (0 ≤ i ∧ i < (↑(ByteArray.size s) : Int)) && bif byteAt s (Int.toNat i) == 57 then !(decide (intAt d (0 + Int.toNat i * 1) ≥ 48) && decide (intAt d (0 + Int.toNat i * 1) ≤ 57)) || true else true then bif bif byteAt s (Int.toNat i) == 65 then bif !bif decide (intAt d (0 + Int.toNat i * 1) ≥ 65) then decide (intAt d (0 + Int.toNat i * 1) ≤ 90) || decide (intAt d (0 + Int.toNat i * 1) ≥ 97) && decide (intAt d (0 + Int.toNat i * 1) ≤ 122) else decide (intAt d (0 + Int.toNat i * 1) ≥ 97) && decide (intAt d (0 + Int.toNat i * 1) ≤ 122) then intAt d (0 + Int.toNat i * 1) != 32 || byteAt s (Int.toNat i) == 57 && (!(decide (intAt d (0 + Int.toNat i * 1) ≥ 48) && decide (intAt d (0 + Int.toNat i * 1) ≤ 57)) && intAt d (0 + Int.toNat i * 1) != 32) else byteAt s (Int.toNat i) == 57 && (!(decide (intAt d (0 + Int.toNat i * 1) ≥ 48) && decide (intAt d (0 + Int.toNat i * 1) ≤ 57)) && intAt d (0 + Int.toNat i * 1) != 32) else byteAt s (Int.toNat i) == 57 && (!(decide (intAt d (0 + Int.toNat i * 1) ≥ 48) && decide (intAt d (0 + Int.toNat i * 1) ≤ 57)) && intAt d (0 + Int.toNat i * 1) != 32) then bif goodL [(300, 300)] d && true && true then R Exit.ret [.string s, .bool false, .slice (some (.mk 300 0 (some 1))) m cap, .int .i64 L, .int .i64 i] [some (.mk (rlbL [(300, 300)] d) 5 false)] else False else bif goodL [(300, 300)] d && true && true then R Exit.normal [.string s, .bool r, .slice (some (.mk 300 0 (some 1))) m cap, .int .i64 L, .int .i64 (IntKind.wrap .i64 (i + 1))] [some (.mk (rlbL [(300, 300)] d) 5 false)] else False else False else False else False else False else False else bif goodL [(300, 300)] d && true && true then R (Exit.exit 0) [.string s, .bool r, .slice (some (.mk 300 0 (some 1))) m cap, .int .i64 L, .int .i64 i] [some (.mk (rlbL [(300, 300)] d) 5 false)] else False) := by kernel_rfl
theorem l71_0 : LOKf Tryz.prog (oneL 0 S71_0.hA) Tryz.f71 := by
 refine lokf_one (h := S71_0.hA) (by kernel_rfl) (loop_specA ok_G37 hmix (by kernel_rfl) (lok_none _) S71_0 V71_0 B71_0 (fun (s, r, d, m, cap, L, i) => (m - i).toNat) ?_ ?_ ?_)
 ·intro vs bs s h
  simp only [S71_0] at h
  split at h
  all_goals first | (cases h; exact ⟨rfl, rfl⟩) | cases h | (split at h <;> first | (rename_i hq; cases h; have hq := Nat.eq_of_beq_eq_true hq; subst hq; exact ⟨rfl, rfl⟩) | cases h)
 ·exact fun ⟨s, r, d, m, cap, L, i⟩ hp => by
   simp only [S71_0, Bool.and_eq_true] at hp
   have hv := vwOK_iff.1 hp.1
   simp [V71_0, B71_0, S71_0, idsLt, idsLtB, idsL, ids, ids_plainL hv.plain]
 ·intro ⟨s, r, d, m, cap, L, i⟩ jk Z hp hf
  rw [r71_0]
  simp only [S71_0] at hp hf
  simp only [Bool.and_eq_true, decide_eq_true_eq] at hp
  obtain ⟨hV, hA, hp⟩ := hp
  have hv := vwOK_iff.1 hV
  have e0 : 0 + i.toNat * 1 = i.toNat := by omega
  rw [e0]
  simp only [hv.rlb]
  have hg : ∀ ps, (goodL ps d && true && true) = true := fun ps => by rw [goodL_plain hv.plain]; rfl
  refine cond_intro (fun h => ?_) (fun h => ?_)
  ·have h := of_decide_eq_true h
   obtain ⟨a1, a2, a3⟩ := hv.at hp.1 (by omega)
   have hcb : byteAt s i.toNat = 65 ∨ byteAt s i.toNat = 88 ∨ byteAt s i.toNat = 57 := by
    have hm : byteAt s i.toNat ∈ bz s := List.drop_subset i.toNat (bz s) (by rw [bz_at hp.1 (by omega)]; exact List.mem_cons_self)
    have := List.all_eq_true.1 hA _ hm
    have := hasZ_iff.1 this
    simp only [List.mem_cons, List.not_mem_nil, or_false] at this
    omega
   rw [bz_at hp.1 (by omega), a3, onGo] at hf
   rw [a1, w64 (n := i + 1) (by omega), decide_eq_true (show 0 ≤ i ∧ i < (m : Int) by omega), decide_eq_true (show 0 ≤ i ∧ i < (s.size : Int) by omega)]
   generalize intAt d i.toNat = b at *
   generalize byteAt s i.toNat = c at *
   have el : (bif decide (b ≥ 65) then decide (b ≤ 90) || decide (b ≥ 97) && decide (b ≤ 122) else decide (b ≥ 97) && decide (b ≤ 122)) = letZ b := by
    unfold letZ
    rw [Bool.eq_iff_iff]
    by_cases h1 : b ≥ 65 <;> simp [h1] <;> omega
   have ed : (decide (b ≥ 48) && decide (b ≤ 57)) = isDig b := by
    rw [Bool.eq_iff_iff]
    simp [isDig]
   rw [el, ed]
   have key : (bif c == 65 then bif !letZ b then b != 32 || c == 57 && (!isDig b && b != 32) else c == 57 && (!isDig b && b != 32) else c == 57 && (!isDig b && b != 32)) = !oneZ c b := by
    unfold oneZ
    rcases hcb with rfl | rfl | rfl <;> by_cases h2 : b = 32 <;> simp [h2] <;> cases letZ b <;> cases isDig b <;> simp
   rw [key]
   refine c_t rfl (c_t rfl (c_t (by simp) (c_t (by cases decide (b ≥ 65) <;> simp) (c_t (by cases c == 65 <;> cases !letZ b <;> cases c == 57 <;> simp) (cond_intro (fun q => c_t (hg _) ?_) (fun q => c_t (hg _) ?_))))))
   ·have q : oneZ c b = false := by simpa using q
    rw [q, Bool.false_and, cond_false] at hf
    exact hf i
   ·have q : oneZ c b = true := by simpa using q
    rw [q, Bool.true_and] at hf
    exact ⟨(s, r, d, m, cap, L, i + 1), rfl, rfl, by simp only [S71_0, Bool.and_eq_true, decide_eq_true_eq]; exact ⟨hV, hA, by omega⟩, by simp only; omega, hf⟩
  ·have h := of_decide_eq_false h
   have hz : (bz s).drop i.toNat = [] := List.drop_eq_nil_of_le (by rw [bz_length]; omega)
   rw [hv.end (by omega), hz] at hf
   exact c_t (hg _) (hf i)
end Go.Px
end
noncomputable section
set_option maxHeartbeats 3200000
namespace Go.Px
open Go Go.Ab Go.Proofs Go.Shelf
def s71 (s : ByteArray) (t : ByteArray) : Bool × Value := ((bz s).all (hasZ [65, 88, 57]) && decide (s.size ≤ 1000 ∧ t.size ≤ 9223372036854775807), .bool (decide ((t.size : Int) = s.size) && onGo (bz s) (bz t)))
theorem fn71 : Fn1 Tryz.prog 71 Tryz.f71 := ⟨Tryz.func71, by kernel_rfl, by kernel_rfl, by kernel_rfl⟩
theorem v71 (s : ByteArray) (t : ByteArray) (R : Value → Prop) : bodyQ Tryz.prog G37 (oneL 0 S71_0.hA) Tryz.f71 [Enc.enc s, Enc.enc t] (fun _ => none) 0 (fun v _ _ => R v) = ( bif (↑(ByteArray.size t) : Int) != (↑(ByteArray.size s) : Int) then R (.bool false) else ∀ (cap : Nat), Nat.ble (ByteArray.size t) cap = true → bif goodL [(7, 300)] (Lib.strCells t) && true && true && (idsLt 310 (rlbL [(7, 300)] (Lib.strCells t)) && true) then bif LSpec.pre (LSpecA.toLSpec S71_0) (s, false, rlbL [(7, 300)] (Lib.strCells t), ByteArray.size t, cap, natO (ByteArray.size t), 0) then bif onGo (List.drop (Int.toNat 0) (bz s)) (List.drop (Int.toNat 0) (zc (rlbL [(7, 300)] (Lib.strCells t)) (ByteArray.size t))) then ∀ (i' : Int), bif idsLt 310 (rlbL [(7, 300)] (Lib.strCells t)) && true then ∀ (x : Tmps), R (.bool true) else False else ∀ (i' : Int), bif idsLt 310 (rlbL [(7, 300)] (Lib.strCells t)) && true then ∀ (x : Tmps), R (.bool false) else False else False else False) := by kernel_rfl
theorem ok71 : PureOK Tryz.prog 71 (sp2 s71) := by
 refine qure2 ok_G37 hmix fn71 l71_0 (Nat.le_of_ble_eq_true (by kernel_rfl)) fun s t hc => ?_
 rw [DoesQ, v71]
 try dsimp only [s71]
 obtain ⟨hA, hc⟩ := Bool.and_eq_true_iff.1 hc
 have hc := of_decide_eq_true hc
 obtain ⟨hv, hz⟩ := vw_str t
 have hV := vwOK_iff.2 hv
 refine cond_intro (fun h => ?_) (fun h => fun cap _ => ?_)
 ·have h : ¬ (t.size : Int) = s.size := by simpa using h
  rw [decide_eq_false h]
  rfl
 ·have h : (t.size : Int) = s.size := by simpa using h
  have hg : (goodL [(7, 300)] (Lib.strCells t) && true && true && (idsLt 310 (Lib.strCells t) && true)) = true := by rw [goodL_plain hv.plain]; simp [idsLt, idsL, ids_plainL hv.plain]
  have hi : (idsLt 310 (Lib.strCells t) && true) = true := by simp [idsLt, idsL, ids_plainL hv.plain]
  have z0 : Int.toNat 0 = 0 := rfl
  simp only [hv.rlb, z0, List.drop_zero, hz]
  refine c_t hg (c_t ?_ ?_)
  ·show (vwOK (Lib.strCells t) t.size && ((bz s).all (hasZ [65, 88, 57]) && decide ((0 : Int) ≤ 0 ∧ (0 : Int) ≤ t.size ∧ natO t.size = t.size ∧ s.size = t.size ∧ t.size ≤ 1000))) = true
   rw [hV, hA, natO_eq]
   simp only [Bool.true_and, decide_eq_true_eq]
   exact ⟨by omega, by omega, trivial, by omega, by omega⟩
  ·rw [decide_eq_true h, Bool.true_and]
   refine cond_intro (fun q _ => c_t hi fun _ => by rw [q]) (fun q _ => c_t hi fun _ => by rw [q])
end Go.Px
end
noncomputable section
namespace Go.Px
open Go Go.Ab Go.Proofs Go.Shelf
theorem dec_from : ∀ (l : List UInt8) (a : Nat), dgL (zl l) = true → Lib.decFrom a l = some (numZ (zl l) a).toNat ∧ 0 ≤ numZ (zl l) a
 | [], a, _ => ⟨rfl, Int.natCast_nonneg a⟩
 | b :: r, a, h => by
  have h : dgL ((b.toNat : Int) :: zl r) = true := h
  have h1 : 48 ≤ b.toNat ∧ b.toNat ≤ 57 := by
   simp only [dgL, List.all_cons, Bool.and_eq_true, decide_eq_true_eq] at h
   omega
  have h2 : dgL (zl r) = true := by
   simp only [dgL, List.all_cons, Bool.and_eq_true] at h
   exact h.2
  obtain ⟨e1, e2⟩ := dec_from r (a * 10 + (b.toNat - 48)) h2
  have e : ((a * 10 + (b.toNat - 48) : Nat) : Int) = (a : Int) * 10 + ((b.toNat : Int) - 48) := by omega
  rw [e] at e1 e2
  have hd : Lib.digitVal b = some (b.toNat - 48) := by rw [Lib.digitVal, if_pos h1]
  refine ⟨?_, e2⟩
  rw [Lib.decFrom, hd]
  exact e1
theorem atoi_dig {s : ByteArray} (h0 : 1 ≤ s.size) (h : dgL (bz s) = true) : Lib.atoi s.data.toList = some (dval (bz s)) := by
 have hb : bz s = zl s.data.toList := rfl
 have hl : s.data.toList.length = s.size := rfl
 rw [hb] at h ⊢
 generalize s.data.toList = l at *
 cases l with
 | nil => simp at hl; omega
 | cons b r =>
  have h1 : 48 ≤ b.toNat ∧ b.toNat ≤ 57 := by
   have h : dgL ((b.toNat : Int) :: zl r) = true := h
   simp only [dgL, List.all_cons, Bool.and_eq_true, decide_eq_true_eq] at h
   omega
  have n45 : (b == 45) = false := by
   cases q : b == 45 with
   | false => rfl
   | true => have := eq_of_beq q; rw [this] at h1; revert h1; decide
  have n43 : (b == 43) = false := by
   cases q : b == 43 with
   | false => rfl
   | true => have := eq_of_beq q; rw [this] at h1; revert h1; decide
  obtain ⟨e1, e2⟩ := dec_from (b :: r) 0 h
  rw [Lib.atoi, n45, n43]
  show (Lib.decNat (b :: r)).map (fun m : Nat => (m : Int)) = _
  have : Lib.decNat (b :: r) = Lib.decFrom 0 (b :: r) := rfl
  rw [this, e1, Option.map_some, dval]
  congr 1
  exact Int.toNat_of_nonneg e2
def s68 (s : ByteArray) : Bool × Value := (decide (1 ≤ s.size ∧ s.size ≤ 18) && dgL (bz s), .tuple ⟨[.int .i64 (dval (bz s)), .nilIface]⟩)
theorem ok68 : PureOK Tryz.prog 68 (sp1 s68) := shelf1 c68 fun s hc w _ => by
 simp only [s68, Bool.and_eq_true, decide_eq_true_eq] at hc
 refine (Any.strconv_Atoi (ρ := Tryz.lays172_ren) Tryz.lays172 s (dval (bz s)) hc.1.2 (atoi_dig hc.1.1 hc.2) w).mono fun e w' ⟨h1, t, h2⟩ => ⟨h1, ?_⟩
 subst h2
 exact Lib.bytesWorld_below _ _ _
end Go.Px
end
noncomputable section
namespace Go.Px
open Go Go.Ab Go.Proofs Go.Shelf
theorem gs_law : ∀ (ro cs : List Int) (a : Int), okR ro → ((gsGo ro cs).length : Int) = cdg ro ∧ dgL (gsGo ro cs) = true ∧ numZ (gsGo ro cs) a = rdGo (ro.map rmk) cs a
 | [], _, _, _ => ⟨rfl, rfl, rfl⟩
 | r :: rs, cs, a, hok => by
  have hok' : okR rs := fun x hx => hok x (List.mem_cons_of_mem _ hx)
  rw [gsGo, cdg, List.map_cons, rdGo]
  have hr := rd_rng (cs.headD 0)
  have dig : ∀ l, dgL l = true → dgL ((48 + rdD (cs.headD 0)) :: l) = true := fun l h => by
   simp only [dgL, List.all_cons, Bool.and_eq_true, decide_eq_true_eq] at h ⊢
   exact ⟨by omega, h⟩
  have e : a * 10 + (48 + rdD (cs.headD 0) - 48) = a * 10 + rdD (cs.headD 0) := by omega
  rcases rmk_cases (hok r List.mem_cons_self) with rfl | rfl | rfl | rfl | rfl | rfl
  ·obtain ⟨h1, h2, h3⟩ := gs_law rs cs.tail (a * 10 + rdD (cs.headD 0)) hok'
   refine ⟨?_, dig _ h2, ?_⟩
   ·show (((_ :: gsGo rs cs.tail).length : Nat) : Int) = 1 + cdg rs
    rw [List.length_cons]; omega
   ·show numZ (_ :: gsGo rs cs.tail) a = rdGo (rs.map rmk) cs.tail (a * 10 + rdD (cs.headD 0))
    rw [numZ, e]; exact h3
  ·obtain ⟨h1, h2, h3⟩ := gs_law rs cs.tail (a * 10 + rdD (cs.headD 0)) hok'
   refine ⟨?_, dig _ h2, ?_⟩
   ·show (((_ :: gsGo rs cs.tail).length : Nat) : Int) = 1 + cdg rs
    rw [List.length_cons]; omega
   ·show numZ (_ :: gsGo rs cs.tail) a = rdGo (rs.map rmk) cs.tail (a * 10 + rdD (cs.headD 0))
    rw [numZ, e]; exact h3
  ·obtain ⟨h1, h2, h3⟩ := gs_law rs cs a hok'
   exact ⟨by simpa using h1, h2, h3⟩
  ·obtain ⟨h1, h2, h3⟩ := gs_law rs cs.tail a hok'
   exact ⟨by simpa using h1, h2, h3⟩
  ·obtain ⟨h1, h2, h3⟩ := gs_law rs cs.tail a hok'
   exact ⟨by simpa using h1, h2, h3⟩
  ·obtain ⟨h1, h2, h3⟩ := gs_law rs cs.tail a hok'
   exact ⟨by simpa using h1, h2, h3⟩
end Go.Px
end
noncomputable section
set_option maxHeartbeats 3200000
namespace Go.Px
open Go Go.Ab Go.Proofs Go.Shelf
def G38 : Env := ((G37.addG 67 h67).add 68 (sp1 s68)).add 71 (sp2 s71)
theorem ok_G38 : EnvOK Tryz.prog G38 := env_add (env_add (env_addG ok_G37 h67_ok) ok68) ok71
theorem cN_nv : ∀ (rs : List Int), okR rs → cN rs = nv (rs.map rmk)
 | [], _ => rfl
 | r :: rs, hok => by
  have hok' : okR rs := fun x hx => hok x (List.mem_cons_of_mem _ hx)
  have ih := cN_nv rs hok'
  rw [cN, List.map_cons, nv_cons]
  rcases rmk_cases (hok r List.mem_cons_self) with rfl | rfl | rfl | rfl | rfl | rfl <;> simp [rmk] <;> omega
theorem gs_use {s t : ByteArray} (h : pN (bz s) = true) : digZ (rdA (bz s) (bz t)) (pD (bz s)).toNat = gsGo (rolF (pS (bz s))) (bz t) ∧ 0 ≤ rdA (bz s) (bz t) ∧ rdA (bz s) (bz t) < tenZ (pD (bz s)).toNat ∧ dval (gsGo (rolF (pS (bz s))) (bz t)) = rdA (bz s) (bz t) ∧ cN (rolF (pS (bz s))) = pW (bz s) := by
 have hl := pS_len s
 obtain ⟨f1, f2, f3, _⟩ := pic_facts hl h
 obtain ⟨g1, g2, g3⟩ := gs_law (rolF (pS (bz s))) (bz t) 0 f1
 have hp := pD_rng h
 have hv : dval (gsGo (rolF (pS (bz s))) (bz t)) = rdA (bz s) (bz t) := by rw [dval, g3, f2, rdA]
 have hlen : (gsGo (rolF (pS (bz s))) (bz t)).length = (pD (bz s)).toNat := by omega
 have hr := dval_rng _ g2
 rw [hv, hlen] at hr
 refine ⟨by rw [← hv]; exact digZ_val' _ _ hlen g2, hr.1, hr.2, hv, by rw [cN_nv _ f1, f2, pN_nv h]⟩
def s22 (s : ByteArray) (t : ByteArray) : Bool × Value := (decide (s.size ≤ 9223372036854775807 ∧ t.size ≤ 9223372036854775807), .tuple ⟨[.int .i64 (rdV (bz s) (bz t)).1, .int .i64 (rdV (bz s) (bz t)).2]⟩)
theorem fn22 : Fn1 Tryz.prog 22 Tryz.f22 := ⟨Tryz.func22, by kernel_rfl, by kernel_rfl, by kernel_rfl⟩
theorem v22 (s : ByteArray) (t : ByteArray) (R : Value → Prop) : bodyQ Tryz.prog G38 noL Tryz.f22 [Enc.enc s, Enc.enc t] (fun _ => none) 0 (fun v _ _ => R v) = ( bif decide (ByteArray.size s ≤ 9223372036854775807) then bif pN (bz s) then ∀ (k cap : Nat) (d : List Value), rowIOK d k cap = true → zc d k = rolF (pS (bz s)) → bif (↑(ByteArray.size t) : Int) != pW (bz s) then R (.tuple (.mk [.int .i64 0, .int .i64 31])) else bif rowIOK d k cap && decide (k ≤ 1000 ∧ cN (zc d k) ≤ (↑(ByteArray.size t) : Int)) then ∀ (e : ByteArray), sz (gsGo (zc d k) (bz t)) = e → bif decide (1 ≤ ByteArray.size e ∧ ByteArray.size e ≤ 18) && dgL (bz e) then bif rowIOK d k cap && (roOK (zc d k) && (dgL (bz e) && decide ((k ≤ 1000 ∧ ByteArray.size e ≤ 1000 ∧ k ≤ ByteArray.size (sz (pS (bz s))) ∧ ByteArray.size (sz (pS (bz s))) ≤ 1000 ∧ 0 ≤ pW (bz s) ∧ pW (bz s) ≤ 1000) ∧ cdg (zc d k) ≤ (↑(ByteArray.size e) : Int) ∧ (fdFl (pS (bz s)) = 32 ∨ fdFl (pS (bz s)) = 42)))) then ∀ (t_1 : ByteArray) (l : Int), sz (Prod.fst (wrV (bz (sz (pS (bz s)))) (pW (bz s)) (Prod.snd (Prod.snd (nD (bodyZ (pS (bz s)))))) (crZ (pS (bz s))) (drZ (bodyZ (pS (bz s)))) (fdFl (pS (bz s))) (↑(cntZ (mkGo (drZ (bodyZ (pS (bz s)))) false (bodyZ (pS (bz s)))) 100) : Int) (zc d k) (bz e) false)) = t_1 → Prod.snd (wrV (bz (sz (pS (bz s)))) (pW (bz s)) (Prod.snd (Prod.snd (nD (bodyZ (pS (bz s)))))) (crZ (pS (bz s))) (drZ (bodyZ (pS (bz s)))) (fdFl (pS (bz s))) (↑(cntZ (mkGo (drZ (bodyZ (pS (bz s)))) false (bodyZ (pS (bz s)))) 100) : Int) (zc d k) (bz e) false) = l → bif ByteArray.toList t_1 == ByteArray.toList t then R (.tuple (.mk [.int .i64 (dval (bz e)), .int .i64 0])) else bif rowIOK d k cap && (roOK (zc d k) && (dgL (bz e) && decide ((k ≤ 1000 ∧ ByteArray.size e ≤ 1000 ∧ k ≤ ByteArray.size (sz (pS (bz s))) ∧ ByteArray.size (sz (pS (bz s))) ≤ 1000 ∧ 0 ≤ pW (bz s) ∧ pW (bz s) ≤ 1000) ∧ cdg (zc d k) ≤ (↑(ByteArray.size e) : Int) ∧ (fdFl (pS (bz s)) = 32 ∨ fdFl (pS (bz s)) = 42)))) then ∀ (t_2 : ByteArray) (l : Int), sz (Prod.fst (wrV (bz (sz (pS (bz s)))) (pW (bz s)) (Prod.snd (Prod.snd (nD (bodyZ (pS (bz s)))))) (crZ (pS (bz s))) (drZ (bodyZ (pS (bz s)))) (fdFl (pS (bz s))) (↑(cntZ (mkGo (drZ (bodyZ (pS (bz s)))) false (bodyZ (pS (bz s)))) 100) : Int) (zc d k) (bz e) true)) = t_2 → Prod.snd (wrV (bz (sz (pS (bz s)))) (pW (bz s)) (Prod.snd (Prod.snd (nD (bodyZ (pS (bz s)))))) (crZ (pS (bz s))) (drZ (bodyZ (pS (bz s)))) (fdFl (pS (bz s))) (↑(cntZ (mkGo (drZ (bodyZ (pS (bz s)))) false (bodyZ (pS (bz s)))) 100) : Int) (zc d k) (bz e) true) = l → bif bif ByteArray.toList t_2 == ByteArray.toList t then pG (bz s) || true else true then bif ByteArray.toList t_2 == ByteArray.toList t && (pG (bz s) && decide (dval (bz e) > 0)) then R (.tuple (.mk [.int .i64 (IntKind.wrap .i64 (0 - dval (bz e))), .int .i64 0])) else R (.tuple (.mk [.int .i64 0, .int .i64 31])) else False else False else False else False else False else R (.tuple (.mk [.int .i64 0, .int .i64 30])) else False) := by kernel_rfl
theorem ok22 : PureOK Tryz.prog 22 (sp2 s22) := by
 refine qure2 ok_G38 hmix fn22 lokf_none (Nat.le_of_ble_eq_true (by kernel_rfl)) fun s t hc => ?_
 rw [DoesQ, v22]
 have hc : (s.size ≤ 9223372036854775807 ∧ t.size ≤ 9223372036854775807) := of_decide_eq_true hc
 try dsimp only [s22]
 refine c_t (decide_eq_true hc.1) (cond_intro (fun h => ?_) (fun h => ?_))
 ·intro k cap d hR hz
  obtain ⟨u1, u2, u3, u4, u5⟩ := gs_use (t := t) h
  have hl := pS_len s
  have hr := rowIOK_iff.1 hR
  have hk : k = (pS (bz s)).length := by rw [← rol_len h, ← hz, zi_length hr]
  have hp := pD_rng h
  have bl : ((bz t).length : Int) = t.size := by rw [bz_length]
  refine cond_intro (fun hw => ?_) (fun hw => ?_)
  ·have hw : ¬ (t.size : Int) = pW (bz s) := by simpa using hw
   rw [rdV, if_pos h, bl, if_neg hw]
  ·have hw : (t.size : Int) = pW (bz s) := by simpa using hw
   refine c_t (by rw [hR, hz, u5]; simp only [Bool.true_and, decide_eq_true_eq]; omega) fun e he => ?_
   rw [hz, ← u1] at he
   have hdd := digZ_dg (pD (bz s)).toNat (rdA (bz s) (bz t))
   have be : bz e = digZ (rdA (bz s) (bz t)) (pD (bz s)).toNat := by rw [← he, bz_sz (dg_isB hdd)]
   have ze : e.size = (pD (bz s)).toNat := by rw [← bz_length, be, digZ_len]
   have hv : dval (bz e) = rdA (bz s) (bz t) := by rw [be, u1, u4]
   rw [hv, rdV, if_pos h, bl, if_pos hw]
   generalize rdA (bz s) (bz t) = m at *
   have hm : ((m.natAbs : Nat) : Int) = m := by omega
   have hm' : (((0 - m).natAbs : Nat) : Int) = m := by omega
   obtain ⟨g1, g2⟩ := wr_use h hR hz (m := m) (by omega)
   obtain ⟨k1, k2⟩ := wr_use h hR hz (m := 0 - m) (by omega)
   rw [hm, he] at g1 g2
   rw [hm', he] at k2
   have d0 : decide (m < 0) = false := decide_eq_false (by omega)
   rw [d0] at g2
   have ht : tenZ (pD (bz s)).toNat ≤ 1000000000 := tenZ_le9 (by omega)
   have hF : ∀ (a : ByteArray) (n : Int), sz (fieldZ (pS (bz s)) (pW (bz s)) (pD (bz s)).toNat n) = a → (a.toList == t.toList) = decide (fdN (bz s) n = bz t) := fun a n e => by
    rw [toList_beq, ← e, bz_sz (field_isB hl.1 _ _ _)]
    rfl
   refine c_t (by rw [be, hdd, ze, Bool.and_true, decide_eq_true_eq]; omega) (c_t g1 fun a1 l1 q1 q2 => cond_intro (fun p => ?_) (fun p => c_t g1 fun a2 l2 q3 q4 => ?_))
   ·rw [hF _ _ (by rw [← q1, g2])] at p
    rw [if_pos (of_decide_eq_true p)]
   ·rw [hF _ _ (by rw [← q1, g2])] at p
    have p := of_decide_eq_false p
    rw [if_neg p]
    refine c_t (by cases ByteArray.toList a2 == ByteArray.toList t <;> simp) ?_
    by_cases m0 : m > 0
    ·have d1 : decide (0 - m < 0) = true := decide_eq_true (by omega)
     rw [d1] at k2
     rw [hF _ _ (by rw [← q3, k2]), w64 (n := 0 - m) (by omega)]
     by_cases r1 : fdN (bz s) (0 - m) = bz t
     ·cases hG : pG (bz s) with
      | true =>
       have : (decide (fdN (bz s) (0 - m) = bz t) && (true && decide (m > 0))) = true := by rw [decide_eq_true r1, decide_eq_true m0]; rfl
       rw [this, if_pos ⟨rfl, m0, r1⟩]
       rfl
      | false =>
       rw [Bool.false_and, Bool.and_false, if_neg (fun q => by cases q.1)]
       rfl
     ·rw [decide_eq_false r1, Bool.false_and, if_neg (fun q => r1 q.2.2)]
      rfl
    ·rw [decide_eq_false m0, Bool.and_false, Bool.and_false, if_neg (fun q => m0 q.2.1)]
     rfl
 ·have h1 : ¬ pN (bz s) = true := by rw [h]; simp
  rw [rdV, if_neg h1]
end Go.Px
end
noncomputable section
set_option maxHeartbeats 3200000
namespace Go.Px
open Go Go.Ab Go.Proofs Go.Shelf
def G39 : Env := (G38.add 22 (sp2 s22))
theorem ok_G39 : EnvOK Tryz.prog G39 := env_add (ok_G38) ok22
theorem ch_all {l : List Int} (h : vOK l = true) (hn : pN l = false) : (pS l).all (hasZ [65, 88, 57]) = true := by
 have hc : charZ (exZ l) = true := by
  simp only [vOK, Bool.and_eq_true, Bool.or_eq_true] at h
  simp only [pN] at hn
  rcases h.2 with q | q
  ·exact q
  ·rw [h.1, q] at hn; cases hn
 rw [pS, if_pos h]
 simp only [charZ, Bool.and_eq_true] at hc
 exact hc.1
def s24 (s : ByteArray) (t : ByteArray) : Bool × Value := (decide (s.size ≤ 9223372036854775807 ∧ t.size ≤ 9223372036854775807), .bool (hoZ (bz s) (bz t)))
theorem fn24 : Fn1 Tryz.prog 24 Tryz.f24 := ⟨Tryz.func24, by kernel_rfl, by kernel_rfl, by kernel_rfl⟩
theorem v24 (s : ByteArray) (t : ByteArray) (R : Value → Prop) : bodyQ Tryz.prog G39 noL Tryz.f24 [Enc.enc s, Enc.enc t] (fun _ => none) 0 (fun v _ _ => R v) = ( bif decide (ByteArray.size s ≤ 9223372036854775807) then bif vOK (bz s) then bif pN (bz s) then ∀ (k cap : Nat) (d : List Value), rowIOK d k cap = true → zc d k = rolF (pS (bz s)) → bif decide (ByteArray.size s ≤ 9223372036854775807 ∧ ByteArray.size t ≤ 9223372036854775807) then R (.bool (Prod.snd (rdV (bz s) (bz t)) == 0)) else False else bif List.all (bz (sz (pS (bz s)))) (hasZ [65, 88, 57]) && decide (ByteArray.size (sz (pS (bz s))) ≤ 1000 ∧ ByteArray.size t ≤ 9223372036854775807) then R (.bool (decide ((↑(ByteArray.size t) : Int) = (↑(ByteArray.size (sz (pS (bz s)))) : Int)) && onGo (bz (sz (pS (bz s)))) (bz t))) else False else R (.bool false) else False) := by kernel_rfl
theorem ok24 : PureOK Tryz.prog 24 (sp2 s24) := by
 refine qure2 ok_G39 hmix fn24 lokf_none (Nat.le_of_ble_eq_true (by kernel_rfl)) fun s t hc => ?_
 rw [DoesQ, v24]
 have hc : (s.size ≤ 9223372036854775807 ∧ t.size ≤ 9223372036854775807) := of_decide_eq_true hc
 try dsimp only [s24]
 refine c_t (decide_eq_true hc.1) (cond_intro (fun h => cond_intro (fun hn => ?_) (fun hn => ?_)) (fun h => ?_))
 ·intro k cap d _ _
  refine c_t (decide_eq_true hc) ?_
  rw [hoZ, if_pos h, if_pos hn]
  rfl
 ·have hl := pS_len s
  have b1 : bz (sz (pS (bz s))) = pS (bz s) := bz_sz hl.1
  have z1 : (sz (pS (bz s))).size = (pS (bz s)).length := by rw [← bz_length, b1]
  have hn' : ¬ pN (bz s) = true := by rw [hn]; simp
  rw [b1, z1, ch_all h hn]
  refine c_t (by simp only [Bool.true_and, decide_eq_true_eq]; omega) ?_
  rw [hoZ, if_pos h, if_neg hn', pCh h hn, bz_length]
 ·have h1 : ¬ vOK (bz s) = true := by rw [h]; simp
  rw [hoZ, if_neg h1]
end Go.Px
end
noncomputable section
set_option maxHeartbeats 3200000
namespace Go.Px
open Go Go.Ab Go.Proofs Go.Shelf
def L19 : Env := (((((((Env.nil.add 20 (sp3 s20)).add 22 (sp2 s22)).add 24 (sp2 s24)).add 31 (sp1 s31)).add 33 (sp1 s33)).add 35 (sp1 s35)).add 44 (sp1 s44))
theorem ok_L19 : EnvOK Tryz.prog L19 := env_add (env_add (env_add (env_add (env_add (env_add (env_add (env_nil) ok20) ok22) ok24) ok31) ok33) ok35) ok44
def s19 : Bool × Value := (true, .bool true)
theorem fn19 : Fn1 Tryz.prog 19 Tryz.f19 := ⟨Tryz.func19, by kernel_rfl, by kernel_rfl, by kernel_rfl⟩
theorem v19  (R : Value → Prop) : bodyQ Tryz.prog L19 noL Tryz.f19 [] (fun _ => none) 0 (fun v _ _ => R v) = ( R (.bool (Prod.snd (rdV (bz (ByteArray.mk #[83, 57, 57])) (bz (ByteArray.mk #[45, 48, 48]))) == 31 && (pN (bz (ByteArray.mk #[90, 86, 57])) && (!pN (bz (ByteArray.mk #[65, 88])) && (hoZ (bz (ByteArray.mk #[65, 57])) (bz (ByteArray.mk #[120, 32])) && pE (bz (ByteArray.mk #[57, 90])) == 30)))))) := by kernel_rfl
theorem ok19 : PureOK Tryz.prog 19 (sp0 s19) := by
 refine qure0 ok_L19 hmix fn19 lokf_none fun hc => ?_
 rw [DoesQ, v19]
 try dsimp only [s19]
 have e : ∀ b : Bool, b = true → Value.bool b = Value.bool true := fun b h => by rw [h]
 exact e _ (by kernel_rfl)
def L3 : Env := (((Env.nil.add 19 (sp0 s19)).add 20 (sp3 s20)).add 21 (sp3 s21))
def s3 (s : ByteArray) (n : Int) (q : Int) : Bool × Value := (decide (s.size ≤ 9223372036854775807 ∧ -9223372036854775808 ≤ n ∧ n ≤ 9223372036854775807), .bool true)
theorem v3 (s : ByteArray) (n : Int) (q : Int) (R : Value → Prop) : bodyQ Tryz.prog L3 noL Tryz.f3 [Enc.enc s, Enc.enc n, Enc.enc q] (fun _ => none) 0 (fun v _ _ => R v) = ( bif decide (ByteArray.size s ≤ 9223372036854775807 ∧ -9223372036854775808 ≤ n ∧ n ≤ 9223372036854775807) then bif decide (ByteArray.size s ≤ 9223372036854775807 ∧ -9223372036854775808 ≤ n ∧ n ≤ 9223372036854775807) then bif bif ByteArray.toList (sz (edS (bz s) n q)) == ByteArray.toList (sz (edS (bz s) n q)) then edF (bz s) n q == edF (bz s) n q || true else true then R (.bool (ByteArray.toList (sz (edS (bz s) n q)) == ByteArray.toList (sz (edS (bz s) n q)) && (edF (bz s) n q == edF (bz s) n q && edE (bz s) q == edE (bz s) q))) else False else False else False) := by kernel_rfl
def L4 : Env := (((((Env.nil.add 19 (sp0 s19)).add 22 (sp2 s22)).add 23 (sp2 s23)).add 24 (sp2 s24)).add 25 (sp2 s25))
def s4 (s : ByteArray) (t : ByteArray) : Bool × Value := (decide (s.size ≤ 9223372036854775807 ∧ t.size ≤ 9223372036854775807), .bool true)
end Go.Px
end
noncomputable section
set_option maxHeartbeats 3200000
namespace Go.Px
open Go Go.Ab Go.Proofs Go.Shelf
def L32 : Env := ((((Env.nil.add 60 (sp1 s60)).add 52 (sp1 s52)).add 96 (sp1 s96)).add 85 (sp2 s85))
theorem ok_L32 : EnvOK Tryz.prog L32 := env_add (env_add (env_add (env_add (env_nil) ok60) ok52) ok96) ok85
def wiZ (l : List Int) (n : Int) : Int := if n.tmod (raH l + 1) < raL l then 0 - n.tmod (raH l + 1) else n.tmod (raH l + 1)
theorem raH_rng (l : List Int) : 0 ≤ raH l ∧ raH l < 1000000000 := by
 unfold raH
 split
 ·rename_i h
  have hp := pD_rng h
  have h1 := tenZ_pos (pD l).toNat
  have h2 : tenZ (pD l).toNat ≤ 1000000000 := tenZ_le9 (by omega)
  omega
 ·omega
theorem tmod_rng (n : Int) {m : Int} (h : 0 < m) : -m < n.tmod m ∧ n.tmod m < m := by
 have h1 := Int.natAbs_tmod n m
 have h2 : n.natAbs % m.natAbs < m.natAbs := Nat.mod_lt _ (by omega)
 omega
def s32 (s : ByteArray) (n : Int) : Bool × Value := (decide (s.size ≤ 9223372036854775807), .int .i64 (wiZ (bz s) n))
theorem fn32 : Fn1 Tryz.prog 32 Tryz.f32 := ⟨Tryz.func32, by kernel_rfl, by kernel_rfl, by kernel_rfl⟩
theorem v32 (s : ByteArray) (n : Int) (R : Value → Prop) : bodyQ Tryz.prog L32 noL Tryz.f32 [Enc.enc s, Enc.enc n] (fun _ => none) 0 (fun v _ _ => R v) = ( bif decide (ByteArray.size s ≤ 9223372036854775807) then bif decide (IntKind.wrap .i64 (raH (bz s) + 1) ≠ 0) then bif decide (Int.tmod n (IntKind.wrap .i64 (raH (bz s) + 1)) < raL (bz s)) then R (.int .i64 (IntKind.wrap .i64 (0 - Int.tmod n (IntKind.wrap .i64 (raH (bz s) + 1))))) else R (.int .i64 (Int.tmod n (IntKind.wrap .i64 (raH (bz s) + 1)))) else False else False) := by kernel_rfl
theorem ok32 : PureOK Tryz.prog 32 (sp2 s32) := by
 refine qure2 ok_L32 hmix fn32 lokf_none (Nat.le_of_ble_eq_true (by kernel_rfl)) fun s n hc => ?_
 rw [DoesQ, v32]
 have hc : (s.size ≤ 9223372036854775807) := of_decide_eq_true hc
 try dsimp only [s32]
 have hr := raH_rng (bz s)
 have e1 : IntKind.wrap IntKind.i64 (raH (bz s) + 1) = raH (bz s) + 1 := w64 (by omega)
 have ht := tmod_rng n (m := raH (bz s) + 1) (by omega)
 rw [e1, wiZ, w64 (n := 0 - n.tmod (raH (bz s) + 1)) (by omega)]
 refine c_t (decide_eq_true hc) (c_t (decide_eq_true (by omega)) (cond_intro (fun h => ?_) (fun h => ?_)))
 ·rw [if_pos (of_decide_eq_true h)]
 ·rw [if_neg (of_decide_eq_false h)]
end Go.Px
end
noncomputable section
namespace Go.Px
open Go Go.Ab Go.Proofs
theorem pe_pn (l : List Int) : (pE l != 0 || !pN l) = !pN l := by
 rw [pE_ne]
 cases h : pN l with
 | true => rw [pN_vOK h]; rfl
 | false => simp
theorem wi_rng {l : List Int} (h : pN l = true) (n : Int) : ((wiZ l n).natAbs : Int) < tenZ (pD l).toNat ∧ (wiZ l n < 0 → pG l = true) := by
 have hr : raH l = tenZ (pD l).toNat - 1 := by rw [raH, if_pos h]
 have hp := tenZ_pos (pD l).toNat
 have ht := tmod_rng n (m := raH l + 1) (by omega)
 have hL : raL l = if pG l = true then 0 - (tenZ (pD l).toNat - 1) else 0 := rfl
 unfold wiZ
 cases hg : pG l with
 | true =>
  rw [hg, if_pos rfl] at hL
  rw [if_neg (by omega)]
  exact ⟨by omega, fun _ => rfl⟩
 | false =>
  rw [hg, if_neg (by decide)] at hL
  split
  ·exact ⟨by omega, fun q => by omega⟩
  ·exact ⟨by omega, fun q => by omega⟩
theorem wi_64 (l : List Int) (n : Int) : -9223372036854775808 ≤ wiZ l n ∧ wiZ l n ≤ 9223372036854775807 := by
 have hr := raH_rng l
 have ht := tmod_rng n (m := raH l + 1) (by omega)
 unfold wiZ
 split <;> omega
theorem cuM_same (n q : Int) : cuM n q q = n.natAbs := by
 rw [cuM, if_pos (by omega), Int.sub_self]
 exact Int.ediv_one _
theorem cu_in {l : List Int} {n : Int} (hn : (n.natAbs : Int) < tenZ (pD l).toNat) (hg : n < 0 → pG l = true) : cuN n (pQ l) (pQ l) (pD l) (pG l) = n ∧ cuF n (pQ l) (pQ l) (pD l) (pG l) = true := by
 have e : cuV n (pQ l) (pQ l) (pD l) = n.natAbs := by rw [cuV, cuM_same, Int.emod_eq_of_lt (by omega) hn]
 constructor
 ·rw [cuN, e]
  by_cases h0 : n < 0
  ·rw [if_pos ⟨h0, hg h0⟩]; omega
  ·rw [if_neg (fun q => h0 q.1)]; omega
 ·rw [cuF, cuM_same, decide_eq_true hn, Bool.true_and]
  by_cases h0 : n < 0
  ·rw [hg h0]; simp
  ·rw [decide_eq_true (show n ≥ 0 by omega)]; rfl
theorem ed_in {l : List Int} (h : pN l = true) {n : Int} (hn : (n.natAbs : Int) < tenZ (pD l).toNat) (hg : n < 0 → pG l = true) : edS l n (pQ l) = fdN l n ∧ edF l n (pQ l) = true ∧ edE l (pQ l) = 0 := by
 have hp := pD_rng h
 have hq : 0 ≤ pQ l ∧ pQ l ≤ 9 := by omega
 obtain ⟨e1, e2⟩ := cu_in hn hg
 rw [edS, edF, edE, if_pos ⟨h, hq⟩, if_pos ⟨h, hq⟩, if_pos h, if_pos hq, e1, e2]
 exact ⟨rfl, rfl, rfl⟩
theorem fdN_isB {s : ByteArray} (n : Int) : IsB (fdN (bz s) n) := field_isB (pS_len s).1 _ _ _
theorem size_fdN {s : ByteArray} (h : pN (bz s) = true) (n : Int) : ((sz (fdN (bz s) n)).size : Int) = pW (bz s) := by
 rw [sz_size, fdN_len (pS_len s) h n]
end Go.Px
end
noncomputable section
namespace Go.Px
open Go Go.Ab Go.Proofs
theorem le_W {l : List Int} (hl : IsB (pS l) ∧ (pS l).length ≤ 32) (h : pN l = true) {n : Int} (hn : (n.natAbs : Int) < tenZ (pD l).toNat) :
  0 ≤ fdLe (pS l) (pW l) (pD l).toNat n ∧ fdLe (pS l) (pW l) (pD l).toNat n ≤ pW l := by
 have hw := (pN_ok hl h n).2.2.2
 refine ⟨fdLe_nn hw.1, ?_⟩
 have hnv := pN_nv h
 unfold fdLe endZ
 cases hasZ (marksZ (pS l)) 99 with
 | false => exact hw.1
 | true =>
  rw [Bool.not_true, cond_false]
  cases (!hasZ (marksZ (pS l)) 100 && decide (digZ n.natAbs (pD l).toNat = rep1 48 (pD l).toNat)) with
  | true => exact Int.le_refl _
  | false =>
   rw [cond_false]
   have := (end_ge (marksZ (pS l)) (digZ n.natAbs (pD l).toNat) 0).2
   omega
structure HdP (s : ByteArray) (m : Int) : Prop where
 le : leZ (bz s) m = fdLe (pS (bz s)) (pW (bz s)) (pD (bz s)).toNat m
 nE : nE (bz s) = 0
 ms : bz (sz (roZ (bz s))) = marksZ (pS (bz s))
 sp : bz (sz (pS (bz s))) = pS (bz s)
 ds : bz (sz (digZ m.natAbs (pD (bz s)).toNat)) = digZ m.natAbs (pD (bz s)).toNat
 zm : ((sz (roZ (bz s))).size : Int) = (pS (bz s)).length
 zs : ((sz (pS (bz s))).size : Int) = (pS (bz s)).length
 zd : ((sz (digZ m.natAbs (pD (bz s)).toNat)).size : Int) = pD (bz s)
 l32 : ((pS (bz s)).length : Int) ≤ 32
 nv : (nv (marksZ (pS (bz s))) : Int) = pW (bz s)
 pd : pdGo (marksZ (pS (bz s))) = pD (bz s)
theorem hd_mk {s : ByteArray} (h : pN (bz s) = true) {m : Int} (hm : (m.natAbs : Int) < tenZ (pD (bz s)).toNat) (hg : m < 0 → pG (bz s) = true) : HdP s m := by
 have hl := pS_len s
 obtain ⟨_, _, p3, _⟩ := pN_ok hl h m
 have hp := pD_rng h
 have hr : roZ (bz s) = marksZ (pS (bz s)) := by rw [roZ, if_pos h]
 refine ⟨?_, by rw [nE, if_pos h], ?_, bz_sz hl.1, bz_sz (dg_isB (digZ_dg _ _)), ?_, ?_, ?_, by omega, (pN_nv h).symm, p3⟩
 ·rw [leZ, if_pos h, leN, (cu_in hm hg).1]
 ·rw [hr, bz_sz (marks_isB _)]
 ·rw [hr, sz_size, marks_len]
 ·rw [sz_size]
 ·rw [sz_size, digZ_len]; omega
end Go.Px
end
noncomputable section
set_option maxHeartbeats 3200000
namespace Go.Px
open Go Go.Ab Go.Proofs Go.Shelf
end Go.Px
end
noncomputable section
namespace Go.Px
open Go Go.Ab Go.Proofs
end Go.Px
end
noncomputable section
set_option maxHeartbeats 3200000
namespace Go.Px
open Go Go.Ab Go.Proofs Go.Shelf
end Go.Px
end
noncomputable section
namespace Go.Px
open Go Go.Ab Go.Proofs
end Go.Px
end
noncomputable section
set_option maxHeartbeats 3200000
namespace Go.Px
open Go Go.Ab Go.Proofs Go.Shelf
end Go.Px
end
noncomputable section
namespace Go.Px
open Go Go.Ab Go.Proofs
end Go.Px
end
noncomputable section
set_option maxHeartbeats 3200000
namespace Go.Px
open Go Go.Ab Go.Proofs Go.Shelf
inductive Sw where
 | nil
 | own (d : List Value) (m cap : Nat)
def Sw.v (q : Nat) : Sw → Value
 | .nil => .slice none 0 0
 | .own _ m cap => .slice (some ⟨q, 0, some 1⟩) m cap
def Sw.b : Sw → Option Blk
 | .nil => none
 | .own d _ _ => some ⟨d, 5, false⟩
def Sw.z : Sw → List Int
 | .nil => []
 | .own d m _ => zc d m
def Sw.ok : Sw → Bool
 | .nil => true
 | .own d m _ => vwOK d m && Nat.ble m 9223372036854775807
end Go.Px
end
noncomputable section
namespace Go.Px
open Go Go.Ab Go.Proofs
theorem up_kL {c : Int} (h : hasZ kL c = true) : upZ c = c ∧ c ≠ 40 ∧ c ≠ 41 := by
 have hk : c ∈ kL := hasZ_iff.1 h
 simp only [kL, List.mem_cons, List.not_mem_nil, or_false] at hk
 rcases hk with rfl | rfl | rfl | rfl | rfl | rfl | rfl | rfl | rfl | rfl | rfl | rfl | rfl | rfl | rfl | rfl | rfl | rfl | rfl | rfl <;> decide
theorem xp_id : ∀ (l out : List Int), allK l = true → out.length + l.length ≤ 32 → xpGo l 0 0 out = (out ++ l, true)
 | [], out, _, _ => by rw [xpGo, List.append_nil]; rfl
 | c :: r, out, h, hl => by
  have h : hasZ kL c = true ∧ allK r = true := by
   simp only [allK, List.all_cons, Bool.and_eq_true] at h
   exact h
  obtain ⟨u1, u2, u3⟩ := up_kL h.1
  rw [List.length_cons] at hl
  rw [xpGo, if_neg (by decide), if_neg (fun q => q.elim u3 (fun q => absurd q.1 (by decide))), if_neg u2, u1, if_pos ⟨h.1, by rw [if_neg (by decide)]; omega⟩, if_neg (by decide)]
  have e : rep1 c (1 : Int).toNat = [c] := rfl
  rw [e, xp_id r (out ++ [c]) h.2 (by rw [List.length_append]; simp; omega), List.append_assoc]
  rfl
theorem ex_id {l : List Int} (h : allK l = true) (h0 : l ≠ []) (h32 : l.length ≤ 32) : exOK l = true ∧ exZ l = l := by
 have e := xp_id l [] h (by simpa using h32)
 have e1 : exOK l = true := by
  rw [exOK, e]
  cases l with
  | nil => exact absurd rfl h0
  | cons c r => rfl
 exact ⟨e1, by rw [exZ, if_pos e1, e]; rfl⟩
end Go.Px
end
noncomputable section
namespace Go.Px
open Go Go.Ab Go.Proofs
def z9 (c : Int) : Int := if c = 90 then 57 else c
def m9 (m : Int) : Int := if m = 99 then 100 else m
theorem z9_ne {c x : Int} (h57 : x ≠ 57) (h90 : x ≠ 90) : z9 c = x ↔ c = x := by unfold z9; split <;> omega
theorem z9_id {c : Int} (h : c ≠ 90) : z9 c = c := if_neg h
theorem has_z9 {k : List Int} (h57 : 57 ∉ k) (h90 : 90 ∉ k) (c : Int) : hasZ k (z9 c) = hasZ k c := by
 rw [Bool.eq_iff_iff, hasZ_iff, hasZ_iff]
 unfold z9
 split
 ·rename_i e
  subst e
  exact ⟨fun h => absurd h h57, fun h => absurd h h90⟩
 ·exact Iff.rfl
theorem map_has {l : List Int} {x : Int} (h57 : x ≠ 57) (h90 : x ≠ 90) : hasZ (l.map z9) x = hasZ l x := by
 rw [Bool.eq_iff_iff, hasZ_iff, hasZ_iff, List.mem_map]
 constructor
 ·rintro ⟨a, ha, e⟩
  rw [(z9_ne h57 h90).1 e] at ha
  exact ha
 ·exact fun h => ⟨x, h, (z9_ne h57 h90).2 rfl⟩
theorem map_cnt {x : Int} (h57 : x ≠ 57) (h90 : x ≠ 90) : ∀ l : List Int, cntZ (l.map z9) x = cntZ l x
 | [] => rfl
 | c :: r => by
  have ih := map_cnt h57 h90 r
  unfold cntZ at ih ⊢
  have e : (z9 c == x) = (c == x) := by rw [Bool.eq_iff_iff, beq_iff_eq, beq_iff_eq]; exact z9_ne h57 h90
  rw [List.map_cons, List.filter_cons, List.filter_cons, e]
  cases c == x with
  | true => simp only [if_true, List.length_cons, ih]
  | false => simpa using ih
theorem map_dr (s : List Int) : ∀ l : List Int, drGo (s.map z9) (l.map z9) = drGo s l
 | [] => rfl
 | c :: r => by
  rw [List.map_cons, drGo, drGo, map_dr s r]
  by_cases h : c = 90
  ·subst h
   rw [if_neg (fun q => absurd q.1 (by decide)), if_neg (fun q => absurd q.1 (by decide))]
  ·rw [z9_id h]
   by_cases hh : hasZ [36, 83, 43, 45] c = true
   ·have : c ≠ 57 := fun q => by subst q; revert hh; decide
    rw [map_cnt this h]
   ·rw [if_neg (fun q => hh q.1), if_neg (fun q => hh q.1)]
theorem map_drZ (s : List Int) : drZ (s.map z9) = drZ s := map_dr s s
theorem map_two {a b : Int} (ha : a ≠ 57 ∧ a ≠ 90) (hb : b ≠ 57 ∧ b ≠ 90) (t : List Int) : decide (t.map z9 = [a, b]) = decide (t = [a, b]) := by
 rw [decide_eq_decide]
 match t with
 | [] => simp
 | [x] => simp
 | [x, y] => simp [z9_ne ha.1 ha.2, z9_ne hb.1 hb.2]
 | x :: y :: z :: r => simp
theorem map_cr (s : List Int) : crZ (s.map z9) = crZ s := by
 unfold crZ
 rw [List.length_map, ← List.map_drop, map_two (by decide) (by decide), map_two (by decide) (by decide)]
theorem map_body (s : List Int) : bodyZ (s.map z9) = (bodyZ s).map z9 := by
 unfold bodyZ
 rw [map_cr]
 split
 ·rw [List.length_map, List.map_take]
 ·rfl
theorem map_sig (s : List Int) : signsZ (s.map z9) = signsZ s := by
 unfold signsZ
 rw [map_cr, map_body, map_has (by decide) (by decide), map_has (by decide) (by decide), map_has (by decide) (by decide), map_cnt (by decide) (by decide), map_cnt (by decide) (by decide), map_cnt (by decide) (by decide)]
theorem mk1_zz {c : Int} (h : c ≠ 42) (s : Bool) : mk1 0 s c = 99 ↔ c = 90 := by
 constructor
 ·intro q
  apply Classical.byContradiction
  intro h90
  revert q
  unfold mk1
  have e : hasZ [90, 42] c = false := by
   cases e : hasZ [90, 42] c with
   | false => rfl
   | true =>
    have : c = 90 ∨ c = 42 := by simpa using hasZ_iff.1 e
    omega
  rw [e]
  cases hasZ [57, 89, 84, 73, 82] c <;> cases c == 86 <;> cases c == 36 <;> cases hasZ [83, 43, 45] c <;> simp
 ·rintro rfl
  cases s <;> decide
theorem mk1_z9 {c : Int} (h : c ≠ 42) (s : Bool) : mk1 0 s (z9 c) = m9 (mk1 0 s c) := by
 by_cases h90 : c = 90
 ·subst h90
  cases s <;> decide
 ·rw [z9_id h90, m9, if_neg (fun q => h90 ((mk1_zz h s).1 q))]
theorem mk_z9 : ∀ (l : List Int) (seen : Bool), 42 ∉ l → mkGo 0 seen (l.map z9) = (mkGo 0 seen l).map m9
 | [], _, _ => rfl
 | c :: r, seen, h => by
  simp only [List.mem_cons, not_or] at h
  have e : ((0 : Int) != 0) = false := rfl
  rw [List.map_cons, mkGo, mkGo, List.map_cons, mk1_z9 (Ne.symm h.1), e, Bool.false_and, Bool.false_and, mk_z9 r _ h.2]
theorem map_marks {s : List Int} (hd : drZ (bodyZ s) = 0) (h42 : 42 ∉ bodyZ s) : marksZ (s.map z9) = (marksZ s).map m9 := by
 unfold marksZ
 rw [map_cr, map_body, map_drZ, hd, mk_z9 _ _ h42, List.map_append]
 congr 1
 split <;> rfl
theorem isP_m9 (m : Int) : isP (m9 m) = isP m := by
 unfold m9
 split
 ·rename_i e; subst e; rfl
 ·rfl
theorem pd_m9 : ∀ ms : List Int, pdGo (ms.map m9) = pdGo ms
 | [] => rfl
 | m :: r => by rw [List.map_cons, pdGo, pdGo, pd_m9 r, isP_m9]
theorem pq_m9 (s : List Int) : ∀ (ms : List Int) (i : Int), pqGo (s.map z9) (ms.map m9) i = pqGo s ms i
 | [], _ => rfl
 | m :: r, i => by rw [List.map_cons, pqGo, pqGo, pq_m9 s r, isP_m9, ← List.map_take, map_has (by decide) (by decide)]
theorem no_99 (ms : List Int) : hasZ (ms.map m9) 99 = false := by
 cases e : hasZ (ms.map m9) 99 with
 | false => rfl
 | true =>
  obtain ⟨a, _, h⟩ := List.mem_map.1 (hasZ_iff.1 e)
  unfold m9 at h
  split at h <;> omega
theorem ld_m9 : ∀ (ms : List Int) (fm pt : Bool) (dg : Int), (ldGo (ms.map m9) fm false pt dg).1 = true ∧ (ldGo (ms.map m9) fm false pt dg).2.2.1 = false ∧ (ldGo (ms.map m9) fm false pt dg).2.2.2 = dg + pdGo ms
 | [], _, _, dg => by simp [ldGo, pdGo]
 | m :: r, fm, pt, dg => by
  rw [List.map_cons, ldGo, pdGo]
  by_cases h : m = 99
  ·subst h
   have := ld_m9 r true pt (dg + 1)
   rw [show ((m9 99 == 118) = false) from rfl, show ((m9 99 == 100) = true) from rfl, cond_false, cond_true]
   refine ⟨this.1, this.2.1, ?_⟩
   rw [this.2.2, show isP 99 = true from rfl, cond_true]
   omega
  ·have e : m9 m = m := if_neg h
   have h9 : (m == 99) = false := by simpa using h
   rw [e, h9, cond_false]
   cases h1 : m == 118 with
   | true =>
    have := ld_m9 r fm true dg
    rw [cond_true]
    refine ⟨this.1, this.2.1, ?_⟩
    rw [this.2.2, eq_of_beq h1, show isP 118 = false from rfl, cond_false]
    omega
   | false =>
    rw [cond_false]
    cases h2 : m == 100 with
    | true =>
     have := ld_m9 r true pt (dg + 1)
     rw [cond_true]
     refine ⟨this.1, this.2.1, ?_⟩
     rw [this.2.2, eq_of_beq h2, show isP 100 = true from rfl, cond_true]
     omega
    | false =>
     have := ld_m9 r fm pt dg
     rw [cond_false]
     refine ⟨this.1, this.2.1, ?_⟩
     rw [this.2.2, isP, h2, h9, Bool.or_false, cond_false]
     omega
theorem ld_dg : ∀ (ms : List Int) (fm bh pt : Bool) (dg : Int), (ldGo ms fm bh pt dg).1 = true → (ldGo ms fm bh pt dg).2.2.2 = dg + pdGo ms
 | [], _, _, _, dg, _ => by simp [ldGo, pdGo]
 | m :: r, fm, bh, pt, dg, h => by
  rw [ldGo] at h ⊢
  rw [pdGo]
  cases h1 : m == 118 with
  | true =>
   rw [h1, cond_true] at h
   rw [cond_true, ld_dg r _ _ _ _ h, eq_of_beq h1, show isP 118 = false from rfl, cond_false]
   omega
  | false =>
   rw [h1, cond_false] at h
   rw [cond_false]
   cases h2 : m == 100 with
   | true =>
    rw [h2, cond_true] at h
    rw [cond_true, ld_dg r _ _ _ _ h, eq_of_beq h2, show isP 100 = true from rfl, cond_true]
    omega
   | false =>
    rw [h2, cond_false] at h
    rw [cond_false]
    cases h3 : m == 99 with
    | true =>
     rw [h3, cond_true] at h
     rw [cond_true]
     cases fm with
     | true => rw [cond_true] at h; cases h
     | false =>
      rw [cond_false] at h
      rw [cond_false, ld_dg r _ _ _ _ h, eq_of_beq h3, show isP 99 = true from rfl, cond_true]
      omega
    | false =>
     rw [h3, cond_false] at h
     rw [cond_false, ld_dg r _ _ _ _ h, isP, h2, h3, Bool.or_false, cond_false]
     omega
theorem z9_zero (c : Int) : (z9 c == 0) = (c == 0) := by rw [Bool.eq_iff_iff, beq_iff_eq, beq_iff_eq]; exact z9_ne (by decide) (by decide)
theorem st_in9 (i : Int) : ∀ (cs ms : List Int) (j : Int) (a b : Bool), stIn 0 i (cs.map z9) (ms.map m9) j a b = stIn 0 i cs ms j a b
 | [], _, _, _, _ => rfl
 | _ :: _, [], _, _, _ => rfl
 | c :: cs, m :: ms, j, a, b => by
  have e : (m9 m == 100 || (m9 m == 99 || z9 c == 0)) = (m == 100 || (m == 99 || c == 0)) := by
   have := isP_m9 m
   unfold isP at this
   rw [← Bool.or_assoc, ← Bool.or_assoc, this, z9_zero]
  rw [List.map_cons, List.map_cons, stIn, stIn, e, st_in9 i cs ms, st_in9 i cs ms]
theorem st_go9 (body ms : List Int) : ∀ (l : List Int) (i : Int), stGo 0 (body.map z9) (ms.map m9) (l.map z9) i = stGo 0 body ms l i
 | [], _ => rfl
 | c :: r, i => by rw [List.map_cons, stGo, stGo, has_z9 (by decide) (by decide), z9_zero, st_in9, st_go9 body ms r]
theorem z9_num {s : List Int} (h : numV s = true) (h90 : hasZ (bodyZ s) 90 = true) : numV (s.map z9) = true ∧ drZ (bodyZ s) = 0 ∧ hasZ (bodyZ s) 42 = false := by
 simp only [numV, Bool.and_eq_true, Bool.not_eq_true'] at h
 obtain ⟨_, n2, n3, n4, n5, n6, n7⟩ := h
 have n5' := n5
 unfold leadsZ at n5
 rw [h90, Bool.true_and, Bool.true_or, Bool.true_and] at n5
 have h42 : hasZ (bodyZ s) 42 = false := by
  cases e : hasZ (bodyZ s) 42 with
  | false => rfl
  | true => rw [e, cond_true] at n5; cases n5
 rw [h42, cond_false] at n5
 have hd : drZ (bodyZ s) = 0 := by
  cases e : drZ (bodyZ s) != 0 with
  | false => simpa using e
  | true => rw [e, cond_true] at n5; cases n5
 have hd' : (drZ (bodyZ s) != 0) = false := by rw [hd]; rfl
 rw [hd', cond_false] at n5
 simp only [Bool.and_eq_true, decide_eq_true_eq] at n5
 have h42m : 42 ∉ bodyZ s := fun q => by rw [hasZ_iff.2 q] at h42; cases h42
 have hno : ∀ x : Int, x = 65 ∨ x = 88 → hasZ s x = false := fun x hx => by
  cases e : hasZ s x with
  | false => rfl
  | true =>
   obtain ⟨t, ht, ht2⟩ := body_app s
   have hm := hasZ_iff.1 e
   rw [ht] at hm
   rcases List.mem_append.1 hm with q | q
   ·have := List.any_eq_false.1 n2 x q
    rcases hx with rfl | rfl <;> exact absurd (by decide) this
   ·rcases ht2 with ⟨rfl, _⟩ | ⟨rfl | rfl, _⟩
    ·cases q
    ·rcases hx with rfl | rfl <;> simp at q
    ·rcases hx with rfl | rfl <;> simp at q
 have c1 : charZ (s.map z9) = false := by
  rw [charZ, map_has (by decide) (by decide), map_has (by decide) (by decide), hno 65 (.inl rfl), hno 88 (.inr rfl)]
  exact Bool.and_false _
 have c2 : ((bodyZ s).map z9).any (hasZ [65, 88, 67, 68]) = false := by
  rw [List.any_map]
  have : (hasZ [65, 88, 67, 68] ∘ z9) = hasZ [65, 88, 67, 68] := funext fun c => has_z9 (by decide) (by decide) c
  rw [this]
  exact n2
 refine ⟨?_, hd, h42⟩
 have hbb : bodyZ (bodyZ s) = bodyZ s := body_at (body_ncr n2)
 have m1 : marksZ ((bodyZ s).map z9) = (marksZ (bodyZ s)).map m9 := map_marks (by rw [hbb]; exact hd) (by rw [hbb]; exact h42m)
 have hld := ld_m9 (marksZ (bodyZ s)) false false 0
 have hdg := ld_dg (marksZ (bodyZ s)) false false false 0 n5.1
 have c5 : leadsZ ((bodyZ s).map z9) ((marksZ (bodyZ s)).map m9) = true := by
  unfold leadsZ
  have e90 : hasZ ((bodyZ s).map z9) 90 = false := by
   cases e : hasZ ((bodyZ s).map z9) 90 with
   | false => rfl
   | true =>
    obtain ⟨a, _, q⟩ := List.mem_map.1 (hasZ_iff.1 e)
    unfold z9 at q
    split at q <;> omega
  rw [e90, map_has (by decide) (by decide), h42, Bool.false_and, cond_false, Bool.false_or, Bool.false_and, cond_false, hld.1, hld.2.1, hld.2.2]
  simp only [Bool.true_and, Bool.false_and, Bool.not_false, Bool.and_true, Bool.and_eq_true, decide_eq_true_eq]
  rw [hdg] at n5
  exact ⟨n5.2.1, n5.2.2.1⟩
 have c4 : driftsZ ((bodyZ s).map z9) = true := by
  unfold driftsZ
  rw [map_drZ, hd]
  rfl
 have c7 : statsZ ((bodyZ s).map z9) ((marksZ (bodyZ s)).map m9) = true := by
  unfold statsZ at n7 ⊢
  rw [map_drZ, hd, st_go9]
  rw [hd] at n7
  exact n7
 simp only [numV, Bool.and_eq_true, Bool.not_eq_true', map_body, m1, map_sig, c1, c2, c4, c5, c7, map_cnt (show (86 : Int) ≠ 57 by decide) (show (86 : Int) ≠ 90 by decide)]
 exact ⟨trivial, trivial, n3, trivial, trivial, n6, trivial⟩
def zmL : List Int → List Int → Prop
 | [], _ => True
 | m :: r, sp => (m = 99 → sp.headD 0 = 90) ∧ (m ≠ 99 → sp.headD 0 ≠ 90) ∧ zmL r sp.tail
theorem zmL_app : ∀ (a b sp : List Int), zmL a sp → zmL b (sp.drop a.length) → zmL (a ++ b) sp
 | [], _, _, _, h => h
 | m :: a, b, sp, h1, h2 => ⟨h1.1, h1.2.1, zmL_app a b sp.tail h1.2.2 (by rw [List.drop_tail]; exact h2)⟩
theorem mk_zm : ∀ (l : List Int) (seen : Bool) (t : List Int), 42 ∉ l → zmL (mkGo 0 seen l) (l ++ t)
 | [], _, _, _ => trivial
 | c :: r, seen, t, h => by
  simp only [List.mem_cons, not_or] at h
  rw [mkGo]
  exact ⟨(mk1_zz (Ne.symm h.1) seen).1, fun q e => q ((mk1_zz (Ne.symm h.1) seen).2 e), mk_zm r _ t h.2⟩
theorem marks_zm {l : List Int} (hd : drZ (bodyZ l) = 0) (h42 : 42 ∉ bodyZ l) : zmL (marksZ l) l := by
 obtain ⟨t, ht, ht2⟩ := body_app l
 rw [marks_eq, hd]
 refine zmL_app _ _ _ ?_ ?_
 ·conv => rhs; rw [ht]
  exact mk_zm _ _ _ h42
 ·have e : l.drop (mkGo 0 false (bodyZ l)).length = t := by
   rw [mk_len]
   conv => lhs; arg 2; rw [ht]
   exact List.drop_left
  rw [e]
  unfold tmZ
  rcases ht2 with ⟨rfl, hc⟩ | ⟨rfl | rfl, hc⟩
  ·rw [if_neg (by rw [hc]; decide)]; trivial
  ·rw [if_pos hc]
   exact ⟨fun q => absurd q (by decide), fun _ => by decide, fun q => absurd q (by decide), fun _ => by decide, trivial⟩
  ·rw [if_pos hc]
   exact ⟨fun q => absurd q (by decide), fun _ => by decide, fun q => absurd q (by decide), fun _ => by decide, trivial⟩
theorem tail_z9 (sp : List Int) : (sp.map z9).tail = sp.tail.map z9 := by cases sp <;> rfl
theorem head_z9 (sp : List Int) : (sp.map z9).headD 0 = z9 (sp.headD 0) := by cases sp <;> rfl
theorem fs_z9 {le fl : Int} {neg : Bool} : ∀ (ms sp ds : List Int) (o : Int), 0 ≤ o → zmL ms sp →
  (fdGo 0 fl 0 neg (ms.map m9) (sp.map z9) ds o).length = (fdGo le fl 0 neg ms sp ds o).length ∧ (fdGo 0 fl 0 neg (ms.map m9) (sp.map z9) ds o).drop (le - o).toNat = (fdGo le fl 0 neg ms sp ds o).drop (le - o).toNat
 | [], _, _, _, _, _ => ⟨rfl, rfl⟩
 | m :: r, sp, ds, o, h0, hz => by
  obtain ⟨z1, z2, z3⟩ := hz
  have step : ∀ (x y : Int) (ds' : List Int), (le ≤ o → x = y) →
    (x :: fdGo 0 fl 0 neg (r.map m9) (sp.tail.map z9) ds' (o + 1)).length = (y :: fdGo le fl 0 neg r sp.tail ds' (o + 1)).length ∧
    (x :: fdGo 0 fl 0 neg (r.map m9) (sp.tail.map z9) ds' (o + 1)).drop (le - o).toNat = (y :: fdGo le fl 0 neg r sp.tail ds' (o + 1)).drop (le - o).toNat := by
   intro x y ds' hxy
   obtain ⟨i1, i2⟩ := fs_z9 (le := le) (fl := fl) (neg := neg) r sp.tail ds' (o + 1) (by omega) z3
   refine ⟨by rw [List.length_cons, List.length_cons, i1], ?_⟩
   by_cases q : le ≤ o
   ·rw [show (le - o).toNat = 0 by omega, List.drop_zero, List.drop_zero, hxy q]
    rw [show (le - (o + 1)).toNat = 0 by omega, List.drop_zero, List.drop_zero] at i2
    rw [i2]
   ·rw [show (le - o).toNat = (le - (o + 1)).toNat + 1 by omega, List.drop_succ_cons, List.drop_succ_cons]
    exact i2
  have ho : decide (o < 0) = false := decide_eq_false (by omega)
  have hle : le ≤ o → decide (o < le) = false := fun q => decide_eq_false (by omega)
  rw [List.map_cons, fdGo, fdGo, head_z9, tail_z9, ho, cond_false, cond_false]
  by_cases h : m = 99
  ·subst h
   rw [z1 rfl]
   refine step _ _ ds.tail fun q => ?_
   rw [hle q, cond_false]
   unfold fmZ
   rw [if_neg (fun q => absurd q.1 (by decide)), if_neg (fun q => q.elim (fun q => absurd q (by decide)) (fun q => q.elim (fun q => absurd q.1 (by decide)) (fun q => absurd q.1 (by decide))))]
  ·rw [show m9 m = m from if_neg h, z9_id (z2 h)]
   have h9 : (m == 99) = false := by simpa using h
   rw [h9, cond_false, cond_false]
   cases m == 100 with
   | true => exact step _ _ _ fun _ => rfl
   | false =>
    rw [cond_false, cond_false]
    cases m == 105 with
    | true =>
     rw [cond_true, cond_true]
     refine step _ _ _ fun q => ?_
     rw [hle q, cond_false]
    | false =>
     rw [cond_false, cond_false]
     cases m != 118 with
     | true => exact step _ _ _ fun _ => rfl
     | false => exact fs_z9 r sp.tail ds o h0 z3
structure Z9P (l W : List Int) : Prop where
 isB : IsB W
 len : W.length ≤ 32
 v : vOK W = true
 n : pN W = true
 s : pS W = W
 w : pW W = pW l
 d : pD W = pD l
 q : pQ W = pQ l
 g : pG W = pG l
 fd : ∀ m : Int, (m.natAbs : Int) < tenZ (pD l).toNat → (fdN W m).length = (fdN l m).length ∧ (fdN W m).drop (fdLe (pS l) (pW l) (pD l).toNat m).toNat = (fdN l m).drop (fdLe (pS l) (pW l) (pD l).toNat m).toNat
theorem map_none {l : List Int} (h : 90 ∉ l) : l.map z9 = l := by
 conv => rhs; rw [← List.map_id l]
 exact List.map_congr_left fun c hc => z9_id fun q => h (q ▸ hc)
theorem z9_law {s : ByteArray} (h : pN (bz s) = true) : Z9P (bz s) ((pS (bz s)).map z9) := by
 have hl := pS_len s
 have hv : vOK (bz s) = true := by
  simp only [pN, Bool.and_eq_true] at h
  rw [vOK, h.1, h.2, Bool.or_true]; rfl
 have hS : pS (bz s) = exZ (bz s) := by rw [pS, if_pos hv]
 have hK : allK (pS (bz s)) = true := by rw [hS]; exact ex_kL _
 have hx : exOK (bz s) = true ∧ numV (exZ (bz s)) = true := by simpa [pN] using h
 have hnum : numV (pS (bz s)) = true := by rw [hS]; exact hx.2
 have h0 : pS (bz s) ≠ [] := by
  intro q
  have h1 := hx.1
  rw [hS, exZ, if_pos hx.1] at q
  simp only [exOK, Bool.and_eq_true, Bool.not_eq_true'] at h1
  rw [q] at h1
  cases h1.2
 have hwl := (pN_ok hl h 0).2.2.2
 -- the facts that depend on the picture alone
 have facts : ∀ S W : List Int, S = pS (bz s) → W = S.map z9 → marksZ W = (marksZ S).map m9 ∨ W = S → numV W = true →
   vOK W = true ∧ pN W = true ∧ pS W = W ∧ pW W = pW (bz s) ∧ pD W = pD (bz s) ∧ pQ W = pQ (bz s) ∧ pG W = pG (bz s) ∧ IsB W ∧ W.length ≤ 32 := by
  intro S W eS eW hm hn
  have kW : allK W = true := by
   simp only [allK, List.all_eq_true] at hK ⊢
   intro c hc
   rw [eW] at hc
   obtain ⟨a, ha, rfl⟩ := List.mem_map.1 hc
   unfold z9
   split
   ·decide
   ·exact hK a (eS ▸ ha)
  have lW : W.length = S.length := by rw [eW, List.length_map]
  have wl : W.length ≤ 32 := by rw [lW, eS]; exact hl.2
  have w0 : W ≠ [] := fun q => h0 (by rw [← eS]; exact List.length_eq_zero_iff.1 (by rw [← lW, q]; rfl))
  obtain ⟨i1, i2⟩ := ex_id kW w0 wl
  have vW : vOK W = true := by rw [vOK, i1, i2, hn, Bool.or_true]; rfl
  have nW : pN W = true := by rw [pN, i1, i2, hn]; rfl
  have cS : charZ S = false := by
   have := hnum
   rw [← eS] at this
   simp only [numV, Bool.and_eq_true, Bool.not_eq_true'] at this
   exact this.1
  have cW : charZ W = false := by
   have := hn
   simp only [numV, Bool.and_eq_true, Bool.not_eq_true'] at this
   exact this.1
  have eX : exZ (bz s) = S := by rw [eS, hS]
  refine ⟨vW, nW, by rw [pS, if_pos vW, i2], ?_, ?_, ?_, ?_, ?_, wl⟩
  ·rw [pW, if_pos vW, pW, if_pos hv, i2, eX, cS, cW, if_neg (by decide), if_neg (by decide), lW, eW, map_cnt (by decide) (by decide)]
  ·rw [pD, if_pos nW, pD, if_pos h, i2, eX]
   rcases hm with hm | hm
   ·rw [hm, pd_m9]
   ·rw [hm]
  ·rw [pQ, if_pos nW, pQ, if_pos h, i2, eX]
   rcases hm with hm | hm
   ·rw [hm, eW, pq_m9]
   ·rw [hm]
  ·rw [pG, pG, nW, h, i2, eX, eW, map_sig]
  ·intro c hc
   rw [eW] at hc
   obtain ⟨a, ha, rfl⟩ := List.mem_map.1 hc
   have := hl.1 a (eS ▸ ha)
   unfold z9
   split <;> omega
 cases h90 : hasZ (pS (bz s)) 90 with
 | false =>
  have e : (pS (bz s)).map z9 = pS (bz s) := map_none fun q => by rw [hasZ_iff.2 q] at h90; cases h90
  obtain ⟨f1, f2, f3, f4, f5, f6, f7, f8, f9⟩ := facts (pS (bz s)) _ rfl rfl (.inr e) (by rw [e]; exact hnum)
  refine ⟨f8, f9, f1, f2, f3, f4, f5, f6, f7, fun m _ => ?_⟩
  have : fdN ((pS (bz s)).map z9) m = fdN (bz s) m := by rw [fdN, fdN, f3, f4, f5, e]
  rw [this]
  exact ⟨rfl, rfl⟩
 | true =>
  have hb : hasZ (bodyZ (pS (bz s))) 90 = true := by
   rw [hasZ_iff] at h90 ⊢
   obtain ⟨t, ht, ht2⟩ := body_app (pS (bz s))
   rw [ht] at h90
   rcases List.mem_append.1 h90 with q | q
   ·exact q
   ·rcases ht2 with ⟨rfl, _⟩ | ⟨rfl | rfl, _⟩
    ·cases q
    ·simp at q
    ·simp at q
  obtain ⟨g1, g2, g3⟩ := z9_num hnum hb
  have g4 : 42 ∉ bodyZ (pS (bz s)) := fun q => by rw [hasZ_iff.2 q] at g3; cases g3
  have g5 : hasZ (pS (bz s)) 42 = false := by
   cases e : hasZ (pS (bz s)) 42 with
   | false => rfl
   | true =>
    have hm := hasZ_iff.1 e
    obtain ⟨t, ht, ht2⟩ := body_app (pS (bz s))
    rw [ht] at hm
    rcases List.mem_append.1 hm with q | q
    ·exact absurd q g4
    ·rcases ht2 with ⟨rfl, _⟩ | ⟨rfl | rfl, _⟩
     ·cases q
     ·simp at q
     ·simp at q
  have hM := map_marks g2 g4
  obtain ⟨f1, f2, f3, f4, f5, f6, f7, f8, f9⟩ := facts (pS (bz s)) _ rfl rfl (.inl hM) g1
  refine ⟨f8, f9, f1, f2, f3, f4, f5, f6, f7, fun m hm => ?_⟩
  have lenW : (fdN ((pS (bz s)).map z9) m).length = (pW (bz s)).toNat := by
   have := size_fdN (s := sz ((pS (bz s)).map z9)) (by rw [bz_sz f8]; exact f2) m
   rw [bz_sz f8, f4, sz_size] at this
   omega
  have lenS : (fdN (bz s) m).length = (pW (bz s)).toNat := by
   have := size_fdN (s := s) h m
   rw [sz_size] at this
   omega
  refine ⟨by rw [lenW, lenS], ?_⟩
  have eW : fdN ((pS (bz s)).map z9) m = fdGo 0 32 0 (decide (m < 0)) ((marksZ (pS (bz s))).map m9) ((pS (bz s)).map z9) (digZ m.natAbs (pD (bz s)).toNat) 0 := by
   rw [fdN, f3, f4, f5]
   have l0 : fdLe ((pS (bz s)).map z9) (pW (bz s)) (pD (bz s)).toNat m = 0 := by
    rw [fdLe, hM, endZ, no_99]
    rfl
   have b0 : fdBl ((pS (bz s)).map z9) (pW (bz s)) (pD (bz s)).toNat m = false := by
    rw [fdBl, l0]
    rfl
   have d0 : fdDr ((pS (bz s)).map z9) = 0 := by
    rw [fdDr, hM, no_99, Bool.and_false, Bool.and_false, cond_false]
   have fl : fdFl ((pS (bz s)).map z9) = 32 := by
    rw [fdFl, map_has (by decide) (by decide), g5, if_neg (by decide)]
   rw [fieldZ, b0, cond_false, d0]
   show fdOut _ _ _ _ = _
   rw [fdOut, l0, fl, d0, hM]
  cases hbl : fdBl (pS (bz s)) (pW (bz s)) (pD (bz s)).toNat m with
  | true =>
   have hle : fdLe (pS (bz s)) (pW (bz s)) (pD (bz s)).toNat m = pW (bz s) := by
    simp only [fdBl, Bool.and_eq_true, beq_iff_eq] at hbl
    exact hbl.2.1
   rw [hle, List.drop_eq_nil_of_le (by rw [lenW]; exact Nat.le_refl _), List.drop_eq_nil_of_le (by rw [lenS]; exact Nat.le_refl _)]
  | false =>
   have eS : fdN (bz s) m = fdGo (fdLe (pS (bz s)) (pW (bz s)) (pD (bz s)).toNat m) 32 0 (decide (m < 0)) (marksZ (pS (bz s))) (pS (bz s)) (digZ m.natAbs (pD (bz s)).toNat) 0 := by
    have d0 : fdDr (pS (bz s)) = 0 := by
     rw [fdDr, h90]
     rfl
    have fl : fdFl (pS (bz s)) = 32 := by rw [fdFl, g5, if_neg (by decide)]
    rw [fdN, fieldZ, hbl, cond_false, d0]
    show fdOut _ _ _ _ = _
    rw [fdOut, fl, d0]
   have := (fs_z9 (le := fdLe (pS (bz s)) (pW (bz s)) (pD (bz s)).toNat m) (fl := 32) (neg := decide (m < 0)) (marksZ (pS (bz s))) (pS (bz s)) (digZ m.natAbs (pD (bz s)).toNat) 0 (Int.le_refl 0) (marks_zm g2 g4)).2
   rw [Int.sub_zero] at this
   rw [eW, eS]
   exact this
end Go.Px
end
noncomputable section
set_option maxHeartbeats 3200000
namespace Go.Px
open Go Go.Ab Go.Proofs Go.Shelf
/-- The tables; bytes that are made of a string may be written into. -/
instance tabsB : Tabs := { row := rowsT, plain := tabs.plain, ownB := true }
theorem RelM.toA {N : Nat} {w0 : World} {m : Lk} {ι : Nm} {w : World} (h : @RelM tabsB N w0 m ι w) : @RelM tabs N w0 m ι w :=
 @RelM.mk tabs N w0 m ι w h.below h.base h.blk h.view h.inj
theorem pureB {f : FuncId} {s : Ab.Spec} (h : @PureOK tabs Tryz.prog f s) : @PureOK tabsB Tryz.prog f s :=
 ⟨h.1, fun args v N w0 lk ι w hr hs hv => h.2 args v N w0 lk ι w (RelM.toA hr) hs hv⟩
def L15 : Env := (((((((Env.nil.add 19 (sp0 s19)).add 30 (sp1 s30)).add 33 (sp1 s33)).add 46 (sp1 s46)).add 32 (sp2 s32)).add 20 (sp3 s20)).add 36 (sp2 s36))
theorem ok_L15 : EnvOK Tryz.prog L15 := env_add (env_add (env_add (env_add (env_add (env_add (env_add (env_nil) (pureB ok19)) (pureB ok30)) (pureB ok33)) (pureB ok46)) (pureB ok32)) (pureB ok20)) (pureB ok36)
structure BrP (d : List Value) (m cap : Nat) : Prop where
 bytes : isBytes d = true
 len : d.length = cap
 le : m ≤ cap
 lim : m ≤ 1000
def brOK (d : List Value) (m cap : Nat) : Bool := isBytes d && (Nat.beq d.length cap && (Nat.ble m cap && Nat.ble m 1000))
theorem brOK_iff {d : List Value} {m cap : Nat} : brOK d m cap = true ↔ BrP d m cap := by
 simp only [brOK, Bool.and_eq_true, Nat.ble_eq, Nat.beq_eq]
 exact ⟨fun ⟨h1, h2, h3, h4⟩ => ⟨h1, h2, h3, h4⟩, fun ⟨h1, h2, h3, h4⟩ => ⟨h1, h2, h3, h4⟩⟩
theorem BrP.plain {d : List Value} {m cap : Nat} (h : BrP d m cap) : plainL d = true := isBytes_plain h.bytes
theorem BrP.good {d : List Value} {m cap : Nat} (h : BrP d m cap) (ps : List (Nat × Nat)) : (goodL ps d && true && true) = true := by rw [goodL_plain h.plain]; rfl
theorem BrP.rlb {d : List Value} {m cap : Nat} (h : BrP d m cap) (ps : List (Nat × Nat)) : rlbL ps d = d := rlbL_plain ps h.plain
theorem BrP.zlen {d : List Value} {m cap : Nat} (h : BrP d m cap) : (zc d m).length = m := by
 have h1 := h.len
 have h2 := h.le
 simp only [zc, List.length_map, List.length_take]
 omega
theorem BrP.at {d : List Value} {m cap : Nat} (h : BrP d m cap) {i : Int} (h0 : 0 ≤ i) (hi : i < m) : isIntAt .u8 d i.toNat = true ∧ intAt d i.toNat = (zc d m).getD i.toNat 0 := by
 have h1 := h.len
 have h2 := h.le
 obtain ⟨q1, q2⟩ := at_bytes h.bytes (j := i.toNat) (by omega)
 refine ⟨q1, ?_⟩
 rw [q2, zc, List.getD_eq_getElem?_getD, List.getD_eq_getElem?_getD, List.getElem?_map, List.getElem?_map, List.getElem?_take_of_lt (by omega)]
theorem BrP.set {d : List Value} {m cap : Nat} (h : BrP d m cap) (k : Nat) (x : Int) : BrP (d.set k (.int .u8 x)) m cap ∧ zc (d.set k (.int .u8 x)) m = (zc d m).set k x := by
 refine ⟨⟨isBytes_iff.2 fun v hv => ?_, by rw [List.length_set]; exact h.len, h.le, h.lim⟩, ?_⟩
 ·rcases List.mem_or_eq_of_mem_set hv with q | q
  ·exact isBytes_iff.1 h.bytes v q
  ·exact ⟨x, q⟩
 ·rw [zc, zc, List.take_set, List.map_set]
  rfl
theorem set_z9 : ∀ (L : List Int) (k : Nat), k < L.length → L.getD k 0 = 90 → (L.set k 57).take (k + 1) ++ ((L.set k 57).drop (k + 1)).map z9 = L.take k ++ (L.drop k).map z9
 | c :: r, 0, _, h => by
  have h : c = 90 := h
  subst h
  rfl
 | c :: r, k + 1, hk, h => by
  have := set_z9 r k (by simpa using hk) (by simpa using h)
  rw [List.set_cons_succ, List.take_succ_cons, List.drop_succ_cons, List.take_succ_cons, List.drop_succ_cons, List.cons_append, List.cons_append, this]
theorem id_z9 : ∀ (L : List Int) (k : Nat), k < L.length → L.getD k 0 ≠ 90 → L.take (k + 1) ++ (L.drop (k + 1)).map z9 = L.take k ++ (L.drop k).map z9
 | c :: r, 0, _, h => by
  have h : c ≠ 90 := h
  simp only [List.take_succ_cons, List.take_zero, List.drop_succ_cons, List.drop_zero, List.map_cons, z9_id h]
  rfl
 | c :: r, k + 1, hk, h => by
  have := id_z9 r k (by simpa using hk) (by simpa using h)
  rw [List.take_succ_cons, List.drop_succ_cons, List.take_succ_cons, List.drop_succ_cons, List.cons_append, List.cons_append, this]
theorem BrP.str {d : List Value} {m cap : Nat} (h : BrP d m cap) : bytesOK d 0 m = true ∧ bytesOf d 0 m = sz (zc d m) := by
 have hz := h.zlen
 have hb : isBytes (d.take m) = true := isBytes_iff.2 fun v hv => isBytes_iff.1 h.bytes v (List.mem_of_mem_take hv)
 have e : d = cz (zc d m) ++ d.drop m := by rw [zc, cz_of hb, List.take_append_drop]
 have h1 := bytesOK_cz (zc d m) (d.drop m)
 have h2 := bytesOf_cz (zc d m) (d.drop m)
 rw [← e, hz] at h1 h2
 exact ⟨h1, h2⟩
def V15_0 : ByteArray × Int × Bool × ByteArray × Bool × Int × Int × Int × Bool × List Value × Nat × Nat × Int → List Value := fun (s, n, r, z, zb, z1, z2, z3, zg, d, m, cap, i) => [S s, I n, B r, .pointer (some ⟨8, 0, some 0⟩), .slice (some ⟨20, 0, some 1⟩) m cap, I i]
def B15_0 : ByteArray × Int × Bool × ByteArray × Bool × Int × Int × Int × Bool × List Value × Nat × Nat × Int → List (Option Blk) := fun (s, n, r, z, zb, z1, z2, z3, zg, d, m, cap, i) => [some ⟨[S z, B zb, I z1, I z2, I z3, B zg], 36, true⟩, some ⟨d, itTy + 1 + 5, true⟩]
def S15_0 : LSpecA (ByteArray × Int × Bool × ByteArray × Bool × Int × Int × Int × Bool × List Value × Nat × Nat × Int) where
 live := [0, 1, 4, 5, 7, 8]
 mid := [8, 20]
 n := 120
 ap := []
 dec vs bs := match vs, bs with
  | [.string s, .int .i64 n, .bool r, .pointer (some ⟨8, 0, some 0⟩), .slice (some ⟨20, 0, some 1⟩) m cap, .int .i64 i], [some ⟨[.string z, .bool zb, .int .i64 z1, .int .i64 z2, .int .i64 z3, .bool zg], 36, true⟩, some ⟨d, ty, true⟩] => match Nat.beq ty (itTy + 1 + 5) with | true => some (s, n, r, z, zb, z1, z2, z3, zg, d, m, cap, i) | false => none
  | _, _ => none
 pre := fun (s, n, r, z, zb, z1, z2, z3, zg, d, m, cap, i) => brOK d m cap && decide (0 ≤ i ∧ i ≤ m)
 fin := fun (s, n, r, z, zb, z1, z2, z3, zg, d, m, cap, i) Z => ∀ d', brOK d' m cap = true → zc d' m = (zc d m).take i.toNat ++ ((zc d m).drop i.toNat).map z9 → Z (.exit 0) [S s, I n, B r, .pointer (some ⟨8, 0, some 0⟩), .slice (some ⟨20, 0, some 1⟩) m cap, I m] [some ⟨[S z, B zb, I z1, I z2, I z3, B zg], 36, true⟩, some ⟨d', itTy + 1 + 5, true⟩]
theorem r15_0 (s : ByteArray) (n : Int) (r : Bool) (z : ByteArray) (zb : Bool) (z1 : Int) (z2 : Int) (z3 : Int) (zg : Bool) (d : List Value) (m : Nat) (cap : Nat) (i : Int) (jk : Tmps) (R : Exit → List Value → List (Option Blk) → Prop) : (codeQ Tryz.prog L15 noL Tryz.f15.ntmps (loopOf Tryz.f15 0) (tl S15_0.live (V15_0 (s, n, r, z, zb, z1, z2, z3, zg, d, m, cap, i)) jk) (ml S15_0.mid (B15_0 (s, n, r, z, zb, z1, z2, z3, zg, d, m, cap, i))) S15_0.n fun e t' m' _ => S15_0.out R e t' m') = ( bif decide (i < natO m) then bif decide (0 ≤ i ∧ i < (↑m : Int)) then bif isIntAt IntKind.u8 d (0 + Int.toNat i * 1) then bif intAt d (0 + Int.toNat i * 1) == 90 then bif decide (0 ≤ i ∧ i < (↑m : Int)) then bif Nat.ble (0 + Int.toNat i * 1 + 1) (List.length d) then bif goodL [] (setL d (0 + Int.toNat i * 1) [.int .u8 57]) && true && true then R Exit.normal [.string s, .int .i64 n, .bool r, .pointer (some (.mk 8 0 (some 0))), .slice (some (.mk 20 0 (some 1))) m cap, .int .i64 (IntKind.wrap .i64 (i + 1))] [some (.mk [.string z, .bool zb, .int .i64 z1, .int .i64 z2, .int .i64 z3, .bool zg] 36 true), some (.mk (rlbL [] (setL d (0 + Int.toNat i * 1) [.int .u8 57])) 4611686018427387910 true)] else False else False else False else bif goodL [] d && true && true then R Exit.normal [.string s, .int .i64 n, .bool r, .pointer (some (.mk 8 0 (some 0))), .slice (some (.mk 20 0 (some 1))) m cap, .int .i64 (IntKind.wrap .i64 (i + 1))] [some (.mk [.string z, .bool zb, .int .i64 z1, .int .i64 z2, .int .i64 z3, .bool zg] 36 true), some (.mk (rlbL [] d) 4611686018427387910 true)] else False else False else False else bif goodL [] d && true && true then R (Exit.exit 0) [.string s, .int .i64 n, .bool r, .pointer (some (.mk 8 0 (some 0))), .slice (some (.mk 20 0 (some 1))) m cap, .int .i64 i] [some (.mk [.string z, .bool zb, .int .i64 z1, .int .i64 z2, .int .i64 z3, .bool zg] 36 true), some (.mk (rlbL [] d) 4611686018427387910 true)] else False) := by kernel_rfl
theorem l15_0 : LOKf Tryz.prog (oneL 0 S15_0.hA) Tryz.f15 := by
 refine lokf_one (h := S15_0.hA) (by kernel_rfl) (loop_specA ok_L15 hmix (by kernel_rfl) (lok_none _) S15_0 V15_0 B15_0 (fun (s, n, r, z, zb, z1, z2, z3, zg, d, m, cap, i) => (m - i).toNat) ?_ ?_ ?_)
 ·intro vs bs s h
  simp only [S15_0] at h
  split at h
  all_goals first | (cases h; exact ⟨rfl, rfl⟩) | cases h | (split at h <;> first | (rename_i hq; cases h; have hq := Nat.eq_of_beq_eq_true hq; subst hq; exact ⟨rfl, rfl⟩) | cases h)
 ·exact fun ⟨s, n, r, z, zb, z1, z2, z3, zg, d, m, cap, i⟩ hp => by
   simp only [S15_0, Bool.and_eq_true] at hp
   simp [V15_0, B15_0, S15_0, idsLt, idsLtB, idsL, ids, ids_plainL (brOK_iff.1 hp.1).plain]
 ·intro ⟨s, n, r, z, zb, z1, z2, z3, zg, d, m, cap, i⟩ jk Z hp hf
  rw [r15_0]
  simp only [S15_0] at hp hf
  simp only [Bool.and_eq_true, decide_eq_true_eq] at hp
  obtain ⟨hv, h0, hi⟩ := hp
  have hv := brOK_iff.1 hv
  have hz := hv.zlen
  rw [natO_eq, Nat.mul_one, Nat.zero_add]
  refine cond_intro (fun h => ?_) (fun h => ?_)
  ·have h := of_decide_eq_true h
   obtain ⟨a1, a2⟩ := hv.at h0 h
   have hlen := hv.len
   have hle := hv.le
   have hlim := hv.lim
   have g1 : decide (0 ≤ i ∧ i < (m : Int)) = true := decide_eq_true ⟨h0, h⟩
   rw [g1, w64 (n := i + 1) (by omega)]
   have e1 : (i + 1).toNat = i.toNat + 1 := by omega
   refine c_t rfl (c_t a1 (cond_intro (fun q => ?_) (fun q => ?_)))
   ·have q : intAt d i.toNat = 90 := eq_of_beq q
    obtain ⟨b1, b2⟩ := hv.set i.toNat 57
    have es : setL d i.toNat [.int .u8 57] = d.set i.toNat (.int .u8 57) := rfl
    rw [es, b1.rlb]
    refine c_t rfl (c_t (Nat.ble_eq_true_of_le (by omega)) (c_t (b1.good _) ?_))
    refine ⟨(s, n, r, z, zb, z1, z2, z3, zg, d.set i.toNat (.int .u8 57), m, cap, i + 1), rfl, rfl, ?_, by simp only; omega, fun d' h1 h2 => hf d' h1 ?_⟩
    ·simp only [S15_0, Bool.and_eq_true, decide_eq_true_eq]
     exact ⟨brOK_iff.2 b1, by omega, by omega⟩
    ·rw [h2, b2, e1]
     exact set_z9 _ _ (by omega) (by rw [← a2]; exact q)
   ·have q : intAt d i.toNat ≠ 90 := by simpa using q
    rw [hv.rlb]
    refine c_t (hv.good _) ?_
    refine ⟨(s, n, r, z, zb, z1, z2, z3, zg, d, m, cap, i + 1), rfl, rfl, ?_, by simp only; omega, fun d' h1 h2 => hf d' h1 ?_⟩
    ·simp only [S15_0, Bool.and_eq_true, decide_eq_true_eq]
     exact ⟨brOK_iff.2 hv, by omega, by omega⟩
    ·rw [h2, e1]
     exact id_z9 _ _ (by omega) (by rw [← a2]; exact q)
  ·have h := of_decide_eq_false h
   have e : i = m := by omega
   subst e
   rw [hv.rlb]
   refine c_t (hv.good _) (hf d (brOK_iff.2 hv) ?_)
   rw [Int.toNat_natCast, List.take_of_length_le (by omega), List.drop_eq_nil_of_le (by omega), List.map_nil, List.append_nil]
def s15 (s : ByteArray) (n : Int) : Bool × Value := (decide (s.size ≤ 9223372036854775807), .bool true)
theorem fn15 : Fn1 Tryz.prog 15 Tryz.f15 := ⟨Tryz.func15, by kernel_rfl, by kernel_rfl, by kernel_rfl⟩
theorem v15 (s : ByteArray) (n : Int) (R : Value → Prop) : bodyQ Tryz.prog L15 (oneL 0 S15_0.hA) Tryz.f15 [Enc.enc s, Enc.enc n] (fun _ => none) 0 (fun v _ _ => R v) = ( bif decide (ByteArray.size s ≤ 9223372036854775807) then bif pE (bz s) != 0 || true then bif pE (bz s) != 0 || !pN (bz s) then bif decide (ByteArray.size s ≤ 9223372036854775807) then R (.bool (pE (bz s) == pE (bz s))) else False else ∀ (cap : Nat) (d : List Value), strRow (sz (pS (bz s))) cap d = true → bif goodL [] d && true && true && (idsLt 120 (rlbL [] d) && true) then bif LSpec.pre (LSpecA.toLSpec S15_0) (s, n, false, sz (pS (bz s)), pN (bz s), pW (bz s), pD (bz s), pQ (bz s), pG (bz s), rlbL [] d, ByteArray.size (sz (pS (bz s))), cap, 0) then ∀ (d' : List Value), brOK d' (ByteArray.size (sz (pS (bz s)))) cap = true → zc d' (ByteArray.size (sz (pS (bz s)))) = List.take (Int.toNat 0) (zc (rlbL [] d) (ByteArray.size (sz (pS (bz s))))) ++ List.map z9 (List.drop (Int.toNat 0) (zc (rlbL [] d) (ByteArray.size (sz (pS (bz s)))))) → bif idsLt 120 d' && true then ∀ (x : Tmps), bif decide (ByteArray.size s ≤ 9223372036854775807) then bif bytesOK d' 0 (ByteArray.size (sz (pS (bz s)))) then bif decide (ByteArray.size (bytesOf d' 0 (ByteArray.size (sz (pS (bz s))))) ≤ 9223372036854775807) then bif pE (bz s) != 0 || (pE (bz (bytesOf d' 0 (ByteArray.size (sz (pS (bz s)))))) != 0 || true) then bif pE (bz s) != 0 || (pE (bz (bytesOf d' 0 (ByteArray.size (sz (pS (bz s)))))) != 0 || !(tyK (bz s) == tyK (bz (bytesOf d' 0 (ByteArray.size (sz (pS (bz s)))))) && (tyP (bz s) == tyP (bz (bytesOf d' 0 (ByteArray.size (sz (pS (bz s)))))) && (pQ (bz s) == pQ (bz (bytesOf d' 0 (ByteArray.size (sz (pS (bz s)))))) && (false == false && (ByteArray.toList (ByteArray.mk #[]) == ByteArray.toList (ByteArray.mk #[]) && true)))))) then R (.bool false) else bif decide (ByteArray.size s ≤ 9223372036854775807) then bif decide (ByteArray.size s ≤ 9223372036854775807 ∧ -9223372036854775808 ≤ wiZ (bz s) n ∧ wiZ (bz s) n ≤ 9223372036854775807) then bif bytesOK d' 0 (ByteArray.size (sz (pS (bz s)))) then bif decide (ByteArray.size (bytesOf d' 0 (ByteArray.size (sz (pS (bz s))))) ≤ 9223372036854775807 ∧ -9223372036854775808 ≤ wiZ (bz s) n ∧ wiZ (bz s) n ≤ 9223372036854775807) then bif decide (ByteArray.size s ≤ 9223372036854775807 ∧ -9223372036854775808 ≤ wiZ (bz s) n ∧ wiZ (bz s) n ≤ 9223372036854775807) then bif bif edF (bz s) (wiZ (bz s) n) (pQ (bz s)) then bif edF (bz (bytesOf d' 0 (ByteArray.size (sz (pS (bz s)))))) (wiZ (bz s) n) (pQ (bz s)) then bif decide (leZ (bz s) (wiZ (bz s) n) ≥ 0) then bif decide (leZ (bz s) (wiZ (bz s) n) ≤ (↑(ByteArray.size (sz (edS (bz s) (wiZ (bz s) n) (pQ (bz s))))) : Int)) then bif (↑(ByteArray.size (sz (edS (bz s) (wiZ (bz s) n) (pQ (bz s))))) : Int) == (↑(ByteArray.size (sz (edS (bz (bytesOf d' 0 (ByteArray.size (sz (pS (bz s)))))) (wiZ (bz s) n) (pQ (bz s))))) : Int) then decide (0 ≤ leZ (bz s) (wiZ (bz s) n) ∧ leZ (bz s) (wiZ (bz s) n) ≤ (↑(ByteArray.size (sz (edS (bz s) (wiZ (bz s) n) (pQ (bz s))))) : Int) ∧ (↑(ByteArray.size (sz (edS (bz s) (wiZ (bz s) n) (pQ (bz s))))) : Int) ≤ (↑(ByteArray.size (sz (edS (bz s) (wiZ (bz s) n) (pQ (bz s))))) : Int)) && (decide (0 ≤ leZ (bz s) (wiZ (bz s) n) ∧ leZ (bz s) (wiZ (bz s) n) ≤ (↑(ByteArray.size (sz (edS (bz (bytesOf d' 0 (ByteArray.size (sz (pS (bz s)))))) (wiZ (bz s) n) (pQ (bz s))))) : Int) ∧ (↑(ByteArray.size (sz (edS (bz (bytesOf d' 0 (ByteArray.size (sz (pS (bz s)))))) (wiZ (bz s) n) (pQ (bz s))))) : Int) ≤ (↑(ByteArray.size (sz (edS (bz (bytesOf d' 0 (ByteArray.size (sz (pS (bz s)))))) (wiZ (bz s) n) (pQ (bz s))))) : Int)) && true) else true else true else true else true else true then R (.bool (edF (bz s) (wiZ (bz s) n) (pQ (bz s)) && (edF (bz (bytesOf d' 0 (ByteArray.size (sz (pS (bz s)))))) (wiZ (bz s) n) (pQ (bz s)) && (decide (leZ (bz s) (wiZ (bz s) n) ≥ 0) && (decide (leZ (bz s) (wiZ (bz s) n) ≤ (↑(ByteArray.size (sz (edS (bz s) (wiZ (bz s) n) (pQ (bz s))))) : Int)) && ((↑(ByteArray.size (sz (edS (bz s) (wiZ (bz s) n) (pQ (bz s))))) : Int) == (↑(ByteArray.size (sz (edS (bz (bytesOf d' 0 (ByteArray.size (sz (pS (bz s)))))) (wiZ (bz s) n) (pQ (bz s))))) : Int) && ByteArray.toList (ByteArray.extract (sz (edS (bz s) (wiZ (bz s) n) (pQ (bz s)))) (Int.toNat (leZ (bz s) (wiZ (bz s) n))) (ByteArray.size (sz (edS (bz s) (wiZ (bz s) n) (pQ (bz s)))))) == ByteArray.toList (ByteArray.extract (sz (edS (bz (bytesOf d' 0 (ByteArray.size (sz (pS (bz s)))))) (wiZ (bz s) n) (pQ (bz s)))) (Int.toNat (leZ (bz s) (wiZ (bz s) n))) (ByteArray.size (sz (edS (bz (bytesOf d' 0 (ByteArray.size (sz (pS (bz s)))))) (wiZ (bz s) n) (pQ (bz s)))))))))))) else False else False else False else False else False else False else False else False else False else False else False else False else False else False else False) := by kernel_rfl
theorem ok15 : PureOK Tryz.prog 15 (sp2 s15) := by
 refine qure2 ok_L15 hmix fn15 l15_0 (Nat.le_of_ble_eq_true (by kernel_rfl)) fun s n hc => ?_
 rw [DoesQ, v15]
 have hc : (s.size ≤ 9223372036854775807) := of_decide_eq_true hc
 try dsimp only [s15]
 rw [pe_pn]
 refine c_t (decide_eq_true hc) (c_t (by simp) (cond_intro (fun h => ?_) (fun h => ?_)))
 ·refine c_t (decide_eq_true hc) ?_
  simp
 have h : pN (bz s) = true := by simpa using h
 obtain ⟨w1, w2⟩ := wi_rng h n
 have w3 := wi_64 (bz s) n
 have hp := pD_rng h
 have hw := @pW_rng s
 generalize wiZ (bz s) n = m at *
 have Z := z9_law h
 have hv := pN_vOK h
 have hl := pS_len s
 obtain ⟨e1, e2, e3⟩ := ed_in h w1 w2
 have H := hd_mk h w1 w2
 have hle := le_W hl h w1
 have zF := size_fdN h m
 intro cap d hd
 simp only [strRow, Bool.and_eq_true, Nat.beq_eq, Nat.ble_eq, decide_eq_true_eq] at hd
 obtain ⟨k1, k2, k3, k4⟩ := hd
 have zS : (sz (pS (bz s))).size = (pS (bz s)).length := sz_size _
 have B : BrP d (sz (pS (bz s))).size cap := ⟨k3, k1, k2, by rw [zS]; omega⟩
 have kz : zc d (sz (pS (bz s))).size = pS (bz s) := by
  rw [zc, show iv = cInt from by funext v; cases v <;> rfl, k4]
  exact bz_sz hl.1
 rw [B.rlb, kz]
 refine c_t (by rw [B.good, ids_plainB B.plain]; rfl) (c_t ?_ fun d' hd' hz' => c_t (by rw [ids_plainB (brOK_iff.1 hd').plain]; rfl) fun x => ?_)
 ·simp only [S15_0, Bool.and_eq_true, decide_eq_true_eq]
  exact ⟨brOK_iff.2 B, by omega, by omega⟩
 have hW : zc d' (sz (pS (bz s))).size = (pS (bz s)).map z9 := by
  rw [hz']
  rfl
 obtain ⟨q1, q2⟩ := (brOK_iff.1 hd').str
 rw [q1, q2, hW, bz_sz Z.isB]
 have zW : (sz ((pS (bz s)).map z9)).size ≤ 32 := by rw [sz_size]; exact Z.len
 generalize (pS (bz s)).map z9 = W at *
 obtain ⟨f1, f2, f3⟩ := ed_in (l := W) Z.n (n := m) (by rw [Z.d]; exact w1) (by rw [Z.g]; exact w2)
 rw [Z.q] at f1 f2
 obtain ⟨g1, g2⟩ := Z.fd m w1
 have iS : IsB (fdN (bz s) m) := fdN_isB m
 have iW : IsB (fdN W m) := by
  unfold fdN
  exact field_isB (by rw [Z.s]; exact Z.isB) _ _ _
 have E0 : pE (bz s) = 0 := by rw [pE, if_pos hv]
 have E1 : pE W = 0 := by rw [pE, if_pos Z.v]
 have T1 : tyK W = tyK (bz s) := by rw [tyK, tyK, if_pos Z.v, if_pos Z.n, if_pos hv, if_pos h]
 have T2 : tyP W = tyP (bz s) := by rw [tyP, tyP, if_pos Z.v, if_pos Z.n, if_pos hv, if_pos h, Z.d]
 have zFW : ((sz (fdN W m)).size : Int) = pW (bz s) := by rw [sz_size, g1, ← sz_size]; exact zF
 have hx : ((sz (fdN (bz s) m)).extract (fdLe (pS (bz s)) (pW (bz s)) (pD (bz s)).toNat m).toNat (sz (fdN (bz s) m)).size).toList == ((sz (fdN W m)).extract (fdLe (pS (bz s)) (pW (bz s)) (pD (bz s)).toNat m).toNat (sz (fdN W m)).size).toList := by
  rw [toList_beq, bz_extract, bz_extract, bz_sz iS, bz_sz iW, sz_size, sz_size, List.take_of_length_le (Nat.le_refl _), List.take_of_length_le (Nat.le_refl _), g2]
  exact decide_eq_true rfl
 have d1 := decide_eq_true (show s.size ≤ 9223372036854775807 ∧ -9223372036854775808 ≤ m ∧ m ≤ 9223372036854775807 from ⟨hc, w3⟩)
 have d2 := decide_eq_true (show (sz W).size ≤ 9223372036854775807 ∧ -9223372036854775808 ≤ m ∧ m ≤ 9223372036854775807 from ⟨by omega, w3⟩)
 have d3 : decide ((sz W).size ≤ 9223372036854775807) = true := decide_eq_true (by omega)
 rw [E0, E1, T1, T2, Z.q, e1, e2, f1, f2, H.le, hx, zF, zFW, d3, d1, d2]
 have d4 : decide (fdLe (pS (bz s)) (pW (bz s)) (pD (bz s)).toNat m ≥ 0) = true := decide_eq_true hle.1
 have d5 : decide (fdLe (pS (bz s)) (pW (bz s)) (pD (bz s)).toNat m ≤ pW (bz s)) = true := decide_eq_true hle.2
 have d6 : decide (0 ≤ fdLe (pS (bz s)) (pW (bz s)) (pD (bz s)).toNat m ∧ fdLe (pS (bz s)) (pW (bz s)) (pD (bz s)).toNat m ≤ pW (bz s) ∧ pW (bz s) ≤ pW (bz s)) = true := decide_eq_true ⟨hle.1, hle.2, by omega⟩
 rw [d4, d5, d6]
 refine c_t (decide_eq_true hc) (c_t rfl (c_t rfl (c_t (by simp) (c_f (by simp) (c_t (decide_eq_true hc) (c_t rfl (c_t rfl (c_t rfl (c_t rfl (c_t (by simp) ?_))))))))))
 simp
end Go.Px
end
noncomputable section
namespace Go.Px
open Go Go.Ab Go.Proofs Go.Shelf Go.ChangeMaps Go.ChangeShapes Go.WideShapes Go.ChangeAt Go.RowKit Go.Joins
open Go.Proofs.YtheglfmhbfngkaaGreatDoor
theorem own : ownKnob Tryz.prog.godebug = none := by kernel_rfl
def laidL : List (String × DataW Unit) := Rows.pictureEditsRow.laid
theorem tab_is {P : Program} {W : World} {name : String} {k : IntKind} {zs : List Int} {g : Nat} {t e : TypeId} {n : Nat} (hr : Lib.VarReads P W name (Lib.tabData k zs))
  (hg : P.globalNamed name = some g) (hty : (P.globals[g]?).map (·.type) = some t) (ht : P.underlying t = some (.array n e)) (he : P.underlying e = some (.int k)) (hce : P.cellsOf e = 1) (hct : P.cellsOf t = n) :
  g < W.heap.size ∧ ∃ ty fr, W.heap[g]? = some (.cells ⟨zs.map fun z => Value.int k z⟩ ty fr) := by
 obtain ⟨g', t', cs, fuel, p, h1, h2, h3, h4⟩ := hr
 obtain rfl := Option.some.inj (hg.symm.trans h1)
 obtain rfl := Option.some.inj (hty.symm.trans h2)
 have hc := Lib.cells_of_tab ht he hce hct h4
 unfold World.var? at h3
 rw [hg, Option.bind_some] at h3
 split at h3
 case h_2 => cases h3
 rename_i cs' ty fr hh
 have h3 := Option.some.inj h3
 refine ⟨(Array.getElem?_eq_some_iff.1 hh).1, ty, fr, ?_⟩
 rw [hh, h3]
 congr 2
 rw [← hc]
set_option maxRecDepth 100000 in
theorem tabs_of_laid {W : World} (h : laidMetH Tryz.prog laidL W) : TabsIn W.heap.size W := by
 rw [MakeChecks.laidMetH_plain _ _ _ (by kernel_rfl)] at h
 intro b r hb
 have key : ∀ b : Nat, rowsT b = some r → b = 0 ∧ r = punchedZ.map (fun n => Value.int .u8 n) ∨ b = 3 ∧ r = pow10Z.map (fun n => Value.int .u64 n) := by
  intro b hb
  unfold rowsT at hb
  split at hb
  ·cases hb; exact .inl ⟨rfl, rfl⟩
  ·cases hb; exact .inr ⟨rfl, rfl⟩
  ·cases hb
 have t5 : Tryz.prog.cellsOf 5 = 1 := by kernel_rfl
 rcases key b hb with ⟨rfl, rfl⟩ | ⟨rfl, rfl⟩
 ·have hr : Lib.VarReads Tryz.prog W "pliant/picture.punched" (Lib.tabData .u8 punchedZ) := Lib.laidMet.reads h (by unfold laidL Rows.pictureEditsRow; exact .tail _ (.tail _ (.tail _ (.tail _ (.tail _ (.tail _ (.head _)))))))
  exact tab_is hr (g := 0) (t := 91) (n := 20) (e := 5) (by kernel_rfl) (by kernel_rfl) (by kernel_rfl) (by kernel_rfl) t5 (by kernel_rfl)
 ·have hr : Lib.VarReads Tryz.prog W "internal/strconv.uint64pow10" (Lib.tabData .u64 pow10Z) := Lib.laidMet.reads h (by unfold laidL Rows.pictureEditsRow; exact .tail _ (.tail _ (.head _)))
  exact tab_is hr (g := 3) (t := 168) (n := 20) (e := 94) (by kernel_rfl) (by kernel_rfl) (by kernel_rfl) (by kernel_rfl) (by kernel_rfl) (by kernel_rfl)
def OpensP (P : Program) (t : TypeId) (α : Type) [Enc α] (Q : α → Prop) : Prop :=
 ∀ {H : Type} {enc : TypeId × Value → H} {w : World} {base : Nat} {spare : Nat → Bool} {held : Bool} {r : Reach} {b0 : Nat} {v : Value} {d : DataW H} {p : List MemPlace}, Value.okWide P w r b0 t v → DataW.Trod enc P w base spare held t v d p →
  ∃ a : α, v = Enc.enc a ∧ Q a ∧ p = [] ∧ ∀ (w' : World) (b' : Nat) (sp' : Nat → Bool) (hd' : Bool), DataW.Trod enc P w' b' sp' hd' t v d []
theorem opensP_string {P : Program} {t : TypeId} (ht : P.underlying t = some .string) : OpensP P t ByteArray fun s => s.size ≤ 9223372036854775807 := by
 intro H enc w base spare held r b0 v d p hv h
 obtain ⟨n, rfl, rfl, rfl, hw⟩ := open_string ht hv h
 exact ⟨n, rfl, Nat.le_trans hw (by decide), rfl, fun w' b' sp' hd' => shut_string ht hw⟩
theorem oS : OpensP Tryz.prog 9 ByteArray fun s => s.size ≤ 9223372036854775807 := opensP_string Tryz.underlying9
theorem opensP_int {P : Program} {t : TypeId} (ht : P.underlying t = some (.int .i64)) : OpensP P t Int fun n => -9223372036854775808 ≤ n ∧ n ≤ 9223372036854775807 := by
 intro H enc w base spare held r b0 v d p hv h
 obtain ⟨n, rfl, rfl, rfl, hw⟩ := open_int ht hv h
 exact ⟨n, rfl, by simpa [Lit.wf, IntKind.min, IntKind.max, IntKind.signed, IntKind.bits] using hw, rfl, fun w' b' sp' hd' => shut_int ht hw⟩
theorem oI : OpensP Tryz.prog 3 Int fun n => -9223372036854775808 ≤ n ∧ n ≤ 9223372036854775807 := opensP_int Tryz.underlying3
theorem opensP_bool {P : Program} {t : TypeId} (ht : P.underlying t = some .bool) : OpensP P t Bool fun _ => True := by
 intro H enc w base spare held r b0 v d p hv h
 obtain ⟨n, rfl, rfl, rfl⟩ := open_bool ht hv h
 exact ⟨n, rfl, trivial, rfl, fun w' b' sp' hd' => shut_bool ht n⟩
theorem oB : OpensP Tryz.prog 4 Bool fun _ => True := opensP_bool Tryz.underlying4
theorem opensP_u8 {P : Program} {t : TypeId} (ht : P.underlying t = some (.int .u8)) : OpensP P t U8 fun c => 0 ≤ c.n ∧ c.n ≤ 255 := by
 intro H enc w base spare held r b0 v d p hv h
 obtain ⟨n, rfl, rfl, rfl, hw⟩ := open_int ht hv h
 exact ⟨⟨n⟩, rfl, by simpa [Lit.wf, IntKind.min, IntKind.max, IntKind.signed, IntKind.bits] using hw, rfl, fun w' b' sp' hd' => shut_int ht hw⟩
theorem oC : OpensP Tryz.prog 5 U8 fun c => 0 ≤ c.n ∧ c.n ≤ 255 := opensP_u8 Tryz.underlying5
theorem plain_laid : ∀ w, laidMetH Tryz.prog laidL w = laidMet Tryz.prog laidL w := fun w => MakeChecks.laidMetH_plain _ _ _ (by kernel_rfl)
theorem jf_mk {P : Program} {f : FuncId} {fn : Func} {s : ChangeSpec} {c : OpenClaim} (hA : (c.wf (OpenSpec.ofChange s) && laidOutB P && mapsRowed P && fn.params.all (P.readableRec ·) && namedTie P c.named s.vars && (c.stops == []) && (P.stops == []) && (c.knobs == []) && (P.stopKnobs == [])) = true)
  (h1 : (c.inPlace == P.inPlace f) = true) (h2 : (c.unfollowed == P.unfollowed f) = true) (h3 : (c.recurses == P.recurses f) = true) (h4 : (c.named == P.varsNamed f) = true)
  (hR : ((c.maps == (fn.params.toList ++ s.plain.varTypes P).any (P.mapsRec ·)) && (c.ifaces == (fn.params.toList ++ s.plain.varTypes P).any (P.ifacesRec ·)) && (c.mapsOut == P.mapsAmong fn.resultTypes.toList) && (c.loops == (fn.params.toList ++ s.plain.varTypes P).any (P.loopsFrom ·)) && (c.wideKeys == (fn.params.toList ++ s.plain.varTypes P ++ fn.resultTypes.toList).any (P.wideKeysFrom ·)) && s.vars.all (P.varReadable ·) && fn.resultTypes.all (fun t => P.readableRec t && decide (t < P.types.size)) && (c.ifacesOut == fn.resultTypes.toList.any (P.ifacesRec ·)) && (c.loopsOut == fn.resultTypes.toList.any (P.loopsFrom ·)) && (c.plainKeys == P.plainKeys) && c.shortTexts.isNone && P.stopsHeard && P.mayEnter && (c.lifted == P.liftsFinal) && (P.make == some c.make) && (c.kinds == (if c.domain.isEmpty then [] else fn.params.toList.map fun t => match P.underlying t with | some (.int k) => some k | _ => none)) && (c.pinned == c.pinnedBy) && (c.veiled == (fn.params.toList ++ s.plain.varTypes P ++ fn.resultTypes.toList).any (P.veiledRec ·)) && c.veiledFits P fn.params.toList (fn.params.toList ++ s.plain.varTypes P ++ fn.resultTypes.toList)) = true) : joinedFacts P f fn s c = true := by
 unfold joinedFacts
 rw [hA, h1, h2, h3, h4]
 simp only [Bool.true_and]
 exact hR
theorem main_is : Tryz.pinned.checked.prog.mainIs = some (true, ("1071b1b82e10af2d54fdefa34d8f8e5a24ee595ac523bd215b5ede5d74a6a811" : String).toList) := by kernel_rfl
theorem looks_is : true = Tryz.pinned.checked.prog.looks [] := by kernel_rfl
end Go.Px
end
section

end
