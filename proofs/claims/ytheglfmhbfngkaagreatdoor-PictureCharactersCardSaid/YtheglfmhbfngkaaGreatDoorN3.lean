/-
  The run and the laws that serve these rows (part 3)
-/
import Derived.Test.YtheglfmhbfngkaaGreatDoorN2
set_option linter.unusedVariables false
set_option linter.unusedSimpArgs false
noncomputable section
namespace Go.Px
open Go Go.Ab Go.Proofs Go.Shelf
def s35 (s : ByteArray) : Bool × Value := (decide (s.size ≤ 9223372036854775807), .tuple ⟨[picV (bz s), .int .i64 (pE (bz s))]⟩)
theorem fn35 : Fn1 Tryz.prog 35 Tryz.f35 := ⟨Tryz.func35, by kernel_rfl, by kernel_rfl, by kernel_rfl⟩
theorem v35 (s : ByteArray) (R : Value → Prop) : bodyQ Tryz.prog G28 noL Tryz.f35 [Enc.enc s] (fun _ => none) 0 (fun v _ _ => R v) = ( bif decide (ByteArray.size s ≤ 9223372036854775807) then bif vOK (bz s) then bif pN (bz s) then ∀ (k cap : Nat) (d : List Value), rowIOK d k cap = true → zc d k = rolF (pS (bz s)) → R (.tuple (.mk [.agg (.mk [.string (sz (pS (bz s))), .bool true, .int .i64 (pW (bz s)), .int .i64 (pD (bz s)), .int .i64 (pQ (bz s)), .bool (pG (bz s))]), .int .i64 0])) else R (.tuple (.mk [.agg (.mk [.string (sz (pS (bz s))), .bool false, .int .i64 (pW (bz s)), .int .i64 0, .int .i64 0, .bool false]), .int .i64 0])) else R (.tuple (.mk [.agg (.mk [.string (ByteArray.mk #[]), .bool false, .int .i64 0, .int .i64 0, .int .i64 0, .bool false]), .int .i64 30])) else False) := by kernel_rfl
theorem ok35 : PureOK Tryz.prog 35 (sp1 s35) := by
 refine qure1 ok_G28 hmix fn35 lokf_none (Nat.le_of_ble_eq_true (by kernel_rfl)) fun s hc => ?_
 rw [DoesQ, v35]
 have hc : (s.size ≤ 9223372036854775807) := of_decide_eq_true hc
 try dsimp only [s35]
 refine c_t (decide_eq_true hc) (cond_intro (fun hv => cond_intro (fun hn k cap d _ _ => ?_) (fun hn => ?_)) (fun hv => ?_))
 ·simp [picV, pE, hv, hn]
 ·simp [picV, pE, hv, hn, pD, pQ, pG]
 ·have hn : pN (bz s) = false := by
   cases q : pN (bz s) with
   | false => rfl
   | true => rw [pN_vOK q] at hv; cases hv
  have a1 : pS (bz s) = [] := by rw [pS, if_neg (by rw [hv]; simp)]
  have a2 : pW (bz s) = 0 := by rw [pW, if_neg (by rw [hv]; simp)]
  have a3 : pD (bz s) = 0 := by rw [pD, if_neg (by rw [hn]; simp)]
  have a4 : pQ (bz s) = 0 := by rw [pQ, if_neg (by rw [hn]; simp)]
  have a5 : pG (bz s) = false := by rw [pG, hn]; rfl
  have a6 : pE (bz s) = 30 := by rw [pE, if_neg (by rw [hv]; simp)]
  rw [picV, a1, a2, a3, a4, a5, a6, hn, sz_nil]
def s31 (s : ByteArray) : Bool × Value := (decide (s.size ≤ 9223372036854775807), .bool (pN (bz s)))
theorem fn31 : Fn1 Tryz.prog 31 Tryz.f31 := ⟨Tryz.func31, by kernel_rfl, by kernel_rfl, by kernel_rfl⟩
theorem v31 (s : ByteArray) (R : Value → Prop) : bodyQ Tryz.prog G28 noL Tryz.f31 [Enc.enc s] (fun _ => none) 0 (fun v _ _ => R v) = ( bif decide (ByteArray.size s ≤ 9223372036854775807) then bif pN (bz s) then ∀ (k cap : Nat) (d : List Value), rowIOK d k cap = true → zc d k = rolF (pS (bz s)) → R (.bool true) else R (.bool false) else False) := by kernel_rfl
theorem ok31 : PureOK Tryz.prog 31 (sp1 s31) := by
 refine qure1 ok_G28 hmix fn31 lokf_none (Nat.le_of_ble_eq_true (by kernel_rfl)) fun s hc => ?_
 rw [DoesQ, v31]
 have hc : (s.size ≤ 9223372036854775807) := of_decide_eq_true hc
 try dsimp only [s31]
 refine c_t (decide_eq_true hc) (cond_intro (fun h k cap d _ _ => ?_) (fun h => ?_))
 ·rw [h]
 ·rw [h]
def G29 : Env := (G28.add 35 (sp1 s35))
theorem ok_G29 : EnvOK Tryz.prog G29 := env_add (ok_G28) ok35
def s33 (s : ByteArray) : Bool × Value := (decide (s.size ≤ 9223372036854775807), .int .i64 (pE (bz s)))
theorem fn33 : Fn1 Tryz.prog 33 Tryz.f33 := ⟨Tryz.func33, by kernel_rfl, by kernel_rfl, by kernel_rfl⟩
theorem v33 (s : ByteArray) (R : Value → Prop) : bodyQ Tryz.prog G29 noL Tryz.f33 [Enc.enc s] (fun _ => none) 0 (fun v _ _ => R v) = ( bif decide (ByteArray.size s ≤ 9223372036854775807) then R (.int .i64 (pE (bz s))) else False) := by kernel_rfl
theorem ok33 : PureOK Tryz.prog 33 (sp1 s33) := by
 refine qure1 ok_G29 hmix fn33 lokf_none (Nat.le_of_ble_eq_true (by kernel_rfl)) fun s hc => ?_
 rw [DoesQ, v33]
 have hc : (s.size ≤ 9223372036854775807) := of_decide_eq_true hc
 try dsimp only [s33]
 exact c_t (decide_eq_true hc) rfl
def s46 (s : ByteArray) : Bool × Value := (decide (s.size ≤ 9223372036854775807), .tuple ⟨[tyV (bz s), .int .i64 (pE (bz s))]⟩)
theorem fn46 : Fn1 Tryz.prog 46 Tryz.f46 := ⟨Tryz.func46, by kernel_rfl, by kernel_rfl, by kernel_rfl⟩
theorem v46 (s : ByteArray) (R : Value → Prop) : bodyQ Tryz.prog G29 noL Tryz.f46 [Enc.enc s] (fun _ => none) 0 (fun v _ _ => R v) = ( bif decide (ByteArray.size s ≤ 9223372036854775807) then bif pE (bz s) != 0 then R (.tuple (.mk [.agg (.mk [.int .i64 0, .int .i64 0, .int .i64 0, .bool false, .string (ByteArray.mk #[])]), .int .i64 (pE (bz s))])) else bif pN (bz s) then R (.tuple (.mk [.agg (.mk [.int .i64 1, .int .i64 (pD (bz s)), .int .i64 (pQ (bz s)), .bool false, .string (ByteArray.mk #[])]), .int .i64 0])) else R (.tuple (.mk [.agg (.mk [.int .i64 3, .int .i64 (pW (bz s)), .int .i64 0, .bool false, .string (ByteArray.mk #[])]), .int .i64 0])) else False) := by kernel_rfl
theorem ok46 : PureOK Tryz.prog 46 (sp1 s46) := by
 refine qure1 ok_G29 hmix fn46 lokf_none (Nat.le_of_ble_eq_true (by kernel_rfl)) fun s hc => ?_
 rw [DoesQ, v46]
 have hc : (s.size ≤ 9223372036854775807) := of_decide_eq_true hc
 try dsimp only [s46]
 rw [pE_ne]
 refine c_t (decide_eq_true hc) (cond_intro (fun h => ?_) (fun h => ?_))
 ·have h : vOK (bz s) = false := by simpa using h
  have hn : pN (bz s) = false := by
   cases q : pN (bz s) with
   | false => rfl
   | true => rw [pN_vOK q] at h; cases h
  simp [tyV, tyK, tyP, pQ, h, hn]
 ·have h : vOK (bz s) = true := by simpa using h
  refine cond_intro (fun hn => ?_) (fun hn => ?_)
  ·simp [tyV, tyK, tyP, pE, h, hn]
  ·simp [tyV, tyK, tyP, pE, pQ, h, hn]
def V50_0 : Int × Int × Int × Int × Int × Int × ByteArray × Bool × Int × Int × Int × Bool × Nat × Nat × Int × Int × Bool × Int × Int → List Value := fun (r1, r2, r3, n, D, i, s, nb, w, dg, q, sg, k, cap, dr, f, cr, fl, fm) => [I r1, I r2, I r3, .pointer (some ⟨5, 0, some 0⟩), I n, I D, I i]
def B50_0 : Int × Int × Int × Int × Int × Int × ByteArray × Bool × Int × Int × Int × Bool × Nat × Nat × Int × Int × Bool × Int × Int → List (Option Blk) := fun (r1, r2, r3, n, D, i, s, nb, w, dg, q, sg, k, cap, dr, f, cr, fl, fm) => [some ⟨[S s, B nb, I w, I dg, I q, B sg, .slice (some ⟨6, 0, some 1⟩) k cap, C8 dr, I f, B cr, C8 fl, I fm], 84, true⟩]
def S50_0 : LSpec (Int × Int × Int × Int × Int × Int × ByteArray × Bool × Int × Int × Int × Bool × Nat × Nat × Int × Int × Bool × Int × Int) where
 live := [2, 3, 4, 5, 7, 19, 20]
 mid := [5]
 n := 120
 dec vs bs := match vs, bs with | [.int .i64 r1, .int .i64 r2, .int .i64 r3, .pointer (some ⟨5, 0, some 0⟩), .int .i64 n, .int .i64 D, .int .i64 i], [some ⟨[.string s, .bool nb, .int .i64 w, .int .i64 dg, .int .i64 q, .bool sg, .slice (some ⟨6, 0, some 1⟩) k cap, .int .u8 dr, .int .i64 f, .bool cr, .int .u8 fl, .int .i64 fm], 84, true⟩] => some (r1, r2, r3, n, D, i, s, nb, w, dg, q, sg, k, cap, dr, f, cr, fl, fm) | _, _ => none
 pre := fun (r1, r2, r3, n, D, i, s, nb, w, dg, q, sg, k, cap, dr, f, cr, fl, fm) => decide (0 ≤ i ∧ i ≤ D ∧ D ≤ 9 ∧ n = tenZ i.toNat)
 fin := fun (r1, r2, r3, n, D, i, s, nb, w, dg, q, sg, k, cap, dr, f, cr, fl, fm) Z => Z (.exit 0) [I r1, I r2, I r3, .pointer (some ⟨5, 0, some 0⟩), I (tenZ D.toNat), I D, I D] [some ⟨[S s, B nb, I w, I dg, I q, B sg, .slice (some ⟨6, 0, some 1⟩) k cap, C8 dr, I f, B cr, C8 fl, I fm], 84, true⟩]
theorem r50_0 (r1 : Int) (r2 : Int) (r3 : Int) (n : Int) (D : Int) (i : Int) (s : ByteArray) (nb : Bool) (w : Int) (dg : Int) (q : Int) (sg : Bool) (k : Nat) (cap : Nat) (dr : Int) (f : Int) (cr : Bool) (fl : Int) (fm : Int) (jk : Tmps) (R : Exit → List Value → List (Option Blk) → Prop) : (codeQ Tryz.prog G28 noL Tryz.f50.ntmps (loopOf Tryz.f50 0) (tl S50_0.live (V50_0 (r1, r2, r3, n, D, i, s, nb, w, dg, q, sg, k, cap, dr, f, cr, fl, fm)) jk) (ml S50_0.mid (B50_0 (r1, r2, r3, n, D, i, s, nb, w, dg, q, sg, k, cap, dr, f, cr, fl, fm))) S50_0.n fun e t' m' _ => R e (List.map t' S50_0.live) (List.map m' S50_0.mid)) = ( bif decide (i < D) then R Exit.normal [.int .i64 r1, .int .i64 r2, .int .i64 r3, .pointer (some (.mk 5 0 (some 0))), .int .i64 (IntKind.wrap .i64 (n * 10)), .int .i64 D, .int .i64 (IntKind.wrap .i64 (i + 1))] [some (.mk [.string s, .bool nb, .int .i64 w, .int .i64 dg, .int .i64 q, .bool sg, .slice (some (.mk 6 0 (some 1))) k cap, .int .u8 dr, .int .i64 f, .bool cr, .int .u8 fl, .int .i64 fm] 84 true)] else R (Exit.exit 0) [.int .i64 r1, .int .i64 r2, .int .i64 r3, .pointer (some (.mk 5 0 (some 0))), .int .i64 n, .int .i64 D, .int .i64 i] [some (.mk [.string s, .bool nb, .int .i64 w, .int .i64 dg, .int .i64 q, .bool sg, .slice (some (.mk 6 0 (some 1))) k cap, .int .u8 dr, .int .i64 f, .bool cr, .int .u8 fl, .int .i64 fm] 84 true)]) := by kernel_rfl
theorem l50_0 : LOKf Tryz.prog (oneL 0 S50_0.h) Tryz.f50 := by
 refine lokf_one (h := S50_0.h) (by kernel_rfl) (loop_specQ ok_G28 hmix (by kernel_rfl) (lok_none _) S50_0 V50_0 B50_0 (fun (r1, r2, r3, n, D, i, s, nb, w, dg, q, sg, k, cap, dr, f, cr, fl, fm) => (D - i).toNat) ?_ ?_ ?_)
 ·intro vs bs s h
  simp only [S50_0] at h
  split at h
  all_goals first | (cases h; exact ⟨rfl, rfl⟩) | cases h | (split at h <;> first | (rename_i hq; cases h; have hq := Nat.eq_of_beq_eq_true hq; subst hq; exact ⟨rfl, rfl⟩) | cases h)
 ·exact fun _ _ _ h => h
 ·intro ⟨r1, r2, r3, n, D, i, s, nb, w, dg, q, sg, k, cap, dr, f, cr, fl, fm⟩ jk Z hp hf
  rw [r50_0]
  simp only [S50_0] at hp hf
  simp only [decide_eq_true_eq] at hp
  obtain ⟨h0, h1, h2, rfl⟩ := hp
  refine cond_intro (fun h => ?_) (fun h => ?_)
  ·have h := of_decide_eq_true h
   have ht := tenZ_le9 (n := i.toNat + 1) (by omega)
   have e : tenZ i.toNat * 10 = tenZ (i + 1).toNat := by rw [show (i + 1).toNat = i.toNat + 1 by omega, tenZ_succ]
   have t1 := tenZ_le (n := i.toNat) (by omega)
   rw [tenZ_succ] at ht
   rw [w64 (n := tenZ i.toNat * 10) (by omega), w64 (n := i + 1) (by omega), e]
   exact ⟨(r1, r2, r3, tenZ (i + 1).toNat, D, i + 1, s, nb, w, dg, q, sg, k, cap, dr, f, cr, fl, fm), rfl, rfl, by simp only [S50_0, decide_eq_true_eq]; exact ⟨by omega, by omega, by omega, trivial⟩, by simp only; omega, hf⟩
  ·have h := of_decide_eq_false h
   obtain rfl : i = D := by omega
   exact hf
def s50 (s : ByteArray) : Bool × Value := (decide (s.size ≤ 9223372036854775807), .tuple ⟨[.int .i64 (raL (bz s)), .int .i64 (raH (bz s)), .int .i64 (nE (bz s))]⟩)
theorem fn50 : Fn1 Tryz.prog 50 Tryz.f50 := ⟨Tryz.func50, by kernel_rfl, by kernel_rfl, by kernel_rfl⟩
theorem v50 (s : ByteArray) (R : Value → Prop) : bodyQ Tryz.prog G28 (oneL 0 S50_0.h) Tryz.f50 [Enc.enc s] (fun _ => none) 0 (fun v _ _ => R v) = ( bif decide (ByteArray.size s ≤ 9223372036854775807) then bif pN (bz s) then ∀ (k cap : Nat) (d : List Value), rowIOK d k cap = true → zc d k = rolF (pS (bz s)) → bif LSpec.pre S50_0 (0, 0, 0, 1, pD (bz s), 0, sz (pS (bz s)), true, pW (bz s), pD (bz s), pQ (bz s), pG (bz s), k, cap, drZ (bodyZ (pS (bz s))), Prod.snd (Prod.snd (nD (bodyZ (pS (bz s))))), crZ (pS (bz s)), fdFl (pS (bz s)), (↑(cntZ (mkGo (drZ (bodyZ (pS (bz s)))) false (bodyZ (pS (bz s)))) 100) : Int)) then ∀ (x : Tmps), bif pG (bz s) then R (.tuple (.mk [.int .i64 (IntKind.wrap .i64 (1 - tenZ (Int.toNat (pD (bz s))))), .int .i64 (IntKind.wrap .i64 (tenZ (Int.toNat (pD (bz s))) - 1)), .int .i64 0])) else R (.tuple (.mk [.int .i64 0, .int .i64 (IntKind.wrap .i64 (tenZ (Int.toNat (pD (bz s))) - 1)), .int .i64 0])) else False else R (.tuple (.mk [.int .i64 0, .int .i64 0, .int .i64 30])) else False) := by kernel_rfl
theorem ok50 : PureOK Tryz.prog 50 (sp1 s50) := by
 refine qure1 ok_G28 hmix fn50 l50_0 (Nat.le_of_ble_eq_true (by kernel_rfl)) fun s hc => ?_
 rw [DoesQ, v50]
 have hc : (s.size ≤ 9223372036854775807) := of_decide_eq_true hc
 try dsimp only [s50]
 refine c_t (decide_eq_true hc) (cond_intro (fun h k cap d _ _ => c_t ?_ fun x => ?_) (fun h => ?_))
 ·have hd := pD_rng h
  simp only [S50_0, decide_eq_true_eq]
  exact ⟨by omega, by omega, by omega, rfl⟩
 ·have hd := pD_rng h
  have ht := tenZ_le (n := (pD (bz s)).toNat) (by omega)
  rw [w64 (n := tenZ (pD (bz s)).toNat - 1) (by omega), w64 (n := 1 - tenZ (pD (bz s)).toNat) (by omega)]
  refine cond_intro (fun hg => ?_) (fun hg => ?_)
  ·have e : 1 - tenZ (pD (bz s)).toNat = 0 - (tenZ (pD (bz s)).toNat - 1) := by omega
   simp [raL, raH, nE, h, hg, e]
  ·simp [raL, raH, nE, h, hg]
 ·have hg : pG (bz s) = false := by simp [pG, h]
  simp [raL, raH, nE, h, hg]
theorem lets {r : Int} (h : 0 ≤ r ∧ r ≤ 5) : byteAt (ByteArray.mk #[100, 99, 118, 105, 115, 109]) r.toNat = rmk r := by
 rcases rmk_cases h with rfl | rfl | rfl | rfl | rfl | rfl <;> rfl
theorem rol_marks {l : List Int} (h : pN l = true) : NumL (pS l) ∧ okR (rolF (pS l)) ∧ (rolF (pS l)).map rmk = marksZ (pS l) := by
 have hv := pN_vOK h
 have e : pS l = exZ l := by rw [pS, if_pos hv]
 simp only [pN, Bool.and_eq_true] at h
 rw [e]
 have hL := (num_law (l := exZ l) fun c hm => (allK_spec (ex_kL l)).2 c (body_sub hm)).2 h.2
 have hm : (rolF (exZ l)).map rmk = marksZ (exZ l) := by
  rw [rolF, List.map_append, hL.roles, marksZ]
  congr 1
  cases crZ (exZ l) <;> rfl
 refine ⟨hL, ?_, hm⟩
 intro r hr
 rcases List.mem_append.1 hr with hr | hr
 ·exact hL.ok r hr
 ·cases hc : crZ (exZ l) with
  | false => rw [hc] at hr; cases hr
  | true =>
   rw [hc] at hr
   have : r = 4 ∨ r = 4 := by simpa using hr
   omega
theorem rol_len {l : List Int} (h : pN l = true) : (rolF (pS l)).length = (pS l).length := by
 have := congrArg List.length (rol_marks h).2.2
 rw [List.length_map, marks_len] at this
 exact this
def okRb (l : List Int) : Bool := l.all fun r => decide (0 ≤ r ∧ r ≤ 5)
theorem okRb_iff {l : List Int} : okRb l = true ↔ okR l := by simp [okRb, okR]
def V56_0 : ByteArray × Int × Rw × Nat × Nat × Int × Int × List Value → List Value := fun (r, e, o, k, cap, L, i, d2) => [S r, I e, o.v 200, .slice (some ⟨5, 0, some 1⟩) k cap, I L, I i]
def B56_0 : ByteArray × Int × Rw × Nat × Nat × Int × Int × List Value → List (Option Blk) := fun (r, e, o, k, cap, L, i, d2) => [some ⟨d2, 102, true⟩, o.b]
def S56_0 : LSpecA (ByteArray × Int × Rw × Nat × Nat × Int × Int × List Value) where
 live := [2, 3, 6, 19, 20, 21]
 mid := [5, 200]
 n := 210
 ap := [(.tmp 6, 200)]
 dec vs bs := match vs, bs with
  | [.string r, .int .i64 e, .slice none 0 0, .slice (some ⟨5, 0, some 1⟩) k cap, .int .i64 L, .int .i64 i], [some ⟨d2, 102, true⟩, none] => some (r, e, .nil, k, cap, L, i, d2)
  | [.string r, .int .i64 e, .slice (some ⟨200, 0, some 1⟩) m2 cap2, .slice (some ⟨5, 0, some 1⟩) k cap, .int .i64 L, .int .i64 i], [some ⟨d2, 102, true⟩, some ⟨d, 5, true⟩] => some (r, e, .own d m2 cap2, k, cap, L, i, d2)
  | _, _ => none
 pre := fun (r, e, o, k, cap, L, i, d2) => o.ok && (rowIOK d2 k cap && (okRb (zc d2 k) && decide (0 ≤ i ∧ i ≤ k ∧ k ≤ 100 ∧ L = k ∧ o.z.length ≤ i)))
 fin := fun (r, e, o, k, cap, L, i, d2) Z => (o.is = false → (zc d2 k).drop i.toNat = [] → Z (.exit 0) [S r, I e, .slice none 0 0, .slice (some ⟨5, 0, some 1⟩) k cap, I L, I k] [some ⟨d2, 102, true⟩, none]) ∧ ∀ d' m' cap', rowOK d' m' cap' = true → zc d' m' = o.z ++ ((zc d2 k).drop i.toNat).map rmk → Z (.exit 0) [S r, I e, .slice (some ⟨200, 0, some 1⟩) m' cap', .slice (some ⟨5, 0, some 1⟩) k cap, I L, I k] [some ⟨d2, 102, true⟩, some ⟨d', 5, true⟩]
theorem r56_0n (r : ByteArray) (e : Int) (k : Nat) (cap : Nat) (L : Int) (i : Int) (d2 : List Value) (jk : Tmps) (R : Exit → List Value → List (Option Blk) → Prop) : (codeQ Tryz.prog G29 noL Tryz.f56.ntmps (loopOf Tryz.f56 0) (tl S56_0.live (V56_0 (r, e, .nil, k, cap, L, i, d2)) jk) (ml S56_0.mid (B56_0 (r, e, .nil, k, cap, L, i, d2))) S56_0.n fun e t' m' _ => S56_0.out R e t' m') = ( bif decide (i < L) then bif decide (0 ≤ i ∧ i < (↑k : Int)) then bif isIntAt IntKind.i64 d2 (0 + Int.toNat i * 1) then bif decide (0 ≤ intAt d2 (0 + Int.toNat i * 1) ∧ intAt d2 (0 + Int.toNat i * 1) < 6) then ∀ (cap_1 : Nat) (tail : List Value), tailOK tail cap_1 1 1 = true → bif goodL [(218, 200)] d2 && (goodL [(218, 200)] (.int .u8 (byteAt (ByteArray.mk #[100, 99, 118, 105, 115, 109]) (Int.toNat (intAt d2 (0 + Int.toNat i * 1)))) :: tail) && true) && true then R Exit.normal [.string r, .int .i64 e, .slice (some (.mk 200 0 (some 1))) 1 cap_1, .slice (some (.mk 5 0 (some 1))) k cap, .int .i64 L, .int .i64 (IntKind.wrap .i64 (i + 1))] [some (.mk (rlbL [(218, 200)] d2) 102 true), some (.mk (rlbL [(218, 200)] (.int .u8 (byteAt (ByteArray.mk #[100, 99, 118, 105, 115, 109]) (Int.toNat (intAt d2 (0 + Int.toNat i * 1)))) :: tail)) 5 true)] else False else False else False else False else bif goodL [] d2 && true && true then R (Exit.exit 0) [.string r, .int .i64 e, .slice none 0 0, .slice (some (.mk 5 0 (some 1))) k cap, .int .i64 L, .int .i64 i] [some (.mk (rlbL [] d2) 102 true), none] else False) := by kernel_rfl
theorem r56_0o (r : ByteArray) (e : Int) (d : List Value) (m2 : Nat) (cap2 : Nat) (k : Nat) (cap : Nat) (L : Int) (i : Int) (d2 : List Value) (jk : Tmps) (R : Exit → List Value → List (Option Blk) → Prop) : (codeQ Tryz.prog G29 noL Tryz.f56.ntmps (loopOf Tryz.f56 0) (tl S56_0.live (V56_0 (r, e, .own d m2 cap2, k, cap, L, i, d2)) jk) (ml S56_0.mid (B56_0 (r, e, .own d m2 cap2, k, cap, L, i, d2))) S56_0.n fun e t' m' _ => S56_0.out R e t' m') = ( bif decide (i < L) then bif decide (0 ≤ i ∧ i < (↑k : Int)) then bif isIntAt IntKind.i64 d2 (0 + Int.toNat i * 1) then bif decide (0 ≤ intAt d2 (0 + Int.toNat i * 1) ∧ intAt d2 (0 + Int.toNat i * 1) < 6) then bif Nat.beq (List.length d) (cap2 * 1) && Nat.ble m2 cap2 && Nat.ble cap2 9223372036854775807 && true && fitsA (m2 + 1) 1 then ∀ (cap_1 : Nat) (tail : List Value), tailOK tail cap_1 (m2 + 1) 1 = true → bif goodL [(218, 200)] d2 && (goodL [(218, 200)] (List.take (m2 * 1) d ++ [.int .u8 (byteAt (ByteArray.mk #[100, 99, 118, 105, 115, 109]) (Int.toNat (intAt d2 (0 + Int.toNat i * 1))))] ++ tail) && true) && true then R Exit.normal [.string r, .int .i64 e, .slice (some (.mk 200 0 (some 1))) (m2 + 1) cap_1, .slice (some (.mk 5 0 (some 1))) k cap, .int .i64 L, .int .i64 (IntKind.wrap .i64 (i + 1))] [some (.mk (rlbL [(218, 200)] d2) 102 true), some (.mk (rlbL [(218, 200)] (List.take (m2 * 1) d ++ [.int .u8 (byteAt (ByteArray.mk #[100, 99, 118, 105, 115, 109]) (Int.toNat (intAt d2 (0 + Int.toNat i * 1))))] ++ tail)) 5 true)] else False else False else False else False else False else bif goodL [(200, 200)] d2 && (goodL [(200, 200)] d && true) && true then R (Exit.exit 0) [.string r, .int .i64 e, .slice (some (.mk 200 0 (some 1))) m2 cap2, .slice (some (.mk 5 0 (some 1))) k cap, .int .i64 L, .int .i64 i] [some (.mk (rlbL [(200, 200)] d2) 102 true), some (.mk (rlbL [(200, 200)] d) 5 true)] else False) := by kernel_rfl
theorem l56_0 : LOKf Tryz.prog (oneL 0 S56_0.hA) Tryz.f56 := by
 refine lokf_one (h := S56_0.hA) (by kernel_rfl) (loop_specA ok_G29 hmix (by kernel_rfl) (lok_none _) S56_0 V56_0 B56_0 (fun (r, e, o, k, cap, L, i, d2) => (k - i).toNat) ?_ ?_ ?_)
 ·intro vs bs s h
  simp only [S56_0] at h
  split at h
  all_goals first | (cases h; exact ⟨rfl, rfl⟩) | cases h | (split at h <;> first | (rename_i hq; cases h; have hq := Nat.eq_of_beq_eq_true hq; subst hq; exact ⟨rfl, rfl⟩) | cases h)
 ·exact fun ⟨r, e, o, k, cap, L, i, d2⟩ hp => by
   simp only [S56_0, Bool.and_eq_true] at hp
   have hi := rowIOK_iff.1 hp.2.1
   cases o with
   | nil => simp [V56_0, B56_0, S56_0, idsLt, idsLtB, idsL, ids, Rw.v, Rw.b, ids_plainL hi.plain]
   | own d m2 cap2 => simp [V56_0, B56_0, S56_0, idsLt, idsLtB, idsL, ids, Rw.v, Rw.b, ids_plainL hi.plain, ids_plainL (rowOK_iff.1 hp.1).plain]
 ·intro ⟨r, e, o, k, cap, L, i, d2⟩ jk Z hp hf
  simp only [S56_0] at hp hf
  cases o with
  | nil =>
   rw [r56_0n]
   simp only [Bool.and_eq_true, decide_eq_true_eq] at hp
   obtain ⟨-, hI, hK, hp⟩ := hp
   have hi := rowIOK_iff.1 hI
   have hk := okRb_iff.1 hK
   simp only [Rw.z, List.length_nil] at hp hf
   have e0 : 0 + i.toNat * 1 = i.toNat := by omega
   rw [e0]
   refine cond_intro (fun h => ?_) (fun h => ?_)
   ·have h := of_decide_eq_true h
    obtain ⟨a1, a3⟩ := hi.at hp.1 (by omega)
    rw [a3] at hf
    have hc : 0 ≤ intAt d2 i.toNat ∧ intAt d2 i.toNat ≤ 5 := hk _ (List.mem_of_mem_drop (by rw [a3]; exact List.mem_cons_self ..))
    rw [a1, w64 (n := i + 1) (by omega), lets hc]
    generalize intAt d2 i.toNat = c at *
    refine c_t (decide_eq_true (by omega)) (c_t rfl (c_t (decide_eq_true (by omega)) ?_))
    intro cap1 tail ht
    obtain ⟨h1, h2⟩ : RowP (Value.int IntKind.u8 (rmk c) :: tail) 1 cap1 ∧ zc (Value.int IntKind.u8 (rmk c) :: tail) 1 = [rmk c] := row_new [rmk c] ht
    have hl1 := zc_length h1
    generalize Value.int IntKind.u8 (rmk c) :: tail = d' at *
    refine c_t (by rw [goodL_plain hi.plain, goodL_plain h1.plain]; rfl) ?_
    rw [rlbL_plain _ hi.plain, rlbL_plain _ h1.plain]
    refine ⟨(r, e, .own d' (1) cap1, k, cap, L, i + 1, d2), rfl, rfl, by simp only [S56_0, Bool.and_eq_true, decide_eq_true_eq]; exact ⟨rowOK_iff.2 h1, hI, hK, by simp only [Rw.z, hl1]; omega⟩, by simp only; omega, ?_⟩
    simp only [S56_0]
    exact ⟨fun q => (by cases q), fun d'' m'' cap'' g1 g2 => hf.2 d'' m'' cap'' g1 (by rw [g2]; simp [Rw.z, h2])⟩
   ·have h := of_decide_eq_false h
    rw [hi.end (by omega)] at hf
    obtain rfl : i = k := by omega
    refine c_t (by rw [goodL_plain hi.plain]; rfl) ?_
    rw [rlbL_plain _ hi.plain]
    exact hf.1 rfl rfl
  | own d m2 cap2 =>
   rw [r56_0o]
   simp only [Bool.and_eq_true, decide_eq_true_eq] at hp
   obtain ⟨hR, hI, hK, hp⟩ := hp
   have hi := rowIOK_iff.1 hI
   have hk := okRb_iff.1 hK
   have hr := rowOK_iff.1 hR
   have hzl := zc_length hr
   simp only [Rw.z, hzl] at hp hf
   have e0 : 0 + i.toNat * 1 = i.toNat := by omega
   rw [e0]
   refine cond_intro (fun h => ?_) (fun h => ?_)
   ·have h := of_decide_eq_true h
    obtain ⟨a1, a3⟩ := hi.at hp.1 (by omega)
    rw [a3] at hf
    have hc : 0 ≤ intAt d2 i.toNat ∧ intAt d2 i.toNat ≤ 5 := hk _ (List.mem_of_mem_drop (by rw [a3]; exact List.mem_cons_self ..))
    rw [a1, w64 (n := i + 1) (by omega), lets hc]
    generalize intAt d2 i.toNat = c at *
    refine c_t (decide_eq_true (by omega)) (c_t rfl (c_t (decide_eq_true (by omega)) ?_))
    refine c_t (hr.ask (k := 1) (by omega)) (fun cap1 tail ht => ?_)
    obtain ⟨h1, h2⟩ := hr.app1 (rmk c) ht
    have hl1 := zc_length h1
    generalize List.take (m2 * 1) d ++ [Value.int IntKind.u8 (rmk c)] ++ tail = d' at *
    refine c_t (by rw [goodL_plain hi.plain, goodL_plain h1.plain]; rfl) ?_
    rw [rlbL_plain _ hi.plain, rlbL_plain _ h1.plain]
    refine ⟨(r, e, .own d' (m2 + 1) cap1, k, cap, L, i + 1, d2), rfl, rfl, by simp only [S56_0, Bool.and_eq_true, decide_eq_true_eq]; exact ⟨rowOK_iff.2 h1, hI, hK, by simp only [Rw.z, hl1]; omega⟩, by simp only; omega, ?_⟩
    simp only [S56_0]
    exact ⟨fun q => (by cases q), fun d'' m'' cap'' g1 g2 => hf.2 d'' m'' cap'' g1 (by rw [g2]; simp [Rw.z, h2])⟩
   ·have h := of_decide_eq_false h
    rw [hi.end (by omega)] at hf
    obtain rfl : i = k := by omega
    refine c_t (by rw [goodL_plain hi.plain, goodL_plain hr.plain]; rfl) ?_
    rw [rlbL_plain _ hi.plain, rlbL_plain _ hr.plain]
    exact hf.2 d m2 cap2 hR (by simp)
def s56 (s : ByteArray) : Bool × Value := (decide (s.size ≤ 9223372036854775807), .tuple ⟨[.string (sz (roZ (bz s))), .int .i64 (nE (bz s))]⟩)
theorem fn56 : Fn1 Tryz.prog 56 Tryz.f56 := ⟨Tryz.func56, by kernel_rfl, by kernel_rfl, by kernel_rfl⟩
theorem v56 (s : ByteArray) (R : Value → Prop) : bodyQ Tryz.prog G29 (oneL 0 S56_0.hA) Tryz.f56 [Enc.enc s] (fun _ => none) 0 (fun v _ _ => R v) = ( bif decide (ByteArray.size s ≤ 9223372036854775807) then bif pN (bz s) then ∀ (k cap : Nat) (d : List Value), rowIOK d k cap = true → zc d k = rolF (pS (bz s)) → bif goodL [] d && true && true && (idsLt 210 (rlbL [] d) && true) then bif LSpec.pre (LSpecA.toLSpec S56_0) (ByteArray.mk #[], 0, Rw.nil, k, cap, natO k, 0, rlbL [] d) then (Rw.is Rw.nil = false → List.drop (Int.toNat 0) (zc (rlbL [] d) k) = [] → bif idsLt 210 (rlbL [] d) && true then ∀ (x : Tmps), R (.tuple (.mk [.string ByteArray.empty, .int .i64 0])) else False) ∧ ∀ (d' : List Value) (m' cap' : Nat), rowOK d' m' cap' = true → zc d' m' = Rw.z Rw.nil ++ List.map rmk (List.drop (Int.toNat 0) (zc (rlbL [] d) k)) → bif idsLt 210 (rlbL [] d) && (idsLt 210 d' && true) then ∀ (x : Tmps), bif bytesOK d' 0 m' then R (.tuple (.mk [.string (bytesOf d' 0 m'), .int .i64 0])) else False else False else False else False else R (.tuple (.mk [.string (ByteArray.mk #[]), .int .i64 30])) else False) := by kernel_rfl
theorem ok56 : PureOK Tryz.prog 56 (sp1 s56) := by
 refine qure1 ok_G29 hmix fn56 l56_0 (Nat.le_of_ble_eq_true (by kernel_rfl)) fun s hc => ?_
 rw [DoesQ, v56]
 have hc : (s.size ≤ 9223372036854775807) := of_decide_eq_true hc
 try dsimp only [s56]
 refine c_t (decide_eq_true hc) (cond_intro (fun h k cap d r1 r2 => ?_) (fun h => ?_))
 ·have r1' := rowIOK_iff.1 r1
  obtain ⟨-, m2, m3⟩ := rol_marks h
  have hl := rol_len h
  have hs := (pS_len s).2
  have hz := zi_length r1'
  simp only [r1'.rlb]
  have gi := ids_plainB r1'.plain
  rw [r2] at hz
  have eO : roZ (bz s) = marksZ (pS (bz s)) := by rw [roZ, if_pos h]
  refine c_t (by rw [r1'.good, gi]; rfl) (c_t ?_ ⟨fun _ hnil => c_t (by rw [gi]; rfl) fun x => ?_, fun d' m' cap' g1 g2 => c_t (by rw [gi, ids_plainB (rowOK_iff.1 g1).plain]; rfl) fun x => c_t (rowOK_iff.1 g1).str.1 ?_⟩)
  ·simp only [S56_0, Rw.ok, Rw.z, Bool.true_and, Bool.and_eq_true, decide_eq_true_eq]
   exact ⟨r1, okRb_iff.2 (by rw [r2]; exact m2), decide_eq_true ⟨by omega, by omega, by omega, natO_eq _, by simp⟩⟩
  ·have : rolF (pS (bz s)) = [] := by rw [← r2]; exact hnil
   rw [eO, ← m3, this]
   simp [nE, h]
   rfl
  ·rw [(rowOK_iff.1 g1).str.2, g2, r2, eO]
   show Value.tuple ⟨[.string (sz (List.map rmk (rolF (pS (bz s))))), _]⟩ = _
   rw [m3]
   simp [nE, h]
 ·simp [roZ, nE, h, sz_nil]
end Go.Px
end
noncomputable section
namespace Go.Px
open Go Go.Ab Go.Proofs Go.Shelf Go.RowKit Go.Sort Go.Lib
theorem laysM284 : LaysM.n284 Tryz.prog Tryz.lays172_ren := { Tryz.lays172 with
 i0 := by kernel_rfl
 i3 := by kernel_rfl
 i4 := by kernel_rfl
 i5 := by kernel_rfl
 i9 := by kernel_rfl
 i46 := by kernel_rfl
 i53 := by kernel_rfl
 i212 := by kernel_rfl
 m17 := by kernel_rfl }
theorem tab_pow {w : World} (h : TabsIn w.heap.size w) : Lib.TabIs Tryz.prog w "internal/strconv.uint64pow10" .u64 Lib.pow10Tab := by
 obtain ⟨_, ty, fr, h2⟩ := h 3 _ rfl
 unfold Lib.TabIs World.var?
 have e : Tryz.prog.globalNamed "internal/strconv.uint64pow10" = some 3 := by kernel_rfl
 rw [e]
 simp only [Option.bind_some, h2]
 rfl
theorem fmt_small (u : Nat) (hu : u < 100) (w : World) : Calls Tryz.prog 115 #[.int .u64 u, .int .i64 10] w fun e w' => e = .returned (.string ⟨(Lib.decDigits u).toArray⟩) ∧ w' = w := by
 have mixed := Tryz.lays172.mixed
 have e142 : ∀ args w, (callFunc 142 args).run Tryz.prog w = .ok (.enter 142 args) w := enters_of Tryz.func142 (by kernel_rfl) rfl
 have hw : IntKind.i64.wrap (u : Int) = (u : Int) := by rw [IntKind.wrap_i64]; omega
 go_enter Tryz.func115, Tryz.ntmps115
 go_wp2_with (go_at_fn 142; refine (Any.internal_strconv_small (ρ := Tryz.lays172_ren) { Tryz.lays172 with } u hu _).mono ?_; rintro e w' ⟨rfl, rfl⟩)
 go_ret
 exact ⟨rfl, rfl⟩
set_option maxHeartbeats 6400000 in
set_option maxRecDepth 100000 in
theorem fmt_big (u : Nat) (hu : 100 ≤ u) (hu64 : u < 18446744073709551616) (w : World) (htab : Lib.TabIs Tryz.prog w "internal/strconv.uint64pow10" .u64 Lib.pow10Tab) :
  Calls Tryz.prog 115 #[.int .u64 u, .int .i64 10] w fun e w' => e = .returned (.string ⟨(Lib.decDigits u).toArray⟩) ∧ ∃ k os, w' = grow (w.drewN k) os := by
 have mixed := Tryz.lays172.mixed
 have e143 : ∀ args w, (callFunc 143 args).run Tryz.prog w = .ok (.enter 143 args) w := enters_of Tryz.func143 (by kernel_rfl) rfl
 have e144 : ∀ args w, (callFunc 144 args).run Tryz.prog w = .ok (.enter 144 args) w := enters_of Tryz.func144 (by kernel_rfl) rfl
 have hu1 : 1 ≤ u := by omega
 have hnd20 : Lib.nDigits u ≤ 20 := by have := Lib.numDigits_eq u hu1 hu64; split at this <;> omega
 have iu : (100 : Int) ≤ (u : Int) := by omega
 have t148 := Tryz.underlying148
 have hal : Tryz.prog.arrayLen 148 = 24 := by simp [Program.arrayLen, Tryz.underlying148]
 have hsl : ∀ W, (Instr.sliceAt 148 (.pointer (some ⟨w.heap.size, 0, none⟩)) none (some (.int .i64 (Lib.nDigits u : Int))) none).run Tryz.prog W = .ok (.slice (some ⟨w.heap.size, 0, none⟩) (Lib.nDigits u) 24) W := fun W => by
  rw [run_sliceAt_array_h W 148 ⟨w.heap.size, 0, none⟩ (by simp [Program.arrayLen, Program.elem, Tryz.underlying148]) .i64 (Lib.nDigits u : Int) (by omega) (by rw [hal]; omega)]
  go_simp
 have hH0 := Lib.holds_zero0 w 148 (Lib.nDigits u) (by omega)
 have hfmt := Any.internal_strconv_formatBase10 (ρ := Tryz.lays172_ren) { Tryz.lays172 with } w.heap.size 0 24 u (Array.replicate (Lib.nDigits u) 0) (w.alloc (.cells Lib.zeros24 148)) hH0 (by rw [Array.size_replicate]; exact Lib.lt_pow_nDigits u) hu64 (by rw [Array.size_replicate]; omega)
 rw [Array.size_replicate] at hfmt
 have HH0 := Lib.hid hH0
 clear hH0 hal
 go_enter Tryz.func115, Tryz.ntmps115
 go_wp2_with (first
  | (go_at_fn 143; refine (Any.internal_strconv_numDigits (ρ := Tryz.lays172_ren) laysM284 u hu1 hu64 _ (Lib.tabIs_alloc htab _)).mono ?_; rintro e w' ⟨rfl, rfl⟩))
 go_at_fn 144
 refine hfmt.mono ?_
 rintro e w' ⟨rfl, k, v', dk, rfl, hF⟩
 have hcv : (convert 42 9 (.slice (some ⟨w.heap.size, 0, none⟩) (Lib.nDigits u) 24)).run Tryz.prog ((putRow (fun (b : UInt8) => Value.int .u8 (b.toNat : Int)) (w.alloc (.cells Lib.zeros24 148)) w.heap.size 0 dk).drewN k) = .ok (.string ⟨(Lib.decDigits u).toArray⟩) ((putRow (fun (b : UInt8) => Value.int .u8 (b.toNat : Int)) (w.alloc (.cells Lib.zeros24 148)) w.heap.size 0 dk).drewN k) := by
  have h := run_convert_bytes_back (P := Tryz.prog) ((putRow (fun (b : UInt8) => Value.int .u8 (b.toNat : Int)) (w.alloc (.cells Lib.zeros24 148)) w.heap.size 0 dk).drewN k) 42 9 5 ⟨w.heap.size, 0, none⟩ 24 (Lib.decDigits u) Tryz.underlying42 Tryz.underlying5 Tryz.underlying9 (fun j hj => by
   rw [Lib.row_is_numeral hF j hj, Lib.add_plain, World.cell?_drewN]
   exact cell?_putRow (fun (b : UInt8) => Value.int .u8 (b.toNat : Int)) _ w.heap.size 0 _ dk HH0.out (by rw [hF.size, Array.size_replicate]) j (by rw [hF.size]; rw [Lib.decDigits_length] at hj; exact hj))
  rw [Lib.decDigits_length] at h
  exact h
 go_wp2
 go_ret
 obtain ⟨os, eo⟩ := Lib.fin_at w (.cells Lib.zeros24 148) dk k 0
 exact ⟨rfl, k, os, eo⟩
def decZ (n : Int) : List Int := zl (Lib.decDigits n.toNat)
theorem c87 : Callable Tryz.prog 87 := cal Tryz.func87 (by kernel_rfl) (by kernel_rfl)
theorem fmt_all (u : Nat) (hu64 : u < 18446744073709551616) (w : World) (ht : TabsIn w.heap.size w) :
  Calls Tryz.prog 115 #[.int .u64 u, .int .i64 10] w fun e w' => e = .returned (.string ⟨(Lib.decDigits u).toArray⟩) ∧ RowKit.Below w.heap.size w w' := by
 by_cases hu : u < 100
 ·exact (fmt_small u hu w).mono fun e w' ⟨h1, h2⟩ => ⟨h1, below_of_eq h2⟩
 ·exact (fmt_big u (by omega) hu64 w (tab_pow ht)).mono fun e w' ⟨h1, k, os, h2⟩ => ⟨h1, by rw [h2]; exact Lib.below_grow _ _ (Nat.le_refl _) _ _⟩
theorem fmt87 (u : Nat) (hu64 : u < 18446744073709551616) (w : World) (ht : TabsIn w.heap.size w) :
  Calls Tryz.prog 87 #[.int .u64 u, .int .i64 10] w fun e w' => e = .returned (.string ⟨(Lib.decDigits u).toArray⟩) ∧ RowKit.Below w.heap.size w w' := by
 have mixed := Tryz.lays172.mixed
 have e115 : ∀ args w, (callFunc 115 args).run Tryz.prog w = .ok (.enter 115 args) w := enters_of Tryz.func115 (by kernel_rfl) rfl
 go_enter Tryz.func87, Tryz.ntmps87
 go_wp2_with (go_at_fn 115; refine (fmt_all u hu64 _ ht).mono ?_; rintro e w' ⟨rfl, hb⟩)
 go_ret
 exact ⟨rfl, hb⟩
def isTen (b : Int) : Bool := b == 10
def s87 (n : U64) (b : Int) : Bool × Value := (decide (0 ≤ n.n ∧ n.n < 18446744073709551616) && isTen b, .string (sz (decZ n.n)))
theorem ok87 : PureOK Tryz.prog 87 (sp2 s87) := shelf2 c87 fun n b hc w ht => by
 simp only [s87, isTen, Bool.and_eq_true, decide_eq_true_eq, beq_iff_eq] at hc
 obtain ⟨⟨h0, h1⟩, rfl⟩ := hc
 have e : Enc.enc n = Value.int .u64 (n.n.toNat : Int) := by
  show Value.int .u64 n.n = _
  rw [Int.toNat_of_nonneg h0]
 rw [e]
 refine (fmt87 n.n.toNat (by omega) w ht).mono fun e w' ⟨h4, h5⟩ => ⟨?_, h5⟩
 rw [h4, sz_zl]
 rfl
end Go.Px
end
section
namespace Go.Px
open Go Go.Ab Go.Proofs
def dval (l : List Int) : Int := numZ l 0
theorem numZ_acc : ∀ (l : List Int) (a : Int), numZ l a = a * tenZ l.length + numZ l 0
 | [], a => by simp [numZ, tenZ]
 | c :: r, a => by
  rw [numZ, numZ_acc r, numZ, numZ_acc r (0 * 10 + (c - 48)), List.length_cons, tenZ_succ, Int.add_mul, Int.add_mul, Int.mul_assoc, Int.mul_comm 10 (tenZ r.length)]
  omega
theorem dval_app (a b : List Int) : dval (a ++ b) = dval a * tenZ b.length + dval b := by
 have : ∀ (l : List Int) (x : Int), numZ (l ++ b) x = numZ b (numZ l x) := by
  intro l
  induction l with
  | nil => exact fun _ => rfl
  | cons c r ih => exact fun x => ih _
 rw [dval, this, numZ_acc b]
 rfl
theorem dval_snoc (l : List Int) (c : Int) : dval (l ++ [c]) = dval l * 10 + (c - 48) := by
 rw [dval_app]
 simp [dval, numZ, tenZ]
theorem dgL_app {a b : List Int} : dgL (a ++ b) = true ↔ dgL a = true ∧ dgL b = true := by simp [dgL]
theorem dgL_cons {c : Int} {l : List Int} : dgL (c :: l) = true ↔ (48 ≤ c ∧ c ≤ 57) ∧ dgL l = true := by simp [dgL]
theorem tenZ_pos (n : Nat) : 0 < tenZ n := by unfold tenZ; exact Int.pow_pos (by decide)
theorem dval_rng : ∀ l : List Int, dgL l = true → 0 ≤ dval l ∧ dval l < tenZ l.length
 | [], _ => by simp [dval, numZ, tenZ]
 | c :: r, h => by
  obtain ⟨h1, h2⟩ := dgL_cons.1 h
  have ih := dval_rng r h2
  have e : dval (c :: r) = (c - 48) * tenZ r.length + dval r := by
   have := dval_app [c] r
   simpa [dval, numZ] using this
  have hp := tenZ_pos r.length
  rw [e, List.length_cons, tenZ_succ]
  have h3 : (c - 48) * tenZ r.length ≤ 9 * tenZ r.length := Int.mul_le_mul_of_nonneg_right (by omega) (by omega)
  have h4 : 0 ≤ (c - 48) * tenZ r.length := Int.mul_nonneg (by omega) (by omega)
  omega
theorem dval_head {c : Int} {r : List Int} (h : dgL (c :: r) = true) (hc : c ≠ 48) : tenZ r.length ≤ dval (c :: r) := by
 obtain ⟨h1, h2⟩ := dgL_cons.1 h
 have ih := dval_rng r h2
 have e : dval (c :: r) = (c - 48) * tenZ r.length + dval r := by
  have := dval_app [c] r
  simpa [dval, numZ] using this
 have hp := tenZ_pos r.length
 have h3 : 1 * tenZ r.length ≤ (c - 48) * tenZ r.length := Int.mul_le_mul_of_nonneg_right (by omega) (by omega)
 rw [e]
 omega
theorem dec_spec (u : Nat) : dgL (zl (Lib.decDigits u)) = true ∧ dval (zl (Lib.decDigits u)) = u := by
 induction u using Nat.strongRecOn with
 | _ u ih =>
  rw [Lib.decDigits]
  split
  ·rename_i h
   have e : (((UInt8.ofNat (48 + u)).toNat : Nat) : Int) = 48 + u := by
    simp only [UInt8.toNat_ofNat']
    omega
   simp only [zl, List.map_cons, List.map_nil, e]
   exact ⟨by simp [dgL]; omega, by simp [dval, numZ]; omega⟩
  ·rename_i h
   obtain ⟨h1, h2⟩ := ih (u / 10) (by omega)
   have e : (((UInt8.ofNat (48 + u % 10)).toNat : Nat) : Int) = 48 + (u % 10 : Nat) := by
    simp only [UInt8.toNat_ofNat']
    omega
   have es : zl (Lib.decDigits (u / 10) ++ [UInt8.ofNat (48 + u % 10)]) = zl (Lib.decDigits (u / 10)) ++ [48 + ((u % 10 : Nat) : Int)] := by
    simp only [zl, List.map_append, List.map_cons, List.map_nil, e]
   rw [es]
   refine ⟨dgL_app.2 ⟨h1, by simp [dgL]; omega⟩, ?_⟩
   rw [dval_snoc, h2]
   omega
theorem digZ_val' : ∀ (n : Nat) (l : List Int), l.length = n → dgL l = true → digZ (dval l) n = l
 | 0, l, hl, _ => by rw [List.length_eq_zero_iff.1 hl]; rfl
 | n + 1, l, hl, h => by
  rcases List.eq_nil_or_concat l with rfl | ⟨a, c, rfl⟩
  ·cases hl
  ·rw [List.concat_eq_append] at h hl ⊢
   obtain ⟨h1, h2⟩ := dgL_app.1 h
   have h2 := (dgL_cons.1 h2).1
   rw [digZ, dval_snoc]
   have e1 : (dval a * 10 + (c - 48)) / 10 = dval a := by omega
   have e2 : 48 + (dval a * 10 + (c - 48)) % 10 = c := by omega
   rw [e1, e2, digZ_val' n a (by simpa using hl) h1]
theorem digZ_val (l : List Int) (h : dgL l = true) : digZ (dval l) l.length = l := digZ_val' _ l rfl h
theorem digZ_drop : ∀ (d k : Nat) (v : Int), d ≤ k → (digZ v k).drop (k - d) = digZ v d
 | 0, k, v, _ => by
  rw [Nat.sub_zero]
  exact List.drop_eq_nil_of_le (by rw [digZ_len]; exact Nat.le_refl _)
 | d + 1, 0, v, h => by omega
 | d + 1, k + 1, v, h => by
  rw [digZ, digZ, List.drop_append_of_le_length (by rw [digZ_len]; omega), show k + 1 - (d + 1) = k - d by omega, digZ_drop d k _ (by omega)]
theorem digZ_last {l : List Int} (h : dgL l = true) {d : Nat} (hd : d ≤ l.length) : l.drop (l.length - d) = digZ (dval l) d := by
 have := digZ_drop d l.length (dval l) hd
 rwa [digZ_val l h] at this
theorem digZ_mod : ∀ (d : Nat) (v : Int), 0 ≤ v → digZ (v % tenZ d) d = digZ v d
 | 0, _, _ => rfl
 | d + 1, v, h => by
  obtain ⟨n, rfl⟩ : ∃ n : Nat, v = n := ⟨v.toNat, by omega⟩
  have et : tenZ (d + 1) = ((10 * 10 ^ d : Nat) : Int) := by
   unfold tenZ
   rw [Nat.mul_comm, ← Nat.pow_succ]
   simp
  have ed : tenZ d = ((10 ^ d : Nat) : Int) := by unfold tenZ; simp
  have e1 : ((n : Int) % tenZ (d + 1)) / 10 = ((n : Int) / 10) % tenZ d := by
   rw [et, ed]
   have := Nat.mod_mul_right_div_self n 10 (10 ^ d)
   exact_mod_cast this
  have e2 : ((n : Int) % tenZ (d + 1)) % 10 = (n : Int) % 10 := by
   rw [et]
   have := Nat.mod_mul_right_mod n 10 (10 ^ d)
   exact_mod_cast this
  rw [digZ, digZ, e1, e2, digZ_mod d _ (by omega)]
theorem dval_take {l : List Int} (h : dgL l = true) (k : Nat) : dval (l.take (l.length - k)) = dval l / tenZ k := by
 by_cases hk : k ≤ l.length
 ·have e := List.take_append_drop (l.length - k) l
  have hh : dgL (l.take (l.length - k) ++ l.drop (l.length - k)) = true := by rw [e]; exact h
  have h2 := (dgL_app.1 hh).2
  have r := dval_rng _ h2
  have el : (l.drop (l.length - k)).length = k := by rw [List.length_drop]; omega
  have ev := dval_app (l.take (l.length - k)) (l.drop (l.length - k))
  rw [e, el] at ev
  rw [el] at r
  have hp := tenZ_pos k
  rw [ev, Int.add_comm, Int.add_mul_ediv_right _ _ (by omega), Int.ediv_eq_zero_of_lt r.1 r.2, Int.zero_add]
 ·have : l.length - k = 0 := by omega
  rw [this, List.take_zero]
  have r := dval_rng l h
  have hle : tenZ l.length ≤ tenZ k := by
   unfold tenZ
   have : (10 : Nat) ^ l.length ≤ 10 ^ k := Nat.pow_le_pow_right (by decide) (by omega)
   exact_mod_cast this
  rw [Int.ediv_eq_zero_of_lt r.1 (by omega)]
  rfl
theorem dval_rep (k : Nat) : dval (rep1 48 k) = 0 ∧ dgL (rep1 48 k) = true := by
 induction k with
 | zero => exact ⟨rfl, rfl⟩
 | succ k ih =>
  have e : rep1 48 (k + 1) = 48 :: rep1 48 k := rfl
  rw [e]
  refine ⟨?_, dgL_cons.2 ⟨by omega, ih.2⟩⟩
  have := dval_app [48] (rep1 48 k)
  rw [ih.1] at this
  rw [List.singleton_append] at this
  rw [this]
  simp [dval, numZ]
theorem dval_strip : ∀ l : List Int, dval (l.dropWhile (· == 48)) = dval l
 | [] => rfl
 | c :: r => by
  rw [List.dropWhile_cons]
  cases h : c == 48 with
  | false => simp
  | true =>
   rw [if_pos rfl, dval_strip r]
   have := dval_app [c] r
   rw [eq_of_beq h] at this ⊢
   simp [dval, numZ]
theorem dgL_strip {l : List Int} (h : dgL l = true) : dgL (l.dropWhile (· == 48)) = true := by
 simp only [dgL, List.all_eq_true] at h ⊢
 exact fun c hc => h c ((List.dropWhile_sublist _).subset hc)
theorem strip_head : ∀ l : List Int, l.dropWhile (· == 48) = [] ∨ ∃ c r, l.dropWhile (· == 48) = c :: r ∧ c ≠ 48
 | [] => .inl rfl
 | c :: r => by
  rw [List.dropWhile_cons]
  cases h : c == 48 with
  | true => rw [if_pos rfl]; exact strip_head r
  | false => exact .inr ⟨c, r, by simp, by simpa using h⟩
theorem tenZ_mono {a b : Nat} (h : a ≤ b) : tenZ a ≤ tenZ b := by
 unfold tenZ
 have : (10 : Nat) ^ a ≤ 10 ^ b := Nat.pow_le_pow_right (by decide) h
 exact_mod_cast this
theorem strip_len {l : List Int} (h : dgL l = true) (d : Nat) : (l.dropWhile (· == 48)).length ≤ d ↔ dval l < tenZ d := by
 have hs := dgL_strip h
 have r := dval_rng _ hs
 rw [dval_strip] at r
 constructor
 ·intro hl
  have := tenZ_mono hl
  omega
 ·intro hv
  rcases strip_head l with e | ⟨c, t, e, hc⟩
  ·rw [e]; exact Nat.zero_le _
  ·have := dval_head (e ▸ hs) hc
   rw [← e, dval_strip] at this
   rw [e, List.length_cons]
   have hlt : ¬ d ≤ t.length := fun q => by have := tenZ_mono q; omega
   omega
theorem strip_nil {l : List Int} (h : dgL l = true) : l.dropWhile (· == 48) = [] ↔ dval l = 0 := by
 have r := strip_len h 0
 have hv := (dval_rng l h).1
 have e : tenZ 0 = 1 := rfl
 rw [e, Nat.le_zero, List.length_eq_zero_iff] at r
 rw [r]
 omega
theorem dval_dig : ∀ (d : Nat) (v : Int), 0 ≤ v → dval (digZ v d) = v % tenZ d
 | 0, v, _ => by simp [digZ, dval, numZ, tenZ]
 | d + 1, v, h => by
  have e := digZ_mod (d + 1) v h
  have r := dval_rng (digZ v (d + 1)) (digZ_dg _ _)
  rw [digZ, dval_snoc, dval_dig d _ (by omega)]
  obtain ⟨n, rfl⟩ : ∃ n : Nat, v = n := ⟨v.toNat, by omega⟩
  have et : tenZ (d + 1) = ((10 * 10 ^ d : Nat) : Int) := by
   unfold tenZ
   rw [Nat.mul_comm, ← Nat.pow_succ]
   simp
  have ed : tenZ d = ((10 ^ d : Nat) : Int) := by unfold tenZ; simp
  have e1 : ((n : Int) % tenZ (d + 1)) / 10 = ((n : Int) / 10) % tenZ d := by
   rw [et, ed]
   have := Nat.mod_mul_right_div_self n 10 (10 ^ d)
   exact_mod_cast this
  have e2 : ((n : Int) % tenZ (d + 1)) % 10 = (n : Int) % 10 := by
   rw [et]
   have := Nat.mod_mul_right_mod n 10 (10 ^ d)
   exact_mod_cast this
  omega
end Go.Px
end
noncomputable section
namespace Go.Px
open Go Go.Ab Go.Proofs Go.Shelf
def G30 : Env := ((((((G29.add 31 (sp1 s31)).add 33 (sp1 s33)).add 46 (sp1 s46)).add 50 (sp1 s50)).add 56 (sp1 s56)).add 87 (sp2 s87))
theorem ok_G30 : EnvOK Tryz.prog G30 := env_add (env_add (env_add (env_add (env_add (env_add (ok_G29) ok31) ok33) ok46) ok50) ok56) ok87
def fmL (s : ByteArray) (nb : Bool) (w d sc : Int) (sg : Bool) (x k cap : Nat) (dr f : Int) (cr : Bool) (fl fm : Int) : List Value :=
 [.string s, .bool nb, .int .i64 w, .int .i64 d, .int .i64 sc, .bool sg, .slice (some ⟨x, 0, some 1⟩) k cap, .int .u8 dr, .int .i64 f, .bool cr, .int .u8 fl, .int .i64 fm]
def vwF (c : List Value) : Lk := fun j => match Nat.beq j 0 with | true => some ⟨c, 84, false⟩ | false => none
def vwF2 (c d : List Value) : Lk := fun j => match Nat.beq j 0 with | true => some ⟨c, 84, false⟩ | false => match Nat.beq j 1 with | true => some ⟨d, 102, false⟩ | false => none
def rho2 (a x : Nat) : Nat → Nat := fun j => match j with | 0 => a | _ => x
theorem sub_F {m : Lk} {a x k cap : Nat} {s : ByteArray} {nb : Bool} {w d sc : Int} {sg : Bool} {dr f : Int} {cr : Bool} {fl fm : Int} {own : Bool} (ha : m a = some ⟨fmL s nb w d sc sg x k cap dr f cr fl fm, 84, own⟩) :
  SubM m (rho2 a x) (vwF (fmL s nb w d sc sg 1 k cap dr f cr fl fm)) 2 := by
 have hget : ∀ j b, vwF (fmL s nb w d sc sg 1 k cap dr f cr fl fm) j = some b → j = 0 ∧ b = ⟨fmL s nb w d sc sg 1 k cap dr f cr fl fm, 84, false⟩ := fun j b h => by
  simp only [vwF] at h
  split at h
  ·rename_i h0; cases h; exact ⟨Nat.eq_of_beq_eq_true h0, rfl⟩
  ·cases h
 refine ⟨fun j b h => ?_, fun j b h => ?_⟩
 ·obtain ⟨rfl, rfl⟩ := hget j b h
  refine ⟨by omega, fun i hi => ?_⟩
  have : i = 1 := by simpa [fmL, idsL, ids] using hi
  omega
 ·obtain ⟨rfl, rfl⟩ := hget j b h
  refine ⟨rfl, ⟨fmL s nb w d sc sg x k cap dr f cr fl fm, 84, own⟩, ?_, fun ι => ?_⟩
  ·show noIt (m a) = _
   rw [ha]
   simp only [noIt]
   have : (own && Nat.beq 84 itTy) = false := by cases own <;> rfl
   rw [this]
  ·simp [fmL, ren, ren1, rho2]
theorem sub_F2 {m : Lk} {a x k cap : Nat} {s : ByteArray} {nb : Bool} {w d sc : Int} {sg : Bool} {dr f : Int} {cr : Bool} {fl fm : Int} {own own2 : Bool} {r : List Value} (hr : plainL r = true)
  (ha : m a = some ⟨fmL s nb w d sc sg x k cap dr f cr fl fm, 84, own⟩) (hx : m x = some ⟨r, 102, own2⟩) :
  SubM m (rho2 a x) (vwF2 (fmL s nb w d sc sg 1 k cap dr f cr fl fm) r) 2 := by
 have hget : ∀ j b, vwF2 (fmL s nb w d sc sg 1 k cap dr f cr fl fm) r j = some b → (j = 0 ∧ b = ⟨fmL s nb w d sc sg 1 k cap dr f cr fl fm, 84, false⟩) ∨ (j = 1 ∧ b = ⟨r, 102, false⟩) := fun j b h => by
  simp only [vwF2] at h
  split at h
  ·rename_i h0; cases h; exact .inl ⟨Nat.eq_of_beq_eq_true h0, rfl⟩
  ·split at h
   ·rename_i h0; cases h; exact .inr ⟨Nat.eq_of_beq_eq_true h0, rfl⟩
   ·cases h
 refine ⟨fun j b h => ?_, fun j b h => ?_⟩
 ·rcases hget j b h with ⟨rfl, rfl⟩ | ⟨rfl, rfl⟩
  ·refine ⟨by omega, fun i hi => ?_⟩
   have : i = 1 := by simpa [fmL, idsL, ids] using hi
   omega
  ·exact ⟨by omega, fun i hi => by rw [ids_plainL hr] at hi; cases hi⟩
 ·rcases hget j b h with ⟨rfl, rfl⟩ | ⟨rfl, rfl⟩
  ·refine ⟨rfl, ⟨fmL s nb w d sc sg x k cap dr f cr fl fm, 84, own⟩, ?_, fun ι => ?_⟩
   ·show noIt (m a) = _
    rw [ha]
    simp only [noIt]
    have : (own && Nat.beq 84 itTy) = false := by cases own <;> rfl
    rw [this]
   ·simp [fmL, ren, ren1, rho2]
  ·refine ⟨rfl, ⟨r, 102, own2⟩, ?_, fun ι => renMap_congr fun k hk => by rw [ids_plainL hr] at hk; cases hk⟩
   show noIt (m x) = _
   rw [hx]
   simp only [noIt]
   have : (own2 && Nat.beq 102 itTy) = false := by cases own2 <;> rfl
   rw [this]
def hideS (sp : Ab.Spec) : List Value → Lk → Nat → (Value → Lk → Nat → Prop) → Prop := fun args m n K => match sp args (args.map (blkOf m)) with
 | some (c, .string e) => match cnd c with
  | true => ∀ s' : ByteArray, e = s' → K (.string s') m n
  | false => False
 | _ => False
theorem gen_hide {P : Program} {f : FuncId} {sp : Ab.Spec} (h : PureOK P f sp) : GenOK P f (hideS sp) := by
 obtain ⟨hc, hp⟩ := h
 refine ⟨hc, fun args m n K hh N w0 ι w hrel hwf hargs => ?_⟩
 unfold hideS at hh
 split at hh
 case h_2 => exact hh.elim
 rename_i c e hs
 split at hh
 case h_2 => exact hh.elim
 rename_i hcc
 have hcc : c = true := hcc
 subst hcc
 refine (hp args (.string e) N w0 m ι w hrel hs rfl).mono fun e' w' ⟨h1, h2⟩ => ?_
 exact ⟨.string e, m, n, ι, by rw [h1]; rfl, hh e rfl, Nat.le_refl _, fun _ _ => rfl, hrel.grow h2, hwf, by simp [ids]⟩
def G31 : Env := ((G30.addG 87 (hideS (sp2 s87))).addG 88 (hideS (sp2 s88))).addG 78 (hideS (sp2 s78))
theorem ok_G31 : EnvOK Tryz.prog G31 := env_addG (env_addG (env_addG ok_G30 (gen_hide ok87)) (gen_hide ok88)) (gen_hide ok78)
theorem v63 (s : ByteArray) (nb : Bool) (w : Int) (d : Int) (sc : Int) (sg : Bool) (k : Nat) (cap : Nat) (dr : Int) (f : Int) (cr : Bool) (fl : Int) (fm : Int) (n : Int) (q : Int) (R : Value → Prop) : (bodyQ Tryz.prog G31 noL Tryz.f63 [.pointer (some ⟨0, 0, some 0⟩), .int .i64 n, .int .i64 q] (vwF (fmL s nb w d sc sg 1 k cap dr f cr fl fm)) 2 (fun v _ _ => R v)) = ( bif decide (n < 0) then bif decide (0 ≤ IntKind.wrap .u64 (0 - IntKind.wrap .u64 n) ∧ IntKind.wrap .u64 (0 - IntKind.wrap .u64 n) < 18446744073709551616) && true then ∀ (s' : ByteArray), sz (decZ (IntKind.wrap .u64 (0 - IntKind.wrap .u64 n))) = s' → bif decide (sc ≥ q) then bif decide (0 ≤ IntKind.wrap .i64 (sc - q) ∧ IntKind.wrap .i64 (sc - q) ≤ 1000 ∧ ByteArray.size (ByteArray.mk #[48]) ≤ 1000) then ∀ (s'_1 : ByteArray), sz (repZ (bz (ByteArray.mk #[48])) (Int.toNat (IntKind.wrap .i64 (sc - q)))) = s'_1 → bif strFit (ByteArray.size s' + ByteArray.size s'_1) then ∀ (s'_2 : ByteArray), sz (List.dropWhile (fun x => x == List.getD (bz (ByteArray.mk #[48])) 0 0) (bz (s' ++ s'_1))) = s'_2 → bif bif decide ((↑(ByteArray.size s'_2) : Int) ≤ d) then decide (n ≥ 0) || (sg || true) else true then bif decide (0 ≤ imax 0 (IntKind.wrap .i64 (d - (↑(ByteArray.size s'_2) : Int))) ∧ imax 0 (IntKind.wrap .i64 (d - (↑(ByteArray.size s'_2) : Int))) ≤ 1000 ∧ ByteArray.size (ByteArray.mk #[48]) ≤ 1000) then ∀ (s' : ByteArray), sz (repZ (bz (ByteArray.mk #[48])) (Int.toNat (imax 0 (IntKind.wrap .i64 (d - (↑(ByteArray.size s'_2) : Int)))))) = s' → bif strFit (ByteArray.size s' + ByteArray.size s'_2) then bif decide (0 ≤ IntKind.wrap .i64 ((↑(ByteArray.size (s' ++ s'_2)) : Int) - d) ∧ IntKind.wrap .i64 ((↑(ByteArray.size (s' ++ s'_2)) : Int) - d) ≤ (↑(ByteArray.size (s' ++ s'_2)) : Int) ∧ (↑(ByteArray.size (s' ++ s'_2)) : Int) ≤ (↑(ByteArray.size (s' ++ s'_2)) : Int)) then bif bif decide (n < 0) then bif sg then decide (ByteArray.size (ByteArray.extract (s' ++ s'_2) (Int.toNat (IntKind.wrap .i64 ((↑(ByteArray.size (s' ++ s'_2)) : Int) - d))) (ByteArray.size (s' ++ s'_2))) ≤ 1000) && (decide (ByteArray.size (ByteArray.mk #[48]) ≤ 1000) && asc (bz (ByteArray.mk #[48]))) && true else true else true then R (.tuple (.mk [.string (bif decide (n < 0) then bif sg then ByteArray.extract (s' ++ s'_2) (Int.toNat (IntKind.wrap .i64 ((↑(ByteArray.size (s' ++ s'_2)) : Int) - d))) (ByteArray.size (s' ++ s'_2)) else ByteArray.extract (s' ++ s'_2) (Int.toNat (IntKind.wrap .i64 ((↑(ByteArray.size (s' ++ s'_2)) : Int) - d))) (ByteArray.size (s' ++ s'_2)) else ByteArray.extract (s' ++ s'_2) (Int.toNat (IntKind.wrap .i64 ((↑(ByteArray.size (s' ++ s'_2)) : Int) - d))) (ByteArray.size (s' ++ s'_2))), .bool (decide (n < 0) && (sg && !ByteArray.toList (szO (trimZ (bz (ByteArray.extract (s' ++ s'_2) (Int.toNat (IntKind.wrap .i64 ((↑(ByteArray.size (s' ++ s'_2)) : Int) - d))) (ByteArray.size (s' ++ s'_2)))) (bz (ByteArray.mk #[48])))) == ByteArray.toList (ByteArray.mk #[]))), .bool (bif decide (n < 0) then bif sg then decide ((↑(ByteArray.size s'_2) : Int) ≤ d) && (decide (n ≥ 0) || (sg || ByteArray.toList s'_2 == ByteArray.toList (ByteArray.mk #[]))) else decide ((↑(ByteArray.size s'_2) : Int) ≤ d) && (decide (n ≥ 0) || (sg || ByteArray.toList s'_2 == ByteArray.toList (ByteArray.mk #[]))) else decide ((↑(ByteArray.size s'_2) : Int) ≤ d) && (decide (n ≥ 0) || (sg || ByteArray.toList s'_2 == ByteArray.toList (ByteArray.mk #[]))))])) else False else False else False else False else False else False else False else bif decide ((0 : Int) ≤ 0 ∧ 0 ≤ imax 0 (IntKind.wrap .i64 ((↑(ByteArray.size s') : Int) - IntKind.wrap .i64 (q - sc))) ∧ imax 0 (IntKind.wrap .i64 ((↑(ByteArray.size s') : Int) - IntKind.wrap .i64 (q - sc))) ≤ (↑(ByteArray.size s') : Int)) then ∀ (s'_1 : ByteArray), sz (List.dropWhile (fun x => x == List.getD (bz (ByteArray.mk #[48])) 0 0) (bz (ByteArray.extract s' 0 (Int.toNat (imax 0 (IntKind.wrap .i64 ((↑(ByteArray.size s') : Int) - IntKind.wrap .i64 (q - sc)))))))) = s'_1 → bif bif decide ((↑(ByteArray.size s'_1) : Int) ≤ d) then decide (n ≥ 0) || (sg || true) else true then bif decide (0 ≤ imax 0 (IntKind.wrap .i64 (d - (↑(ByteArray.size s'_1) : Int))) ∧ imax 0 (IntKind.wrap .i64 (d - (↑(ByteArray.size s'_1) : Int))) ≤ 1000 ∧ ByteArray.size (ByteArray.mk #[48]) ≤ 1000) then ∀ (s' : ByteArray), sz (repZ (bz (ByteArray.mk #[48])) (Int.toNat (imax 0 (IntKind.wrap .i64 (d - (↑(ByteArray.size s'_1) : Int)))))) = s' → bif strFit (ByteArray.size s' + ByteArray.size s'_1) then bif decide (0 ≤ IntKind.wrap .i64 ((↑(ByteArray.size (s' ++ s'_1)) : Int) - d) ∧ IntKind.wrap .i64 ((↑(ByteArray.size (s' ++ s'_1)) : Int) - d) ≤ (↑(ByteArray.size (s' ++ s'_1)) : Int) ∧ (↑(ByteArray.size (s' ++ s'_1)) : Int) ≤ (↑(ByteArray.size (s' ++ s'_1)) : Int)) then bif bif decide (n < 0) then bif sg then decide (ByteArray.size (ByteArray.extract (s' ++ s'_1) (Int.toNat (IntKind.wrap .i64 ((↑(ByteArray.size (s' ++ s'_1)) : Int) - d))) (ByteArray.size (s' ++ s'_1))) ≤ 1000) && (decide (ByteArray.size (ByteArray.mk #[48]) ≤ 1000) && asc (bz (ByteArray.mk #[48]))) && true else true else true then R (.tuple (.mk [.string (bif decide (n < 0) then bif sg then ByteArray.extract (s' ++ s'_1) (Int.toNat (IntKind.wrap .i64 ((↑(ByteArray.size (s' ++ s'_1)) : Int) - d))) (ByteArray.size (s' ++ s'_1)) else ByteArray.extract (s' ++ s'_1) (Int.toNat (IntKind.wrap .i64 ((↑(ByteArray.size (s' ++ s'_1)) : Int) - d))) (ByteArray.size (s' ++ s'_1)) else ByteArray.extract (s' ++ s'_1) (Int.toNat (IntKind.wrap .i64 ((↑(ByteArray.size (s' ++ s'_1)) : Int) - d))) (ByteArray.size (s' ++ s'_1))), .bool (decide (n < 0) && (sg && !ByteArray.toList (szO (trimZ (bz (ByteArray.extract (s' ++ s'_1) (Int.toNat (IntKind.wrap .i64 ((↑(ByteArray.size (s' ++ s'_1)) : Int) - d))) (ByteArray.size (s' ++ s'_1)))) (bz (ByteArray.mk #[48])))) == ByteArray.toList (ByteArray.mk #[]))), .bool (bif decide (n < 0) then bif sg then decide ((↑(ByteArray.size s'_1) : Int) ≤ d) && (decide (n ≥ 0) || (sg || ByteArray.toList s'_1 == ByteArray.toList (ByteArray.mk #[]))) else decide ((↑(ByteArray.size s'_1) : Int) ≤ d) && (decide (n ≥ 0) || (sg || ByteArray.toList s'_1 == ByteArray.toList (ByteArray.mk #[]))) else decide ((↑(ByteArray.size s'_1) : Int) ≤ d) && (decide (n ≥ 0) || (sg || ByteArray.toList s'_1 == ByteArray.toList (ByteArray.mk #[]))))])) else False else False else False else False else False else False else False else bif decide (0 ≤ IntKind.wrap .u64 n ∧ IntKind.wrap .u64 n < 18446744073709551616) && true then ∀ (s' : ByteArray), sz (decZ (IntKind.wrap .u64 n)) = s' → bif decide (sc ≥ q) then bif decide (0 ≤ IntKind.wrap .i64 (sc - q) ∧ IntKind.wrap .i64 (sc - q) ≤ 1000 ∧ ByteArray.size (ByteArray.mk #[48]) ≤ 1000) then ∀ (s'_1 : ByteArray), sz (repZ (bz (ByteArray.mk #[48])) (Int.toNat (IntKind.wrap .i64 (sc - q)))) = s'_1 → bif strFit (ByteArray.size s' + ByteArray.size s'_1) then ∀ (s'_2 : ByteArray), sz (List.dropWhile (fun x => x == List.getD (bz (ByteArray.mk #[48])) 0 0) (bz (s' ++ s'_1))) = s'_2 → bif bif decide ((↑(ByteArray.size s'_2) : Int) ≤ d) then decide (n ≥ 0) || (sg || true) else true then bif decide (0 ≤ imax 0 (IntKind.wrap .i64 (d - (↑(ByteArray.size s'_2) : Int))) ∧ imax 0 (IntKind.wrap .i64 (d - (↑(ByteArray.size s'_2) : Int))) ≤ 1000 ∧ ByteArray.size (ByteArray.mk #[48]) ≤ 1000) then ∀ (s' : ByteArray), sz (repZ (bz (ByteArray.mk #[48])) (Int.toNat (imax 0 (IntKind.wrap .i64 (d - (↑(ByteArray.size s'_2) : Int)))))) = s' → bif strFit (ByteArray.size s' + ByteArray.size s'_2) then bif decide (0 ≤ IntKind.wrap .i64 ((↑(ByteArray.size (s' ++ s'_2)) : Int) - d) ∧ IntKind.wrap .i64 ((↑(ByteArray.size (s' ++ s'_2)) : Int) - d) ≤ (↑(ByteArray.size (s' ++ s'_2)) : Int) ∧ (↑(ByteArray.size (s' ++ s'_2)) : Int) ≤ (↑(ByteArray.size (s' ++ s'_2)) : Int)) then bif bif decide (n < 0) then bif sg then decide (ByteArray.size (ByteArray.extract (s' ++ s'_2) (Int.toNat (IntKind.wrap .i64 ((↑(ByteArray.size (s' ++ s'_2)) : Int) - d))) (ByteArray.size (s' ++ s'_2))) ≤ 1000) && (decide (ByteArray.size (ByteArray.mk #[48]) ≤ 1000) && asc (bz (ByteArray.mk #[48]))) && true else true else true then R (.tuple (.mk [.string (bif decide (n < 0) then bif sg then ByteArray.extract (s' ++ s'_2) (Int.toNat (IntKind.wrap .i64 ((↑(ByteArray.size (s' ++ s'_2)) : Int) - d))) (ByteArray.size (s' ++ s'_2)) else ByteArray.extract (s' ++ s'_2) (Int.toNat (IntKind.wrap .i64 ((↑(ByteArray.size (s' ++ s'_2)) : Int) - d))) (ByteArray.size (s' ++ s'_2)) else ByteArray.extract (s' ++ s'_2) (Int.toNat (IntKind.wrap .i64 ((↑(ByteArray.size (s' ++ s'_2)) : Int) - d))) (ByteArray.size (s' ++ s'_2))), .bool (decide (n < 0) && (sg && !ByteArray.toList (szO (trimZ (bz (ByteArray.extract (s' ++ s'_2) (Int.toNat (IntKind.wrap .i64 ((↑(ByteArray.size (s' ++ s'_2)) : Int) - d))) (ByteArray.size (s' ++ s'_2)))) (bz (ByteArray.mk #[48])))) == ByteArray.toList (ByteArray.mk #[]))), .bool (bif decide (n < 0) then bif sg then decide ((↑(ByteArray.size s'_2) : Int) ≤ d) && (decide (n ≥ 0) || (sg || ByteArray.toList s'_2 == ByteArray.toList (ByteArray.mk #[]))) else decide ((↑(ByteArray.size s'_2) : Int) ≤ d) && (decide (n ≥ 0) || (sg || ByteArray.toList s'_2 == ByteArray.toList (ByteArray.mk #[]))) else decide ((↑(ByteArray.size s'_2) : Int) ≤ d) && (decide (n ≥ 0) || (sg || ByteArray.toList s'_2 == ByteArray.toList (ByteArray.mk #[]))))])) else False else False else False else False else False else False else False else bif decide ((0 : Int) ≤ 0 ∧ 0 ≤ imax 0 (IntKind.wrap .i64 ((↑(ByteArray.size s') : Int) - IntKind.wrap .i64 (q - sc))) ∧ imax 0 (IntKind.wrap .i64 ((↑(ByteArray.size s') : Int) - IntKind.wrap .i64 (q - sc))) ≤ (↑(ByteArray.size s') : Int)) then ∀ (s'_1 : ByteArray), sz (List.dropWhile (fun x => x == List.getD (bz (ByteArray.mk #[48])) 0 0) (bz (ByteArray.extract s' 0 (Int.toNat (imax 0 (IntKind.wrap .i64 ((↑(ByteArray.size s') : Int) - IntKind.wrap .i64 (q - sc)))))))) = s'_1 → bif bif decide ((↑(ByteArray.size s'_1) : Int) ≤ d) then decide (n ≥ 0) || (sg || true) else true then bif decide (0 ≤ imax 0 (IntKind.wrap .i64 (d - (↑(ByteArray.size s'_1) : Int))) ∧ imax 0 (IntKind.wrap .i64 (d - (↑(ByteArray.size s'_1) : Int))) ≤ 1000 ∧ ByteArray.size (ByteArray.mk #[48]) ≤ 1000) then ∀ (s' : ByteArray), sz (repZ (bz (ByteArray.mk #[48])) (Int.toNat (imax 0 (IntKind.wrap .i64 (d - (↑(ByteArray.size s'_1) : Int)))))) = s' → bif strFit (ByteArray.size s' + ByteArray.size s'_1) then bif decide (0 ≤ IntKind.wrap .i64 ((↑(ByteArray.size (s' ++ s'_1)) : Int) - d) ∧ IntKind.wrap .i64 ((↑(ByteArray.size (s' ++ s'_1)) : Int) - d) ≤ (↑(ByteArray.size (s' ++ s'_1)) : Int) ∧ (↑(ByteArray.size (s' ++ s'_1)) : Int) ≤ (↑(ByteArray.size (s' ++ s'_1)) : Int)) then bif bif decide (n < 0) then bif sg then decide (ByteArray.size (ByteArray.extract (s' ++ s'_1) (Int.toNat (IntKind.wrap .i64 ((↑(ByteArray.size (s' ++ s'_1)) : Int) - d))) (ByteArray.size (s' ++ s'_1))) ≤ 1000) && (decide (ByteArray.size (ByteArray.mk #[48]) ≤ 1000) && asc (bz (ByteArray.mk #[48]))) && true else true else true then R (.tuple (.mk [.string (bif decide (n < 0) then bif sg then ByteArray.extract (s' ++ s'_1) (Int.toNat (IntKind.wrap .i64 ((↑(ByteArray.size (s' ++ s'_1)) : Int) - d))) (ByteArray.size (s' ++ s'_1)) else ByteArray.extract (s' ++ s'_1) (Int.toNat (IntKind.wrap .i64 ((↑(ByteArray.size (s' ++ s'_1)) : Int) - d))) (ByteArray.size (s' ++ s'_1)) else ByteArray.extract (s' ++ s'_1) (Int.toNat (IntKind.wrap .i64 ((↑(ByteArray.size (s' ++ s'_1)) : Int) - d))) (ByteArray.size (s' ++ s'_1))), .bool (decide (n < 0) && (sg && !ByteArray.toList (szO (trimZ (bz (ByteArray.extract (s' ++ s'_1) (Int.toNat (IntKind.wrap .i64 ((↑(ByteArray.size (s' ++ s'_1)) : Int) - d))) (ByteArray.size (s' ++ s'_1)))) (bz (ByteArray.mk #[48])))) == ByteArray.toList (ByteArray.mk #[]))), .bool (bif decide (n < 0) then bif sg then decide ((↑(ByteArray.size s'_1) : Int) ≤ d) && (decide (n ≥ 0) || (sg || ByteArray.toList s'_1 == ByteArray.toList (ByteArray.mk #[]))) else decide ((↑(ByteArray.size s'_1) : Int) ≤ d) && (decide (n ≥ 0) || (sg || ByteArray.toList s'_1 == ByteArray.toList (ByteArray.mk #[]))) else decide ((↑(ByteArray.size s'_1) : Int) ≤ d) && (decide (n ≥ 0) || (sg || ByteArray.toList s'_1 == ByteArray.toList (ByteArray.mk #[]))))])) else False else False else False else False else False else False else False) := by kernel_rfl
theorem rep_48 : ∀ k : Nat, repZ [48] k = rep1 48 k
 | 0 => rfl
 | k + 1 => by rw [repZ, rep_48 k]; rfl
theorem all48 {l : List Int} (h : dgL l = true) : (∀ c ∈ l, hasZ [48] c = true) ↔ dval l = 0 := by
 rw [← strip_nil h, dropW_nil]
 constructor
 ·intro q c hc
  have := q c hc
  rw [hasZ_iff] at this
  simpa using this
 ·intro q c hc
  rw [hasZ_iff]
  simpa using q c hc
theorem toList_nil (s : ByteArray) : (s.toList == ByteArray.toList (ByteArray.mk #[])) = (bz s).isEmpty := by
 rw [toList_beq]
 have : bz ⟨#[]⟩ = [] := rfl
 rw [this]
 cases bz s <;> rfl
theorem trim_isB {l cs : List Int} (h : IsB l) : IsB (trimZ l cs) := by
 intro c hc
 refine h c ?_
 unfold trimZ at hc
 have := List.dropWhile_sublist _ |>.subset hc
 have : c ∈ l.reverse.dropWhile (hasZ cs) := by simpa using this
 simpa using List.dropWhile_sublist _ |>.subset this
theorem cut_tail {n d M : Int} {sg : Bool} {l1 : List Int} {s1 : ByteArray} (hs1 : bz s1 = l1) (hdg : dgL l1 = true) (hv : dval l1 = M) (hlen : l1.length ≤ 100) (hd : 0 ≤ d ∧ d ≤ 9) {R : Value → Prop}
  (hR : R (.tuple ⟨[.string (sz (digZ (M % tenZ d.toNat) d.toNat)), .bool (decide (n < 0) && (sg && !(M % tenZ d.toNat == 0))), .bool (decide (M < tenZ d.toNat) && (decide (n ≥ 0) || (sg || M % tenZ d.toNat == 0)))]⟩)) :
  ∀ (s2 : ByteArray), sz (List.dropWhile (fun x => x == List.getD (bz (ByteArray.mk #[48])) 0 0) (bz s1)) = s2 →
   bif bif decide ((↑(ByteArray.size s2) : Int) ≤ d) then decide (n ≥ 0) || (sg || true) else true then
    bif decide (0 ≤ imax 0 (IntKind.wrap IntKind.i64 (d - (↑(ByteArray.size s2) : Int))) ∧ imax 0 (IntKind.wrap IntKind.i64 (d - (↑(ByteArray.size s2) : Int))) ≤ 1000 ∧ ByteArray.size (ByteArray.mk #[48]) ≤ 1000) then
     ∀ (s' : ByteArray), sz (repZ (bz (ByteArray.mk #[48])) (Int.toNat (imax 0 (IntKind.wrap IntKind.i64 (d - (↑(ByteArray.size s2) : Int)))))) = s' →
      bif strFit (ByteArray.size s' + ByteArray.size s2) then
       bif decide (0 ≤ IntKind.wrap IntKind.i64 ((↑(ByteArray.size (s' ++ s2)) : Int) - d) ∧ IntKind.wrap IntKind.i64 ((↑(ByteArray.size (s' ++ s2)) : Int) - d) ≤ (↑(ByteArray.size (s' ++ s2)) : Int) ∧ (↑(ByteArray.size (s' ++ s2)) : Int) ≤ (↑(ByteArray.size (s' ++ s2)) : Int)) then
        bif bif decide (n < 0) then bif sg then decide (ByteArray.size (ByteArray.extract (s' ++ s2) (Int.toNat (IntKind.wrap IntKind.i64 ((↑(ByteArray.size (s' ++ s2)) : Int) - d))) (ByteArray.size (s' ++ s2))) ≤ 1000) && (decide (ByteArray.size (ByteArray.mk #[48]) ≤ 1000) && asc (bz (ByteArray.mk #[48]))) && true else true else true then
         R (Value.tuple (Array.mk [Value.string (bif decide (n < 0) then bif sg then ByteArray.extract (s' ++ s2) (Int.toNat (IntKind.wrap IntKind.i64 ((↑(ByteArray.size (s' ++ s2)) : Int) - d))) (ByteArray.size (s' ++ s2)) else ByteArray.extract (s' ++ s2) (Int.toNat (IntKind.wrap IntKind.i64 ((↑(ByteArray.size (s' ++ s2)) : Int) - d))) (ByteArray.size (s' ++ s2)) else ByteArray.extract (s' ++ s2) (Int.toNat (IntKind.wrap IntKind.i64 ((↑(ByteArray.size (s' ++ s2)) : Int) - d))) (ByteArray.size (s' ++ s2))),
          Value.bool (decide (n < 0) && (sg && !ByteArray.toList (szO (trimZ (bz (ByteArray.extract (s' ++ s2) (Int.toNat (IntKind.wrap IntKind.i64 ((↑(ByteArray.size (s' ++ s2)) : Int) - d))) (ByteArray.size (s' ++ s2)))) (bz (ByteArray.mk #[48])))) == ByteArray.toList (ByteArray.mk #[]))),
          Value.bool (bif decide (n < 0) then bif sg then decide ((↑(ByteArray.size s2) : Int) ≤ d) && (decide (n ≥ 0) || (sg || ByteArray.toList s2 == ByteArray.toList (ByteArray.mk #[]))) else decide ((↑(ByteArray.size s2) : Int) ≤ d) && (decide (n ≥ 0) || (sg || ByteArray.toList s2 == ByteArray.toList (ByteArray.mk #[]))) else decide ((↑(ByteArray.size s2) : Int) ≤ d) && (decide (n ≥ 0) || (sg || ByteArray.toList s2 == ByteArray.toList (ByteArray.mk #[]))))]))
        else False
       else False
      else False
    else False
   else False := by
 intro s2 h2
 have k0 : (bz ⟨#[48]⟩).getD 0 0 = 48 := rfl
 have k1 : bz ⟨#[48]⟩ = [48] := rfl
 rw [k0, hs1] at h2
 have hB : ∀ {l : List Int}, dgL l = true → IsB l := dg_isB
 have h2d := dgL_strip hdg
 have b2 : bz s2 = l1.dropWhile (· == 48) := by rw [← h2, bz_sz (hB h2d)]
 have hl2 : (l1.dropWhile (· == 48)).length ≤ 100 := Nat.le_trans (List.dropWhile_sublist _).length_le hlen
 have z2 : s2.size = (l1.dropWhile (· == 48)).length := by rw [← bz_length, b2]
 rw [z2, w64 (n := d - ((l1.dropWhile (· == 48)).length : Int)) (by omega), k1]
 have hv2 : dval (l1.dropWhile (· == 48)) = M := by rw [dval_strip, hv]
 have hlt := strip_len hdg d.toNat
 have hnl := strip_nil hdg
 rw [hv] at hlt hnl
 generalize l1.dropWhile (· == 48) = l2 at *
 have hk : 0 ≤ imax 0 (d - (l2.length : Int)) ∧ imax 0 (d - (l2.length : Int)) ≤ 9 ∧ d ≤ imax 0 (d - (l2.length : Int)) + l2.length := by unfold imax; split <;> omega
 generalize imax 0 (d - (l2.length : Int)) = k at *
 refine c_t (by cases decide ((l2.length : Int) ≤ d) <;> simp) (c_t (decide_eq_true ⟨hk.1, by omega, by decide⟩) fun s3 h3 => ?_)
 obtain ⟨r1, r2⟩ := dval_rep k.toNat
 have b3 : bz s3 = rep1 48 k.toNat := by rw [← h3, rep_48, bz_sz (hB r2)]
 have z3 : s3.size = k.toNat := by rw [← bz_length, b3]; simp [rep1]
 have bE : bz (s3 ++ s2) = rep1 48 k.toNat ++ l2 := by rw [bz_append, b3, b2]
 have zE : (s3 ++ s2).size = k.toNat + l2.length := by rw [← bz_length, bE, List.length_append]; simp [rep1]
 rw [zE, w64 (n := ((k.toNat + l2.length : Nat) : Int) - d) (by omega)]
 refine c_t (by simp only [strFit, Nat.ble_eq]; omega) (c_t (decide_eq_true (by omega)) ?_)
 have d3 : dgL (rep1 48 k.toNat ++ l2) = true := dgL_app.2 ⟨r2, h2d⟩
 have v3 : dval (rep1 48 k.toNat ++ l2) = M := by rw [dval_app, r1, hv2]; omega
 have l3 : (rep1 48 k.toNat ++ l2).length = k.toNat + l2.length := by rw [List.length_append]; simp [rep1]
 have hM : 0 ≤ M := by have := (dval_rng _ d3).1; omega
 have bx : bz ((s3 ++ s2).extract (((k.toNat + l2.length : Nat) : Int) - d).toNat (k.toNat + l2.length)) = digZ (M % tenZ d.toNat) d.toNat := by
  rw [bz_extract, bE, List.take_of_length_le (by rw [l3]; exact Nat.le_refl _)]
  have := digZ_last d3 (d := d.toNat) (by rw [l3]; omega)
  rw [v3, l3] at this
  rw [digZ_mod _ _ hM, ← this]
  congr 1
  omega
 have ex : (s3 ++ s2).extract (((k.toNat + l2.length : Nat) : Int) - d).toNat (k.toNat + l2.length) = sz (digZ (M % tenZ d.toNat) d.toNat) := by rw [← bx, sz_bz]
 have hdd := digZ_dg d.toNat (M % tenZ d.toNat)
 rw [ex, bz_sz (hB hdd), szO_eq, toList_nil, bz_sz (trim_isB (hB hdd)), toList_nil, b2]
 have e1 : (trimZ (digZ (M % tenZ d.toNat) d.toNat) [48]).isEmpty = (M % tenZ d.toNat == 0) := by
  have hm := Int.emod_nonneg M (b := tenZ d.toNat) (by have := tenZ_pos d.toNat; omega)
  have hm2 := Int.emod_lt_of_pos M (tenZ_pos d.toNat)
  have hz : dval (digZ (M % tenZ d.toNat) d.toNat) = M % tenZ d.toNat := by rw [dval_dig _ _ hm, Int.emod_eq_of_lt hm hm2]
  rw [Bool.eq_iff_iff, List.isEmpty_iff, trim_nil, all48 hdd, hz, beq_iff_eq]
 have e2 : (decide ((l2.length : Int) ≤ d) && (decide (n ≥ 0) || (sg || l2.isEmpty))) = (decide (M < tenZ d.toNat) && (decide (n ≥ 0) || (sg || M % tenZ d.toNat == 0))) := by
  by_cases hq : M < tenZ d.toNat
  ·have h5 : (l2.length : Int) ≤ d := by have := hlt.2 hq; omega
   have h6 : l2.isEmpty = (M % tenZ d.toNat == 0) := by
    rw [Int.emod_eq_of_lt hM hq, Bool.eq_iff_iff, List.isEmpty_iff, hnl, beq_iff_eq]
   rw [decide_eq_true hq, decide_eq_true h5, h6]
  ·have h5 : ¬ (l2.length : Int) ≤ d := fun q => hq (hlt.1 (by omega))
   rw [decide_eq_false hq, decide_eq_false h5]
   rfl
 rw [e1, e2, sz_size, digZ_len]
 have a1 : decide (d.toNat ≤ 1000) = true := decide_eq_true (by omega)
 rw [a1]
 refine c_t (by cases decide (n < 0) <;> cases sg <;> rfl) ?_
 cases hn : decide (n < 0) <;> cases sg <;> simpa [hn] using hR
def cutV (n q sc d : Int) (sg : Bool) : Value := .tuple ⟨[.string (sz (digZ ((cuN n q sc d sg).natAbs : Int) d.toNat)), .bool (decide (cuN n q sc d sg < 0)), .bool (cuF n q sc d sg)]⟩
theorem cutV_eq {n q sc d : Int} {sg : Bool} (hM : 0 ≤ cuM n q sc) : cutV n q sc d sg = .tuple ⟨[.string (sz (digZ (cuM n q sc % tenZ d.toNat) d.toNat)), .bool (decide (n < 0) && (sg && !(cuM n q sc % tenZ d.toNat == 0))), .bool (decide (cuM n q sc < tenZ d.toNat) && (decide (n ≥ 0) || (sg || cuM n q sc % tenZ d.toNat == 0)))]⟩ := by
 have hm := Int.emod_nonneg (cuM n q sc) (b := tenZ d.toNat) (by have := tenZ_pos d.toNat; omega)
 have e1 : ((cuN n q sc d sg).natAbs : Int) = cuM n q sc % tenZ d.toNat := by
  unfold cuN cuV
  split <;> omega
 have e2 : decide (cuN n q sc d sg < 0) = (decide (n < 0) && (sg && !(cuM n q sc % tenZ d.toNat == 0))) := by
  unfold cuN cuV
  rw [Bool.eq_iff_iff]
  simp only [decide_eq_true_eq, Bool.and_eq_true, Bool.not_eq_true', beq_eq_false_iff_ne]
  split
  ·rename_i h
   constructor
   ·exact fun q => ⟨h.1, h.2, by omega⟩
   ·exact fun q => by omega
  ·rename_i h
   constructor
   ·exact fun q => by omega
   ·exact fun q => absurd ⟨q.1, q.2.1⟩ h
 rw [cutV, e1, e2]
 rfl
theorem w63 (s : ByteArray) (nb : Bool) (w : Int) (d : Int) (sc : Int) (sg : Bool) (k : Nat) (cap : Nat) (dr : Int) (f : Int) (cr : Bool) (fl : Int) (fm : Int) (n q : Int) (hn : -9223372036854775808 ≤ n ∧ n ≤ 9223372036854775807) (hq : 0 ≤ q ∧ q ≤ 9) (hsc : 0 ≤ sc ∧ sc ≤ 9) (hd : 0 ≤ d ∧ d ≤ 9) {R : Value → Prop} (hR : R (cutV n q sc d sg)) :
  DoesM Tryz.prog G31 noL Tryz.f63 [.pointer (some ⟨0, 0, some 0⟩), .int .i64 n, .int .i64 q] (vwF (fmL s nb w d sc sg 1 k cap dr f cr fl fm)) 2 (fun v _ _ => R v) := by
 rw [DoesM, v63]
 obtain ⟨u, hu⟩ : ∃ u : Nat, n.natAbs = u := ⟨_, rfl⟩
 obtain ⟨U, hU⟩ : ∃ U : Int, U = u := ⟨_, rfl⟩
 obtain ⟨g1, g2⟩ := dec_spec u
 have gl : (zl (Lib.decDigits u)).length ≤ 20 := by
  rw [zl, List.length_map, Lib.decDigits_length]
  exact Lib.nDigits_le20 u (by omega)
 have eD : decZ U = zl (Lib.decDigits u) := by rw [hU, decZ, Int.toNat_natCast]
 have eM1 : sc ≥ q → cuM n q sc = u * tenZ (sc - q).toNat := fun h => by
  unfold cuM
  split
  ·have : sc = q := by omega
   rw [this, hu, Int.sub_self]
   simp [tenZ]
  ·rw [hu]
 have eM2 : ¬ sc ≥ q → cuM n q sc = u / tenZ (q - sc).toNat := fun h => by
  unfold cuM
  rw [if_pos (by omega), hu]
 have hM : 0 ≤ cuM n q sc := by
  by_cases h : sc ≥ q
  ·rw [eM1 h]; exact Int.mul_nonneg (by omega) (by have := tenZ_pos (sc - q).toNat; omega)
  ·rw [eM2 h]; exact Int.ediv_nonneg (by omega) (by have := tenZ_pos (q - sc).toNat; omega)
 have k1 : bz ⟨#[48]⟩ = [48] := rfl
 have tail1 : ∀ (s1 s2 : ByteArray), sz (decZ U) = s1 → sc ≥ q → sz (repZ (bz (ByteArray.mk #[48])) (Int.toNat (sc - q))) = s2 → strFit (s1.size + s2.size) = true ∧ bz (s1 ++ s2) = zl (Lib.decDigits u) ++ rep1 48 (sc - q).toNat := fun s1 s2 h1 h2 h3 => by
  have r := dval_rep (sc - q).toNat
  have b1 : bz s1 = zl (Lib.decDigits u) := by rw [← h1, eD, bz_sz (dg_isB g1)]
  have b2 : bz s2 = rep1 48 (sc - q).toNat := by rw [← h3, k1, rep_48, bz_sz (dg_isB r.2)]
  have z1 : s1.size ≤ 20 := by rw [← bz_length, b1]; exact gl
  have z2 : s2.size ≤ 9 := by rw [← bz_length, b2]; simp [rep1]; omega
  exact ⟨by simp only [strFit, Nat.ble_eq]; omega, by rw [bz_append, b1, b2]⟩
 have tv1 : ∀ h : sc ≥ q, dgL (zl (Lib.decDigits u) ++ rep1 48 (sc - q).toNat) = true ∧ dval (zl (Lib.decDigits u) ++ rep1 48 (sc - q).toNat) = cuM n q sc ∧ (zl (Lib.decDigits u) ++ rep1 48 (sc - q).toNat).length ≤ 100 := fun h => by
  have r := dval_rep (sc - q).toNat
  refine ⟨dgL_app.2 ⟨g1, r.2⟩, ?_, ?_⟩
  ·rw [dval_app, g2, r.1, eM1 h]
   simp [rep1]
  ·rw [List.length_append]; simp only [rep1, List.length_replicate]; omega
 have tail2 : ∀ (s1 : ByteArray), sz (decZ U) = s1 → ¬ sc ≥ q → (0 ≤ imax 0 ((s1.size : Int) - (q - sc)) ∧ imax 0 ((s1.size : Int) - (q - sc)) ≤ s1.size) ∧ s1.size ≤ 20 ∧ bz (s1.extract 0 (Int.toNat (imax 0 ((s1.size : Int) - (q - sc))))) = (zl (Lib.decDigits u)).take ((zl (Lib.decDigits u)).length - (q - sc).toNat) := fun s1 h1 h2 => by
  have b1 : bz s1 = zl (Lib.decDigits u) := by rw [← h1, eD, bz_sz (dg_isB g1)]
  have z1 : s1.size = (zl (Lib.decDigits u)).length := by rw [← bz_length, b1]
  refine ⟨by unfold imax; split <;> omega, by omega, ?_⟩
  rw [bz_extract, b1, List.drop_zero]
  congr 1
  unfold imax
  split <;> omega
 have tv2 : ∀ h : ¬ sc ≥ q, dgL ((zl (Lib.decDigits u)).take ((zl (Lib.decDigits u)).length - (q - sc).toNat)) = true ∧ dval ((zl (Lib.decDigits u)).take ((zl (Lib.decDigits u)).length - (q - sc).toNat)) = cuM n q sc ∧ ((zl (Lib.decDigits u)).take ((zl (Lib.decDigits u)).length - (q - sc).toNat)).length ≤ 100 := fun h => by
  refine ⟨?_, ?_, ?_⟩
  ·simp only [dgL, List.all_eq_true] at g1 ⊢
   exact fun c hc => g1 c (List.mem_of_mem_take hc)
  ·rw [dval_take g1, g2, eM2 h]
  ·rw [List.length_take]; omega
 rw [cutV_eq hM] at hR
 refine cond_intro (fun hneg => ?_) (fun hneg => ?_)
 ·have hneg' := of_decide_eq_true hneg
  have e : IntKind.wrap .u64 (0 - IntKind.wrap .u64 n) = U := by rw [wu64e, wu64e]; omega
  rw [e, w64 (n := sc - q) (by omega), w64 (n := q - sc) (by omega)]
  refine c_t (by rw [decide_eq_true (show (0 : Int) ≤ U ∧ U < 18446744073709551616 by omega)]; rfl) fun s1 h1 => cond_intro (fun h => ?_) (fun h => ?_)
  ·have h := of_decide_eq_true h
   refine c_t (decide_eq_true ⟨by omega, by omega, by decide⟩) fun s2 h2 => ?_
   obtain ⟨a1, a2⟩ := tail1 s1 s2 h1 h h2
   obtain ⟨t1, t2, t3⟩ := tv1 h
   exact c_t a1 (cut_tail a2 t1 t2 t3 hd hR)
  ·have h := of_decide_eq_false h
   obtain ⟨a1, a2, a3⟩ := tail2 s1 h1 h
   obtain ⟨t1, t2, t3⟩ := tv2 h
   rw [w64 (n := (s1.size : Int) - (q - sc)) (by omega)]
   have b1 : decide ((0 : Int) ≤ 0 ∧ 0 ≤ imax 0 ((s1.size : Int) - (q - sc)) ∧ imax 0 ((s1.size : Int) - (q - sc)) ≤ (s1.size : Int)) = true := decide_eq_true ⟨by decide, a1.1, a1.2⟩
   exact c_t b1 (cut_tail a3 t1 t2 t3 hd hR)
 ·have hneg' := of_decide_eq_false hneg
  have e : IntKind.wrap .u64 n = U := by rw [wu64e]; omega
  rw [e, w64 (n := sc - q) (by omega), w64 (n := q - sc) (by omega)]
  refine c_t (by rw [decide_eq_true (show (0 : Int) ≤ U ∧ U < 18446744073709551616 by omega)]; rfl) fun s1 h1 => cond_intro (fun h => ?_) (fun h => ?_)
  ·have h := of_decide_eq_true h
   refine c_t (decide_eq_true ⟨by omega, by omega, by decide⟩) fun s2 h2 => ?_
   obtain ⟨a1, a2⟩ := tail1 s1 s2 h1 h h2
   obtain ⟨t1, t2, t3⟩ := tv1 h
   exact c_t a1 (cut_tail a2 t1 t2 t3 hd hR)
  ·have h := of_decide_eq_false h
   obtain ⟨a1, a2, a3⟩ := tail2 s1 h1 h
   obtain ⟨t1, t2, t3⟩ := tv2 h
   rw [w64 (n := (s1.size : Int) - (q - sc)) (by omega)]
   have b1 : decide ((0 : Int) ≤ 0 ∧ 0 ≤ imax 0 ((s1.size : Int) - (q - sc)) ∧ imax 0 ((s1.size : Int) - (q - sc)) ≤ (s1.size : Int)) = true := decide_eq_true ⟨by decide, a1.1, a1.2⟩
   exact c_t b1 (cut_tail a3 t1 t2 t3 hd hR)
def i64B (n : Int) : Bool := decide (-9223372036854775808 ≤ n ∧ n ≤ 9223372036854775807)
def h63 : List Value → Lk → Nat → (Value → Lk → Nat → Prop) → Prop := fun args m n K => match args with
 | [.pointer (some ⟨a, 0, some 0⟩), .int .i64 x, .int .i64 q] => match m a with
  | some ⟨[.string s, .bool nb, .int .i64 w, .int .i64 d, .int .i64 sc, .bool sg, .slice (some ⟨y, 0, some 1⟩) k cap, .int .u8 dr, .int .i64 f, .bool cr, .int .u8 fl, .int .i64 fm], 84, own⟩ =>
   match cnd (i64B x && (decide (0 ≤ q ∧ q ≤ 9) && (decide (0 ≤ sc ∧ sc ≤ 9) && decide (0 ≤ d ∧ d ≤ 9)))) with
   | true => K (cutV x q sc d sg) m n
   | false => False
  | _ => False
 | _ => False
theorem fn63 : Fn1 Tryz.prog 63 Tryz.f63 := ⟨Tryz.func63, by kernel_rfl, by kernel_rfl, by kernel_rfl⟩
theorem h63_ok : GenOK Tryz.prog 63 h63 := by
 refine gen_sub ok_G31 hmix fn63 lokf_none fun args m n K h => ?_
 unfold h63 at h
 split at h
 case h_2 => exact h.elim
 rename_i a x q
 split at h
 case h_2 => exact h.elim
 rename_i s nb w d sc sg y k cap dr f cr fl fm own hm
 split at h
 case h_2 => exact h.elim
 rename_i hc
 simp only [cnd, i64B, Bool.and_eq_true, decide_eq_true_eq] at hc
 obtain ⟨h1, h2, h3, h4⟩ := hc
 refine ⟨[.pointer (some ⟨0, 0, some 0⟩), .int .i64 x, .int .i64 q], _, 2, rho2 a y, cutV x q sc d sg, sub_F hm, fun ι => by simp [ren, ren1, rho2], Nat.le_of_ble_eq_true (by kernel_rfl), fun v hv j hj => ?_, rfl, w63 s nb w d sc sg k cap dr f cr fl fm x q h1 h2 h3 h4 (R := fun v => v = cutV x q sc d sg) rfl, h⟩
 simp at hv
 rcases hv with rfl | rfl | rfl
 ·have : j = 0 := by simpa [ids] using hj
  omega
 ·simp [ids] at hj
 ·simp [ids] at hj
def G32 : Env := G30.addG 63 h63
theorem ok_G32 : EnvOK Tryz.prog G32 := env_addG ok_G30 h63_ok
end Go.Px
end
noncomputable section
namespace Go.Px
open Go Go.Ab Go.Proofs Go.Shelf
def enOn : List Int → Bool
 | [] => false
 | r :: rs => bif r == 0 || r == 1 then r == 1 else enOn rs
def enGo (ze : Bool) (fm : Int) : List Int → List Int → Int → Int
 | [], _, _ => -1
 | r :: rs, ds, at_ => bif r == 0 then at_ else bif r == 1 then (bif ds.headD 0 != 48 then at_ else enGo ze fm rs ds.tail (at_ + 1))
  else bif r == 2 then (bif decide (fm > 0) || !ze then at_ else enGo ze fm rs ds at_) else enGo ze fm rs ds (at_ + 1)
def cn1 : List Int → Int
 | [] => 0
 | r :: rs => (bif r == 1 then 1 else 0) + cn1 rs
theorem cn1_nn : ∀ l, 0 ≤ cn1 l
 | [] => by simp [cn1]
 | r :: rs => by have := cn1_nn rs; rw [cn1]; cases r == 1 <;> simp <;> omega
def V90_0 : Int × Int × Int × Bool × Bool × Nat × Nat × Int × Int × ByteArray × Bool × Int × Int × Int × Bool × Nat × Nat × Int × Int × Bool × Int × Int × ByteArray × Bool × Int × Int × Int × List Value → List Value := fun (r2, r3, r4, ze, on, k2, cap2, L, i, s, nb, w, dg, sc, sg, k, cap, dr, f, cr, fl, fm, nu, mi, us, at0, ld, d) => [.pointer (some ⟨0, 0, some 0⟩), I r2, I r3, I r4, B ze, B on, .slice (some ⟨2, 0, some 1⟩) k2 cap2, I L, I i]
def B90_0 : Int × Int × Int × Bool × Bool × Nat × Nat × Int × Int × ByteArray × Bool × Int × Int × Int × Bool × Nat × Nat × Int × Int × Bool × Int × Int × ByteArray × Bool × Int × Int × Int × List Value → List (Option Blk) := fun (r2, r3, r4, ze, on, k2, cap2, L, i, s, nb, w, dg, sc, sg, k, cap, dr, f, cr, fl, fm, nu, mi, us, at0, ld, d) => [some ⟨[.pointer (some ⟨1, 0, some 0⟩), .string nu, .bool mi, .int .i64 us, .int .i64 at0, .int .i64 ld], 109, false⟩, some ⟨[.string s, .bool nb, .int .i64 w, .int .i64 dg, .int .i64 sc, .bool sg, .slice (some ⟨2, 0, some 1⟩) k cap, .int .u8 dr, .int .i64 f, .bool cr, .int .u8 fl, .int .i64 fm], 84, false⟩, some ⟨d, 102, false⟩]
def S90_0 : LSpecA (Int × Int × Int × Bool × Bool × Nat × Nat × Int × Int × ByteArray × Bool × Int × Int × Int × Bool × Nat × Nat × Int × Int × Bool × Int × Int × ByteArray × Bool × Int × Int × Int × List Value) where
 live := [0, 2, 3, 4, 5, 6, 23, 24, 25]
 mid := [0, 1, 2]
 n := 100
 ap := []
 dec vs bs := match vs, bs with | [.pointer (some ⟨0, 0, some 0⟩), .int .i64 r2, .int .i64 r3, .int .i64 r4, .bool ze, .bool on, .slice (some ⟨2, 0, some 1⟩) k2 cap2, .int .i64 L, .int .i64 i], [some ⟨[.pointer (some ⟨1, 0, some 0⟩), .string nu, .bool mi, .int .i64 us, .int .i64 at0, .int .i64 ld], 109, false⟩, some ⟨[.string s, .bool nb, .int .i64 w, .int .i64 dg, .int .i64 sc, .bool sg, .slice (some ⟨2, 0, some 1⟩) k cap, .int .u8 dr, .int .i64 f, .bool cr, .int .u8 fl, .int .i64 fm], 84, false⟩, some ⟨d, 102, false⟩] => some (r2, r3, r4, ze, on, k2, cap2, L, i, s, nb, w, dg, sc, sg, k, cap, dr, f, cr, fl, fm, nu, mi, us, at0, ld, d) | _, _ => none
 pre := fun (r2, r3, r4, ze, on, k2, cap2, L, i, s, nb, w, dg, sc, sg, k, cap, dr, f, cr, fl, fm, nu, mi, us, at0, ld, d) => rowIOK d k2 cap2 && decide (0 ≤ i ∧ i ≤ k2 ∧ k2 ≤ 1000 ∧ L = k2 ∧ on = false)
 fin := fun (r2, r3, r4, ze, on, k2, cap2, L, i, s, nb, w, dg, sc, sg, k, cap, dr, f, cr, fl, fm, nu, mi, us, at0, ld, d) Z => ∀ i', Z (.exit 0) [.pointer (some ⟨0, 0, some 0⟩), I r2, I r3, I r4, B ze, B (enOn ((zc d k2).drop i.toNat)), .slice (some ⟨2, 0, some 1⟩) k2 cap2, I L, I i'] [some ⟨[.pointer (some ⟨1, 0, some 0⟩), .string nu, .bool mi, .int .i64 us, .int .i64 at0, .int .i64 ld], 109, false⟩, some ⟨[.string s, .bool nb, .int .i64 w, .int .i64 dg, .int .i64 sc, .bool sg, .slice (some ⟨2, 0, some 1⟩) k cap, .int .u8 dr, .int .i64 f, .bool cr, .int .u8 fl, .int .i64 fm], 84, false⟩, some ⟨d, 102, false⟩]
theorem r90_0 (r2 : Int) (r3 : Int) (r4 : Int) (ze : Bool) (on : Bool) (k2 : Nat) (cap2 : Nat) (L : Int) (i : Int) (s : ByteArray) (nb : Bool) (w : Int) (dg : Int) (sc : Int) (sg : Bool) (k : Nat) (cap : Nat) (dr : Int) (f : Int) (cr : Bool) (fl : Int) (fm : Int) (nu : ByteArray) (mi : Bool) (us : Int) (at0 : Int) (ld : Int) (d : List Value) (jk : Tmps) (R : Exit → List Value → List (Option Blk) → Prop) : (codeQ Tryz.prog G32 noL Tryz.f90.ntmps (loopOf Tryz.f90 0) (tl S90_0.live (V90_0 (r2, r3, r4, ze, on, k2, cap2, L, i, s, nb, w, dg, sc, sg, k, cap, dr, f, cr, fl, fm, nu, mi, us, at0, ld, d)) jk) (ml S90_0.mid (B90_0 (r2, r3, r4, ze, on, k2, cap2, L, i, s, nb, w, dg, sc, sg, k, cap, dr, f, cr, fl, fm, nu, mi, us, at0, ld, d))) S90_0.n fun e t' m' _ => S90_0.out R e t' m') = ( bif decide (i < L) then bif decide (0 ≤ i ∧ i < (↑k2 : Int)) then bif isIntAt IntKind.i64 d (0 + Int.toNat i * 1) then bif intAt d (0 + Int.toNat i * 1) == 0 || true then bif intAt d (0 + Int.toNat i * 1) == 0 || intAt d (0 + Int.toNat i * 1) == 1 then bif goodL [] d && true && true then R (Exit.exit 0) [.pointer (some (.mk 0 0 (some 0))), .int .i64 r2, .int .i64 r3, .int .i64 r4, .bool ze, .bool (intAt d (0 + Int.toNat i * 1) == 1), .slice (some (.mk 2 0 (some 1))) k2 cap2, .int .i64 L, .int .i64 i] [some (.mk [.pointer (some (.mk 1 0 (some 0))), .string nu, .bool mi, .int .i64 us, .int .i64 at0, .int .i64 ld] 109 false), some (.mk [.string s, .bool nb, .int .i64 w, .int .i64 dg, .int .i64 sc, .bool sg, .slice (some (.mk 2 0 (some 1))) k cap, .int .u8 dr, .int .i64 f, .bool cr, .int .u8 fl, .int .i64 fm] 84 false), some (.mk (rlbL [] d) 102 false)] else False else bif goodL [] d && true && true then R Exit.normal [.pointer (some (.mk 0 0 (some 0))), .int .i64 r2, .int .i64 r3, .int .i64 r4, .bool ze, .bool on, .slice (some (.mk 2 0 (some 1))) k2 cap2, .int .i64 L, .int .i64 (IntKind.wrap .i64 (i + 1))] [some (.mk [.pointer (some (.mk 1 0 (some 0))), .string nu, .bool mi, .int .i64 us, .int .i64 at0, .int .i64 ld] 109 false), some (.mk [.string s, .bool nb, .int .i64 w, .int .i64 dg, .int .i64 sc, .bool sg, .slice (some (.mk 2 0 (some 1))) k cap, .int .u8 dr, .int .i64 f, .bool cr, .int .u8 fl, .int .i64 fm] 84 false), some (.mk (rlbL [] d) 102 false)] else False else False else False else False else bif goodL [] d && true && true then R (Exit.exit 0) [.pointer (some (.mk 0 0 (some 0))), .int .i64 r2, .int .i64 r3, .int .i64 r4, .bool ze, .bool on, .slice (some (.mk 2 0 (some 1))) k2 cap2, .int .i64 L, .int .i64 i] [some (.mk [.pointer (some (.mk 1 0 (some 0))), .string nu, .bool mi, .int .i64 us, .int .i64 at0, .int .i64 ld] 109 false), some (.mk [.string s, .bool nb, .int .i64 w, .int .i64 dg, .int .i64 sc, .bool sg, .slice (some (.mk 2 0 (some 1))) k cap, .int .u8 dr, .int .i64 f, .bool cr, .int .u8 fl, .int .i64 fm] 84 false), some (.mk (rlbL [] d) 102 false)] else False) := by kernel_rfl
theorem l90_0 : ∀ t m n K, S90_0.hA t m n K → Ab.Sem Tryz.prog Tryz.f90.ntmps (.loop (loopOf Tryz.f90 0)) t m n K := by
 refine loop_specA ok_G32 hmix (by kernel_rfl) (lok_none _) S90_0 V90_0 B90_0 (fun (r2, r3, r4, ze, on, k2, cap2, L, i, s, nb, w, dg, sc, sg, k, cap, dr, f, cr, fl, fm, nu, mi, us, at0, ld, d) => (k2 - i).toNat) ?_ ?_ ?_
 ·intro vs bs s h
  simp only [S90_0] at h
  split at h
  all_goals first | (cases h; exact ⟨rfl, rfl⟩) | cases h | (split at h <;> first | (rename_i hq; cases h; have hq := Nat.eq_of_beq_eq_true hq; subst hq; exact ⟨rfl, rfl⟩) | cases h)
 ·exact fun ⟨r2, r3, r4, ze, on, k2, cap2, L, i, s, nb, w, dg, sc, sg, k, cap, dr, f, cr, fl, fm, nu, mi, us, at0, ld, d⟩ hp => by
   simp only [S90_0, Bool.and_eq_true] at hp
   have hr := rowIOK_iff.1 hp.1
   simp [V90_0, B90_0, S90_0, idsLt, idsLtB, idsL, ids, ids_plainL hr.plain]
 ·intro ⟨r2, r3, r4, ze, on, k2, cap2, L, i, s, nb, w, dg, sc, sg, k, cap, dr, f, cr, fl, fm, nu, mi, us, at0, ld, d⟩ jk Z hp hf
  rw [r90_0]
  simp only [S90_0] at hp hf
  simp only [Bool.and_eq_true, decide_eq_true_eq] at hp
  obtain ⟨hR, hp⟩ := hp
  have hr := rowIOK_iff.1 hR
  have hzl := zi_length hr
  have e0 : 0 + i.toNat * 1 = i.toNat := by omega
  rw [e0]
  simp only [hr.rlb]
  have hg : (goodL [] d && true && true) = true := by rw [hr.good]; rfl
  refine cond_intro (fun h => ?_) (fun h => ?_)
  ·have h := of_decide_eq_true h
   obtain ⟨a1, a3⟩ := hr.at hp.1 (by omega)
   rw [a3, enOn] at hf
   rw [a1, w64 (n := i + 1) (by omega)]
   generalize intAt d i.toNat = c at *
   refine c_t (decide_eq_true (by omega)) (c_t rfl (c_t (by simp) (cond_intro (fun z => c_t hg ?_) (fun z => c_t hg ?_))))
   ·rw [z, cond_true] at hf
    exact hf i
   ·rw [z, cond_false] at hf
    exact ⟨(r2, r3, r4, ze, on, k2, cap2, L, i + 1, s, nb, w, dg, sc, sg, k, cap, dr, f, cr, fl, fm, nu, mi, us, at0, ld, d), rfl, rfl, by simp only [S90_0, Bool.and_eq_true, decide_eq_true_eq]; exact ⟨hR, by omega, by omega, by omega, by omega, hp.2.2.2.2⟩, by simp only; omega, hf⟩
  ·have h := of_decide_eq_false h
   rw [hr.end (by omega), enOn] at hf
   rw [hp.2.2.2.2]
   exact c_t hg (hf i)
def V90_2 : Int × Int × Int × Bool × Nat × Nat × Int × Int × ByteArray × Bool × Int × Int × Int × Bool × Nat × Nat × Int × Int × Bool × Int × Int × ByteArray × Bool × Int × Int × Int × List Value → List Value := fun (r2, aa, kk, ze, k2, cap2, L, i, s, nb, w, dg, sc, sg, k, cap, dr, f, cr, fl, fm, nu, mi, us, at0, ld, d) => [.pointer (some ⟨0, 0, some 0⟩), I r2, I aa, I kk, B ze, .slice (some ⟨2, 0, some 1⟩) k2 cap2, I L, I i]
def B90_2 : Int × Int × Int × Bool × Nat × Nat × Int × Int × ByteArray × Bool × Int × Int × Int × Bool × Nat × Nat × Int × Int × Bool × Int × Int × ByteArray × Bool × Int × Int × Int × List Value → List (Option Blk) := fun (r2, aa, kk, ze, k2, cap2, L, i, s, nb, w, dg, sc, sg, k, cap, dr, f, cr, fl, fm, nu, mi, us, at0, ld, d) => [some ⟨[.pointer (some ⟨1, 0, some 0⟩), .string nu, .bool mi, .int .i64 us, .int .i64 at0, .int .i64 ld], 109, false⟩, some ⟨[.string s, .bool nb, .int .i64 w, .int .i64 dg, .int .i64 sc, .bool sg, .slice (some ⟨2, 0, some 1⟩) k cap, .int .u8 dr, .int .i64 f, .bool cr, .int .u8 fl, .int .i64 fm], 84, false⟩, some ⟨d, 102, false⟩]
def S90_2 : LSpecA (Int × Int × Int × Bool × Nat × Nat × Int × Int × ByteArray × Bool × Int × Int × Int × Bool × Nat × Nat × Int × Int × Bool × Int × Int × ByteArray × Bool × Int × Int × Int × List Value) where
 live := [0, 2, 3, 4, 5, 46, 47, 48]
 mid := [0, 1, 2]
 n := 140
 ap := []
 dec vs bs := match vs, bs with | [.pointer (some ⟨0, 0, some 0⟩), .int .i64 r2, .int .i64 aa, .int .i64 kk, .bool ze, .slice (some ⟨2, 0, some 1⟩) k2 cap2, .int .i64 L, .int .i64 i], [some ⟨[.pointer (some ⟨1, 0, some 0⟩), .string nu, .bool mi, .int .i64 us, .int .i64 at0, .int .i64 ld], 109, false⟩, some ⟨[.string s, .bool nb, .int .i64 w, .int .i64 dg, .int .i64 sc, .bool sg, .slice (some ⟨2, 0, some 1⟩) k cap, .int .u8 dr, .int .i64 f, .bool cr, .int .u8 fl, .int .i64 fm], 84, false⟩, some ⟨d, 102, false⟩] => some (r2, aa, kk, ze, k2, cap2, L, i, s, nb, w, dg, sc, sg, k, cap, dr, f, cr, fl, fm, nu, mi, us, at0, ld, d) | _, _ => none
 pre := fun (r2, aa, kk, ze, k2, cap2, L, i, s, nb, w, dg, sc, sg, k, cap, dr, f, cr, fl, fm, nu, mi, us, at0, ld, d) => rowIOK d k2 cap2 && decide (0 ≤ i ∧ i ≤ k2 ∧ k2 ≤ 1000 ∧ L = k2 ∧ 0 ≤ kk ∧ kk ≤ i ∧ 0 ≤ aa ∧ aa ≤ i ∧ kk + cn1 ((zc d k2).drop i.toNat) ≤ nu.size)
 fin := fun (r2, aa, kk, ze, k2, cap2, L, i, s, nb, w, dg, sc, sg, k, cap, dr, f, cr, fl, fm, nu, mi, us, at0, ld, d) Z => (∀ a' k' i', enGo ze fm ((zc d k2).drop i.toNat) ((bz nu).drop kk.toNat) aa = a' → 0 ≤ a' → Z .ret [.pointer (some ⟨0, 0, some 0⟩), I a', I a', I k', B ze, .slice (some ⟨2, 0, some 1⟩) k2 cap2, I L, I i'] [some ⟨[.pointer (some ⟨1, 0, some 0⟩), .string nu, .bool mi, .int .i64 us, .int .i64 at0, .int .i64 ld], 109, false⟩, some ⟨[.string s, .bool nb, .int .i64 w, .int .i64 dg, .int .i64 sc, .bool sg, .slice (some ⟨2, 0, some 1⟩) k cap, .int .u8 dr, .int .i64 f, .bool cr, .int .u8 fl, .int .i64 fm], 84, false⟩, some ⟨d, 102, false⟩]) ∧ (enGo ze fm ((zc d k2).drop i.toNat) ((bz nu).drop kk.toNat) aa = -1 → ∀ a' k' i', Z (.exit 2) [.pointer (some ⟨0, 0, some 0⟩), I r2, I a', I k', B ze, .slice (some ⟨2, 0, some 1⟩) k2 cap2, I L, I i'] [some ⟨[.pointer (some ⟨1, 0, some 0⟩), .string nu, .bool mi, .int .i64 us, .int .i64 at0, .int .i64 ld], 109, false⟩, some ⟨[.string s, .bool nb, .int .i64 w, .int .i64 dg, .int .i64 sc, .bool sg, .slice (some ⟨2, 0, some 1⟩) k cap, .int .u8 dr, .int .i64 f, .bool cr, .int .u8 fl, .int .i64 fm], 84, false⟩, some ⟨d, 102, false⟩])
theorem r90_2 (r2 : Int) (aa : Int) (kk : Int) (ze : Bool) (k2 : Nat) (cap2 : Nat) (L : Int) (i : Int) (s : ByteArray) (nb : Bool) (w : Int) (dg : Int) (sc : Int) (sg : Bool) (k : Nat) (cap : Nat) (dr : Int) (f : Int) (cr : Bool) (fl : Int) (fm : Int) (nu : ByteArray) (mi : Bool) (us : Int) (at0 : Int) (ld : Int) (d : List Value) (jk : Tmps) (R : Exit → List Value → List (Option Blk) → Prop) : (codeQ Tryz.prog G32 noL Tryz.f90.ntmps (loopOf Tryz.f90 2) (tl S90_2.live (V90_2 (r2, aa, kk, ze, k2, cap2, L, i, s, nb, w, dg, sc, sg, k, cap, dr, f, cr, fl, fm, nu, mi, us, at0, ld, d)) jk) (ml S90_2.mid (B90_2 (r2, aa, kk, ze, k2, cap2, L, i, s, nb, w, dg, sc, sg, k, cap, dr, f, cr, fl, fm, nu, mi, us, at0, ld, d))) S90_2.n fun e t' m' _ => S90_2.out R e t' m') = ( bif decide (i < L) then bif decide (0 ≤ i ∧ i < (↑k2 : Int)) then bif isIntAt IntKind.i64 d (0 + Int.toNat i * 1) then bif intAt d (0 + Int.toNat i * 1) == 0 then bif goodL [] d && true && true then R Exit.ret [.pointer (some (.mk 0 0 (some 0))), .int .i64 aa, .int .i64 aa, .int .i64 kk, .bool ze, .slice (some (.mk 2 0 (some 1))) k2 cap2, .int .i64 L, .int .i64 i] [some (.mk [.pointer (some (.mk 1 0 (some 0))), .string nu, .bool mi, .int .i64 us, .int .i64 at0, .int .i64 ld] 109 false), some (.mk [.string s, .bool nb, .int .i64 w, .int .i64 dg, .int .i64 sc, .bool sg, .slice (some (.mk 2 0 (some 1))) k cap, .int .u8 dr, .int .i64 f, .bool cr, .int .u8 fl, .int .i64 fm] 84 false), some (.mk (rlbL [] d) 102 false)] else False else bif intAt d (0 + Int.toNat i * 1) == 1 then bif decide (0 ≤ kk ∧ kk < (↑(ByteArray.size nu) : Int)) then bif byteAt nu (Int.toNat kk) != 48 then bif goodL [] d && true && true then R Exit.ret [.pointer (some (.mk 0 0 (some 0))), .int .i64 aa, .int .i64 aa, .int .i64 kk, .bool ze, .slice (some (.mk 2 0 (some 1))) k2 cap2, .int .i64 L, .int .i64 i] [some (.mk [.pointer (some (.mk 1 0 (some 0))), .string nu, .bool mi, .int .i64 us, .int .i64 at0, .int .i64 ld] 109 false), some (.mk [.string s, .bool nb, .int .i64 w, .int .i64 dg, .int .i64 sc, .bool sg, .slice (some (.mk 2 0 (some 1))) k cap, .int .u8 dr, .int .i64 f, .bool cr, .int .u8 fl, .int .i64 fm] 84 false), some (.mk (rlbL [] d) 102 false)] else False else bif goodL [] d && true && true then R Exit.normal [.pointer (some (.mk 0 0 (some 0))), .int .i64 r2, .int .i64 (IntKind.wrap .i64 (aa + 1)), .int .i64 (IntKind.wrap .i64 (kk + 1)), .bool ze, .slice (some (.mk 2 0 (some 1))) k2 cap2, .int .i64 L, .int .i64 (IntKind.wrap .i64 (i + 1))] [some (.mk [.pointer (some (.mk 1 0 (some 0))), .string nu, .bool mi, .int .i64 us, .int .i64 at0, .int .i64 ld] 109 false), some (.mk [.string s, .bool nb, .int .i64 w, .int .i64 dg, .int .i64 sc, .bool sg, .slice (some (.mk 2 0 (some 1))) k cap, .int .u8 dr, .int .i64 f, .bool cr, .int .u8 fl, .int .i64 fm] 84 false), some (.mk (rlbL [] d) 102 false)] else False else False else bif intAt d (0 + Int.toNat i * 1) == 2 then bif decide (fm > 0) || true then bif decide (fm > 0) || !ze then bif goodL [] d && true && true then R Exit.ret [.pointer (some (.mk 0 0 (some 0))), .int .i64 aa, .int .i64 aa, .int .i64 kk, .bool ze, .slice (some (.mk 2 0 (some 1))) k2 cap2, .int .i64 L, .int .i64 i] [some (.mk [.pointer (some (.mk 1 0 (some 0))), .string nu, .bool mi, .int .i64 us, .int .i64 at0, .int .i64 ld] 109 false), some (.mk [.string s, .bool nb, .int .i64 w, .int .i64 dg, .int .i64 sc, .bool sg, .slice (some (.mk 2 0 (some 1))) k cap, .int .u8 dr, .int .i64 f, .bool cr, .int .u8 fl, .int .i64 fm] 84 false), some (.mk (rlbL [] d) 102 false)] else False else bif goodL [] d && true && true then R Exit.normal [.pointer (some (.mk 0 0 (some 0))), .int .i64 r2, .int .i64 aa, .int .i64 kk, .bool ze, .slice (some (.mk 2 0 (some 1))) k2 cap2, .int .i64 L, .int .i64 (IntKind.wrap .i64 (i + 1))] [some (.mk [.pointer (some (.mk 1 0 (some 0))), .string nu, .bool mi, .int .i64 us, .int .i64 at0, .int .i64 ld] 109 false), some (.mk [.string s, .bool nb, .int .i64 w, .int .i64 dg, .int .i64 sc, .bool sg, .slice (some (.mk 2 0 (some 1))) k cap, .int .u8 dr, .int .i64 f, .bool cr, .int .u8 fl, .int .i64 fm] 84 false), some (.mk (rlbL [] d) 102 false)] else False else False else bif goodL [] d && true && true then R Exit.normal [.pointer (some (.mk 0 0 (some 0))), .int .i64 r2, .int .i64 (IntKind.wrap .i64 (aa + 1)), .int .i64 kk, .bool ze, .slice (some (.mk 2 0 (some 1))) k2 cap2, .int .i64 L, .int .i64 (IntKind.wrap .i64 (i + 1))] [some (.mk [.pointer (some (.mk 1 0 (some 0))), .string nu, .bool mi, .int .i64 us, .int .i64 at0, .int .i64 ld] 109 false), some (.mk [.string s, .bool nb, .int .i64 w, .int .i64 dg, .int .i64 sc, .bool sg, .slice (some (.mk 2 0 (some 1))) k cap, .int .u8 dr, .int .i64 f, .bool cr, .int .u8 fl, .int .i64 fm] 84 false), some (.mk (rlbL [] d) 102 false)] else False else False else False else bif goodL [] d && true && true then R (Exit.exit 2) [.pointer (some (.mk 0 0 (some 0))), .int .i64 r2, .int .i64 aa, .int .i64 kk, .bool ze, .slice (some (.mk 2 0 (some 1))) k2 cap2, .int .i64 L, .int .i64 i] [some (.mk [.pointer (some (.mk 1 0 (some 0))), .string nu, .bool mi, .int .i64 us, .int .i64 at0, .int .i64 ld] 109 false), some (.mk [.string s, .bool nb, .int .i64 w, .int .i64 dg, .int .i64 sc, .bool sg, .slice (some (.mk 2 0 (some 1))) k cap, .int .u8 dr, .int .i64 f, .bool cr, .int .u8 fl, .int .i64 fm] 84 false), some (.mk (rlbL [] d) 102 false)] else False) := by kernel_rfl
theorem l90_2 : ∀ t m n K, S90_2.hA t m n K → Ab.Sem Tryz.prog Tryz.f90.ntmps (.loop (loopOf Tryz.f90 2)) t m n K := by
 refine loop_specA ok_G32 hmix (by kernel_rfl) (lok_none _) S90_2 V90_2 B90_2 (fun (r2, aa, kk, ze, k2, cap2, L, i, s, nb, w, dg, sc, sg, k, cap, dr, f, cr, fl, fm, nu, mi, us, at0, ld, d) => (k2 - i).toNat) ?_ ?_ ?_
 ·intro vs bs s h
  simp only [S90_2] at h
  split at h
  all_goals first | (cases h; exact ⟨rfl, rfl⟩) | cases h | (split at h <;> first | (rename_i hq; cases h; have hq := Nat.eq_of_beq_eq_true hq; subst hq; exact ⟨rfl, rfl⟩) | cases h)
 ·exact fun ⟨r2, aa, kk, ze, k2, cap2, L, i, s, nb, w, dg, sc, sg, k, cap, dr, f, cr, fl, fm, nu, mi, us, at0, ld, d⟩ hp => by
   simp only [S90_2, Bool.and_eq_true] at hp
   have hr := rowIOK_iff.1 hp.1
   simp [V90_2, B90_2, S90_2, idsLt, idsLtB, idsL, ids, ids_plainL hr.plain]
 ·intro ⟨r2, aa, kk, ze, k2, cap2, L, i, s, nb, w, dg, sc, sg, k, cap, dr, f, cr, fl, fm, nu, mi, us, at0, ld, d⟩ jk Z hp hf
  rw [r90_2]
  simp only [S90_2] at hp hf
  simp only [Bool.and_eq_true, decide_eq_true_eq] at hp
  obtain ⟨hR, hp⟩ := hp
  have hr := rowIOK_iff.1 hR
  have hzl := zi_length hr
  have e0 : 0 + i.toNat * 1 = i.toNat := by omega
  rw [e0]
  simp only [hr.rlb]
  have hg : (goodL [] d && true && true) = true := by rw [hr.good]; rfl
  refine cond_intro (fun h => ?_) (fun h => ?_)
  ·have h := of_decide_eq_true h
   obtain ⟨a1, a3⟩ := hr.at hp.1 (by omega)
   rw [a3] at hp hf
   rw [enGo] at hf
   rw [cn1] at hp
   rw [a1, w64 (n := i + 1) (by omega)]
   have hc := cn1_nn ((zc d k2).drop (i + 1).toNat)
   generalize intAt d i.toNat = c at *
   refine c_t (decide_eq_true (by omega)) (c_t rfl (cond_intro (fun z => c_t hg ?_) (fun z => ?_)))
   ·rw [z, cond_true] at hf
    exact hf.1 aa kk i rfl (by omega)
   ·rw [z, cond_false] at hf
    refine cond_intro (fun z => ?_) (fun z => ?_)
    ·rw [z, cond_true] at hf hp
     obtain ⟨hp1, hp2, hp3, hp4, hp5, hp6, hp7, hp8⟩ := hp
     rw [bz_at hp5 (by omega), List.headD_cons, List.tail_cons] at hf
     refine c_t (decide_eq_true (by omega)) (cond_intro (fun z => c_t hg ?_) (fun z => c_t hg ?_))
     ·rw [z, cond_true] at hf
      exact hf.1 aa kk i rfl (by omega)
     ·rw [z, cond_false] at hf
      rw [w64 (n := aa + 1) (by omega), w64 (n := kk + 1) (by omega)]
      exact ⟨(r2, aa + 1, kk + 1, ze, k2, cap2, L, i + 1, s, nb, w, dg, sc, sg, k, cap, dr, f, cr, fl, fm, nu, mi, us, at0, ld, d), rfl, rfl, by simp only [S90_2, Bool.and_eq_true, decide_eq_true_eq]; exact ⟨hR, by omega⟩, by simp only; omega, hf⟩
    ·rw [z, cond_false] at hf hp
     refine cond_intro (fun z => c_t (by simp) (cond_intro (fun z2 => c_t hg ?_) (fun z2 => c_t hg ?_))) (fun z => c_t hg ?_)
     ·rw [z, cond_true, z2, cond_true] at hf
      exact hf.1 aa kk i rfl (by omega)
     ·rw [z, cond_true, z2, cond_false] at hf
      exact ⟨(r2, aa, kk, ze, k2, cap2, L, i + 1, s, nb, w, dg, sc, sg, k, cap, dr, f, cr, fl, fm, nu, mi, us, at0, ld, d), rfl, rfl, by simp only [S90_2, Bool.and_eq_true, decide_eq_true_eq]; exact ⟨hR, by omega⟩, by simp only; omega, hf⟩
     ·rw [z, cond_false] at hf
      rw [w64 (n := aa + 1) (by omega)]
      exact ⟨(r2, aa + 1, kk, ze, k2, cap2, L, i + 1, s, nb, w, dg, sc, sg, k, cap, dr, f, cr, fl, fm, nu, mi, us, at0, ld, d), rfl, rfl, by simp only [S90_2, Bool.and_eq_true, decide_eq_true_eq]; exact ⟨hR, by omega⟩, by simp only; omega, hf⟩
  ·have h := of_decide_eq_false h
   rw [hr.end (by omega), enGo] at hf
   exact c_t hg (hf.2 rfl aa kk i)
def pnL (x : Nat) (nu : ByteArray) (mi : Bool) (us at0 ld : Int) : List Value := [.pointer (some ⟨x, 0, some 0⟩), .string nu, .bool mi, .int .i64 us, .int .i64 at0, .int .i64 ld]
def vwF3 (p c d : List Value) : Lk := fun j => match Nat.beq j 0 with | true => some ⟨p, 109, false⟩ | false => match Nat.beq j 1 with | true => some ⟨c, 84, false⟩ | false => match Nat.beq j 2 with | true => some ⟨d, 102, false⟩ | false => none
def rho3 (a x y : Nat) : Nat → Nat := fun j => match j with | 0 => a | 1 => x | _ => y
theorem sub_F3 {m : Lk} {a x y k cap : Nat} {nu : ByteArray} {mi : Bool} {us at0 ld : Int} {s : ByteArray} {nb : Bool} {w d sc : Int} {sg : Bool} {dr f : Int} {cr : Bool} {fl fm : Int} {own own2 own3 : Bool} {r : List Value} (hr : plainL r = true)
  (hp : m a = some ⟨pnL x nu mi us at0 ld, 109, own⟩) (ha : m x = some ⟨fmL s nb w d sc sg y k cap dr f cr fl fm, 84, own2⟩) (hx : m y = some ⟨r, 102, own3⟩) :
  SubM m (rho3 a x y) (vwF3 (pnL 1 nu mi us at0 ld) (fmL s nb w d sc sg 2 k cap dr f cr fl fm) r) 3 := by
 have hget : ∀ j b, vwF3 (pnL 1 nu mi us at0 ld) (fmL s nb w d sc sg 2 k cap dr f cr fl fm) r j = some b → (j = 0 ∧ b = ⟨pnL 1 nu mi us at0 ld, 109, false⟩) ∨ (j = 1 ∧ b = ⟨fmL s nb w d sc sg 2 k cap dr f cr fl fm, 84, false⟩) ∨ (j = 2 ∧ b = ⟨r, 102, false⟩) := fun j b h => by
  simp only [vwF3] at h
  split at h
  ·rename_i h0; cases h; exact .inl ⟨Nat.eq_of_beq_eq_true h0, rfl⟩
  ·split at h
   ·rename_i h0; cases h; exact .inr (.inl ⟨Nat.eq_of_beq_eq_true h0, rfl⟩)
   ·split at h
    ·rename_i h0; cases h; exact .inr (.inr ⟨Nat.eq_of_beq_eq_true h0, rfl⟩)
    ·cases h
 refine ⟨fun j b h => ?_, fun j b h => ?_⟩
 ·rcases hget j b h with ⟨rfl, rfl⟩ | ⟨rfl, rfl⟩ | ⟨rfl, rfl⟩
  ·refine ⟨by omega, fun i hi => ?_⟩
   have : i = 1 := by simpa [pnL, idsL, ids] using hi
   omega
  ·refine ⟨by omega, fun i hi => ?_⟩
   have : i = 2 := by simpa [fmL, idsL, ids] using hi
   omega
  ·exact ⟨by omega, fun i hi => by rw [ids_plainL hr] at hi; cases hi⟩
 ·rcases hget j b h with ⟨rfl, rfl⟩ | ⟨rfl, rfl⟩ | ⟨rfl, rfl⟩
  ·refine ⟨rfl, ⟨pnL x nu mi us at0 ld, 109, own⟩, ?_, fun ι => ?_⟩
   ·show noIt (m a) = _
    rw [hp]
    simp only [noIt]
    have : (own && Nat.beq 109 itTy) = false := by cases own <;> rfl
    rw [this]
   ·simp [pnL, ren, ren1, rho3]
  ·refine ⟨rfl, ⟨fmL s nb w d sc sg y k cap dr f cr fl fm, 84, own2⟩, ?_, fun ι => ?_⟩
   ·show noIt (m x) = _
    rw [ha]
    simp only [noIt]
    have : (own2 && Nat.beq 84 itTy) = false := by cases own2 <;> rfl
    rw [this]
   ·simp [fmL, ren, ren1, rho3]
  ·refine ⟨rfl, ⟨r, 102, own3⟩, ?_, fun ι => renMap_congr fun k hk => by rw [ids_plainL hr] at hk; cases hk⟩
   show noIt (m y) = _
   rw [hx]
   simp only [noIt]
   have : (own3 && Nat.beq 102 itTy) = false := by cases own3 <;> rfl
   rw [this]
theorem fn90 : Fn1 Tryz.prog 90 Tryz.f90 := ⟨Tryz.func90, by kernel_rfl, by kernel_rfl, by kernel_rfl⟩
theorem lok90 : LOKf Tryz.prog (twoL 0 S90_0.hA 2 S90_2.hA) Tryz.f90 := lokf_two (by kernel_rfl) (by kernel_rfl) l90_0 l90_2
def enV (nu : List Int) (fm : Int) (ro : List Int) : Int := bif enOn ro then enGo (trimZ nu [48]).isEmpty fm ro nu 0 else 0
theorem v90 (s : ByteArray) (nb : Bool) (w : Int) (dg : Int) (sc : Int) (sg : Bool) (k : Nat) (cap : Nat) (dr : Int) (f : Int) (cr : Bool) (fl : Int) (fm : Int) (nu : ByteArray) (mi : Bool) (us : Int) (at0 : Int) (ld : Int) (d : List Value) (R : Value → Prop) : (bodyQ Tryz.prog G32 (twoL 0 S90_0.hA 2 S90_2.hA) Tryz.f90 [.pointer (some ⟨0, 0, some 0⟩)] (vwF3 (pnL 1 nu mi us at0 ld) (fmL s nb w dg sc sg 2 k cap dr f cr fl fm) d) 3 (fun v _ _ => R v)) = ( bif decide (ByteArray.size nu ≤ 1000) && (decide (ByteArray.size (ByteArray.mk #[48]) ≤ 1000) && asc (bz (ByteArray.mk #[48]))) then bif goodL [] d && true && true && (idsLt 100 (rlbL [] d) && true) then bif LSpec.pre (LSpecA.toLSpec S90_0) (0, 0, 0, ByteArray.toList (szO (trimZ (bz nu) (bz (ByteArray.mk #[48])))) == ByteArray.toList (ByteArray.mk #[]), false, k, cap, natO k, 0, s, nb, w, dg, sc, sg, k, cap, dr, f, cr, fl, fm, nu, mi, us, at0, ld, rlbL [] d) then ∀ (i' : Int), bif idsLt 100 (rlbL [] d) && true then ∀ (x : Tmps), bif !enOn (List.drop (Int.toNat 0) (zc (rlbL [] d) k)) then R (.int .i64 0) else bif goodL [] (rlbL [] d) && true && true && (idsLt 140 (rlbL [] (rlbL [] d)) && true) then bif LSpec.pre (LSpecA.toLSpec S90_2) (0, 0, 0, ByteArray.toList (szO (trimZ (bz nu) (bz (ByteArray.mk #[48])))) == ByteArray.toList (ByteArray.mk #[]), k, cap, natO k, 0, s, nb, w, dg, sc, sg, k, cap, dr, f, cr, fl, fm, nu, mi, us, at0, ld, rlbL [] (rlbL [] d)) then (∀ (a' k' i' : Int), enGo (ByteArray.toList (szO (trimZ (bz nu) (bz (ByteArray.mk #[48])))) == ByteArray.toList (ByteArray.mk #[])) fm (List.drop (Int.toNat 0) (zc (rlbL [] (rlbL [] d)) k)) (List.drop (Int.toNat 0) (bz nu)) 0 = a' → 0 ≤ a' → bif idsLt 140 (rlbL [] (rlbL [] d)) && true then ∀ (x : Tmps), R (.int .i64 a') else False) ∧ (enGo (ByteArray.toList (szO (trimZ (bz nu) (bz (ByteArray.mk #[48])))) == ByteArray.toList (ByteArray.mk #[])) fm (List.drop (Int.toNat 0) (zc (rlbL [] (rlbL [] d)) k)) (List.drop (Int.toNat 0) (bz nu)) 0 = -1 → ∀ (a' k' i' : Int), bif idsLt 140 (rlbL [] (rlbL [] d)) && true then ∀ (x : Tmps), R (.int .i64 (-1)) else False) else False else False else False else False else False else False) := by kernel_rfl
theorem w90 (s : ByteArray) (nb : Bool) (w : Int) (dg : Int) (sc : Int) (sg : Bool) (k : Nat) (cap : Nat) (dr : Int) (f : Int) (cr : Bool) (fl : Int) (fm : Int) (nu : ByteArray) (mi : Bool) (us : Int) (at0 : Int) (ld : Int) (d : List Value) (hR : rowIOK d k cap = true) (hk : k ≤ 1000) (hn : nu.size ≤ 1000) (hc : cn1 (zc d k) ≤ nu.size) {R : Value → Prop} (hr : R (.int .i64 (enV (bz nu) fm (zc d k)))) :
  DoesM Tryz.prog G32 (twoL 0 S90_0.hA 2 S90_2.hA) Tryz.f90 [.pointer (some ⟨0, 0, some 0⟩)] (vwF3 (pnL 1 nu mi us at0 ld) (fmL s nb w dg sc sg 2 k cap dr f cr fl fm) d) 3 (fun v _ _ => R v) := by
 rw [DoesM, v90]
 have h := rowIOK_iff.1 hR
 have k1 : bz ⟨#[48]⟩ = [48] := rfl
 have e1 : (ByteArray.toList (szO (trimZ (bz nu) (bz (ByteArray.mk #[48])))) == ByteArray.toList (ByteArray.mk #[])) = (trimZ (bz nu) [48]).isEmpty := by
  rw [szO_eq, toList_nil, bz_sz (trim_isB (bz_isB nu)), k1]
 have z0 : Int.toNat 0 = 0 := rfl
 simp only [h.rlb, e1, z0, List.drop_zero]
 have hg : ∀ n, (goodL [] d && true && true && (idsLt n d && true)) = true := fun n => by rw [h.good]; simp [idsLt, idsL, ids_plainL h.plain]
 have hi : ∀ n, (idsLt n d && true) = true := fun n => by simp [idsLt, idsL, ids_plainL h.plain]
 have c1 : (decide (ByteArray.size (ByteArray.mk #[48]) ≤ 1000) && asc (bz (ByteArray.mk #[48]))) = true := by kernel_rfl
 have c2 : (decide (nu.size ≤ 1000) && (decide (ByteArray.size (ByteArray.mk #[48]) ≤ 1000) && asc (bz (ByteArray.mk #[48])))) = true := by rw [c1, decide_eq_true hn]; rfl
 refine c_t c2 (c_t (hg _) (c_t ?_ fun i' => c_t (hi _) fun _ => cond_intro (fun ho => ?_) (fun ho => c_t (hg _) (c_t ?_ ⟨fun a' k' i' ha h0 => c_t (hi _) fun _ => ?_, fun ha a' k' i' => c_t (hi _) fun _ => ?_⟩))))
 ·simp only [S90_0, Bool.and_eq_true, decide_eq_true_eq, natO_eq]
  exact ⟨hR, by omega, by omega, by omega, trivial, trivial⟩
 ·rw [Bool.not_eq_true'] at ho
  rw [enV, ho] at hr
  exact hr
 ·simp only [S90_2, Bool.and_eq_true, decide_eq_true_eq, natO_eq, z0, List.drop_zero]
  exact ⟨hR, by omega, by omega, by omega, trivial, by omega, by omega, by omega, by omega, by omega⟩
 ·rw [Bool.not_eq_false'] at ho
  rw [enV, ho, cond_true, ha] at hr
  exact hr
 ·rw [Bool.not_eq_false'] at ho
  rw [enV, ho, cond_true, ha] at hr
  exact hr
def h90 : List Value → Lk → Nat → (Value → Lk → Nat → Prop) → Prop := fun args m n K => match args with
 | [.pointer (some ⟨a, 0, some 0⟩)] => match m a with
  | some ⟨[.pointer (some ⟨x, 0, some 0⟩), .string nu, .bool mi, .int .i64 us, .int .i64 at0, .int .i64 ld], 109, own⟩ => match m x with
   | some ⟨[.string s, .bool nb, .int .i64 w, .int .i64 dg, .int .i64 sc, .bool sg, .slice (some ⟨y, 0, some 1⟩) k cap, .int .u8 dr, .int .i64 f, .bool cr, .int .u8 fl, .int .i64 fm], 84, own2⟩ => match m y with
    | some ⟨d, 102, own3⟩ =>
     match cnd (rowIOK d k cap && decide (k ≤ 1000 ∧ nu.size ≤ 1000 ∧ cn1 (zc d k) ≤ nu.size)) with
     | true => K (.int .i64 (enV (bz nu) fm (zc d k))) m n
     | false => False
    | _ => False
   | _ => False
  | _ => False
 | _ => False
theorem h90_ok : GenOK Tryz.prog 90 h90 := by
 refine gen_sub ok_G32 hmix fn90 lok90 fun args m n K h => ?_
 unfold h90 at h
 split at h
 case h_2 => exact h.elim
 rename_i a
 split at h
 case h_2 => exact h.elim
 rename_i x nu mi us at0 ld own hm
 split at h
 case h_2 => exact h.elim
 rename_i s nb w dg sc sg y k cap dr f cr fl fm own2 hx
 split at h
 case h_2 => exact h.elim
 rename_i d own3 hy
 split at h
 case h_2 => exact h.elim
 rename_i hc
 simp only [cnd, Bool.and_eq_true, decide_eq_true_eq] at hc
 obtain ⟨h1, h2, h3, h4⟩ := hc
 refine ⟨[.pointer (some ⟨0, 0, some 0⟩)], _, 3, rho3 a x y, .int .i64 (enV (bz nu) fm (zc d k)), sub_F3 (rowIOK_iff.1 h1).plain hm hx hy, fun ι => by simp [ren, ren1, rho3], Nat.le_of_ble_eq_true (by kernel_rfl), fun v hv j hj => ?_, rfl, w90 s nb w dg sc sg k cap dr f cr fl fm nu mi us at0 ld d h1 h2 h3 h4 (R := fun v => v = .int .i64 (enV (bz nu) fm (zc d k))) rfl, h⟩
 simp at hv
 subst hv
 have : j = 0 := by simpa [ids] using hj
 omega
end Go.Px
end
noncomputable section
set_option maxHeartbeats 3200000
namespace Go.Px
open Go Go.Ab Go.Proofs Go.Shelf
def G33 : Env := G32.addG 90 h90
def G34 : Env := G33.addG 123 (inlQ Tryz.prog G33 noL Tryz.f123)
def G35 : Env := ((((G34.addG 91 (inlQ Tryz.prog G34 noL Tryz.f91)).addG 92 (inlQ Tryz.prog G34 noL Tryz.f92)).addG 93 (inlQ Tryz.prog G34 noL Tryz.f93)).addG 94 (inlQ Tryz.prog G34 noL Tryz.f94)).addG 95 (inlQ Tryz.prog G34 noL Tryz.f95)
theorem fn123 : Fn1 Tryz.prog 123 Tryz.f123 := ⟨Tryz.func123, by kernel_rfl, by kernel_rfl, by kernel_rfl⟩
theorem fn91 : Fn1 Tryz.prog 91 Tryz.f91 := ⟨Tryz.func91, by kernel_rfl, by kernel_rfl, by kernel_rfl⟩
theorem fn92 : Fn1 Tryz.prog 92 Tryz.f92 := ⟨Tryz.func92, by kernel_rfl, by kernel_rfl, by kernel_rfl⟩
theorem fn93 : Fn1 Tryz.prog 93 Tryz.f93 := ⟨Tryz.func93, by kernel_rfl, by kernel_rfl, by kernel_rfl⟩
theorem fn94 : Fn1 Tryz.prog 94 Tryz.f94 := ⟨Tryz.func94, by kernel_rfl, by kernel_rfl, by kernel_rfl⟩
theorem fn95 : Fn1 Tryz.prog 95 Tryz.f95 := ⟨Tryz.func95, by kernel_rfl, by kernel_rfl, by kernel_rfl⟩
theorem fn64 : Fn1 Tryz.prog 64 Tryz.f64 := ⟨Tryz.func64, by kernel_rfl, by kernel_rfl, by kernel_rfl⟩
theorem ok_G33 : EnvOK Tryz.prog G33 := env_addG ok_G32 h90_ok
theorem ok_G34 : EnvOK Tryz.prog G34 := env_addG ok_G33 (gen_inlQ ok_G33 hmix fn123 lokf_none)
theorem ok_G35 : EnvOK Tryz.prog G35 := env_addG (env_addG (env_addG (env_addG (env_addG ok_G34 (gen_inlQ ok_G34 hmix fn91 lokf_none)) (gen_inlQ ok_G34 hmix fn92 lokf_none)) (gen_inlQ ok_G34 hmix fn93 lokf_none)) (gen_inlQ ok_G34 hmix fn94 lokf_none)) (gen_inlQ ok_G34 hmix fn95 lokf_none)
def wrC (f : Int) (cr : Bool) (n : Int) (mi : Bool) (ld fl : Int) (r c d i a : Int) : Int :=
 bif i == f then fl else bif cr && decide (i ≥ n - 2) then (bif !mi then 32 else c)
 else bif decide (r = 0) then fmZ c d mi else bif decide (r = 1) then (bif decide (a < ld) then fl else d)
 else bif decide (r = 3) then (bif c == 66 then 32 else bif decide (a < ld) then fl else c)
 else bif decide (r = 4) then (bif c == 83 && mi then 45 else bif c == 83 then 43 else bif (c == 43) == mi then 32 else c) else c
def wrT (f : Int) (cr : Bool) (n : Int) (r i : Int) : Bool := !(i == f) && (!(cr && decide (i ≥ n - 2)) && (decide (r = 0) || decide (r = 1)))
def wrGo (f : Int) (cr : Bool) (n : Int) (mi : Bool) (ld fl : Int) : List Int → List Int → List Int → Int → Int → List Int
 | [], _, _, _, _ => []
 | r :: rs, cs, ds, i, a => bif r == 2 then wrGo f cr n mi ld fl rs cs.tail ds (i + 1) a
  else wrC f cr n mi ld fl r (cs.headD 0) (ds.headD 0) i a :: wrGo f cr n mi ld fl rs cs.tail (bif wrT f cr n r i then ds.tail else ds) (i + 1) (a + 1)
def cdg : List Int → Int
 | [] => 0
 | r :: rs => (bif decide (r = 0) || decide (r = 1) then 1 else 0) + cdg rs
def roOK (l : List Int) : Bool := l.all fun r => decide (0 ≤ r ∧ r < 6)
def isHow : List Value → Bool
 | [.func (.func a) ⟨[]⟩ ⟨[]⟩, .func (.func b) ⟨[]⟩ ⟨[]⟩, .nilFunc, .func (.func c) ⟨[]⟩ ⟨[]⟩, .func (.func d) ⟨[]⟩ ⟨[]⟩, .func (.func e) ⟨[]⟩ ⟨[]⟩] => Nat.beq a 91 && (Nat.beq b 92 && (Nat.beq c 93 && (Nat.beq d 94 && Nat.beq e 95)))
 | _ => false
def how : List Value := [.func (.func 91) ⟨[]⟩ ⟨[]⟩, .func (.func 92) ⟨[]⟩ ⟨[]⟩, .nilFunc, .func (.func 93) ⟨[]⟩ ⟨[]⟩, .func (.func 94) ⟨[]⟩ ⟨[]⟩, .func (.func 95) ⟨[]⟩ ⟨[]⟩]
theorem isHow_eq {l : List Value} (h : isHow l = true) : l = how := by
 unfold isHow at h
 split at h
 ·simp only [Bool.and_eq_true, Nat.beq_eq] at h
  obtain ⟨rfl, rfl, rfl, rfl, rfl⟩ := h
  rfl
 ·cases h
theorem cdg_nn : ∀ l, 0 ≤ cdg l
 | [] => by simp [cdg]
 | r :: rs => by have := cdg_nn rs; rw [cdg]; cases decide (r = 0) || decide (r = 1) <;> simp <;> omega
theorem cdg_c {r : Int} {rs : List Int} : cdg rs ≤ cdg (r :: rs) := by rw [cdg]; cases decide (r = 0) || decide (r = 1) <;> simp <;> omega
theorem cdg_1 {r : Int} {rs : List Int} (h : r = 0 ∨ r = 1) : cdg (r :: rs) = 1 + cdg rs := by rw [cdg]; rcases h with rfl | rfl <;> rfl
theorem roOK_at {l : List Int} (h : roOK l = true) {j : Nat} {r : Int} {rs : List Int} (hj : l.drop j = r :: rs) : 0 ≤ r ∧ r < 6 := by
 simp only [roOK, List.all_eq_true, decide_eq_true_eq] at h
 exact h r (List.drop_subset j l (by rw [hj]; exact List.mem_cons_self))
theorem dgb_at {s : ByteArray} (h : dgL (bz s) = true) {j : Int} (h0 : 0 ≤ j) (hj : j < s.size) : 48 ≤ byteAt s j.toNat ∧ byteAt s j.toNat ≤ 57 := by
 simp only [dgL, List.all_eq_true, decide_eq_true_eq] at h
 exact h _ (List.drop_subset j.toNat (bz s) (by rw [bz_at h0 hj]; exact List.mem_cons_self))
theorem fm_a {c d : Int} {m : Bool} (h : (c == 89 && d == 48) = true) : fmZ c d m = 32 := by
 have : c = 89 ∧ d = 48 := by simpa using h
 rw [fmZ, if_pos this]
theorem fm_b {c d : Int} {m : Bool} (h : (c == 89 && d == 48) = false) (q : (c == 84 || bif c == 73 then !m || c == 82 && m else c == 82 && m) = true) : fmZ c d m = puZ (d - 48) m := by
 have h1 : ¬ (c = 89 ∧ d = 48) := fun e => by rw [e.1, e.2] at h; cases h
 rw [fmZ, if_neg h1, if_pos]
 cases m <;> by_cases a : c = 84 <;> by_cases b : c = 73 <;> by_cases e : c = 82 <;> simp_all
theorem fm_c {c d : Int} {m : Bool} (h : (c == 89 && d == 48) = false) (q : (c == 84 || bif c == 73 then !m || c == 82 && m else c == 82 && m) = false) : fmZ c d m = d := by
 have h1 : ¬ (c = 89 ∧ d = 48) := fun e => by rw [e.1, e.2] at h; cases h
 rw [fmZ, if_neg h1, if_neg]
 cases m <;> by_cases a : c = 84 <;> by_cases b : c = 73 <;> by_cases e : c = 82 <;> simp_all
def V64_0 : Bool × ByteArray × Int × Rw × Nat × Nat × Int × Int × ByteArray × Bool × Int × Int × Int × Bool × Nat × Nat × Int × Int × Bool × Int × Int × ByteArray × Bool × Int × Int × Int × List Value → List Value := fun (m2, r6, r7, o, k2, cap2, L, i, s, nb, w, dg, sc, sg, k, cap, dr, f, cr, fl, fm, nu, mi, us, at0, ld, d) => [.pointer (some ⟨0, 0, some 0⟩), .bool m2, .string r6, .int .i64 r7, .pointer (some ⟨8, 0, some 0⟩), .pointer (some ⟨22, 0, some 0⟩), o.v 200, .slice (some ⟨1, 0, some 1⟩) k2 cap2, .int .i64 L, .int .i64 i]
def B64_0 : Bool × ByteArray × Int × Rw × Nat × Nat × Int × Int × ByteArray × Bool × Int × Int × Int × Bool × Nat × Nat × Int × Int × Bool × Int × Int × ByteArray × Bool × Int × Int × Int × List Value → List (Option Blk) := fun (m2, r6, r7, o, k2, cap2, L, i, s, nb, w, dg, sc, sg, k, cap, dr, f, cr, fl, fm, nu, mi, us, at0, ld, d) => [some ⟨[.string s, .bool nb, .int .i64 w, .int .i64 dg, .int .i64 sc, .bool sg, .slice (some ⟨1, 0, some 1⟩) k cap, .int .u8 dr, .int .i64 f, .bool cr, .int .u8 fl, .int .i64 fm], 84, false⟩, some ⟨d, 102, false⟩, some ⟨[.pointer (some ⟨0, 0, some 0⟩), .string nu, .bool mi, .int .i64 us, .int .i64 at0, .int .i64 ld], 109, true⟩, some ⟨how, 112, true⟩, o.b]
def S64_0 : LSpecA (Bool × ByteArray × Int × Rw × Nat × Nat × Int × Int × ByteArray × Bool × Int × Int × Int × Bool × Nat × Nat × Int × Int × Bool × Int × Int × ByteArray × Bool × Int × Int × Int × List Value) where
 live := [0, 2, 6, 7, 8, 9, 10, 49, 50, 51]
 mid := [0, 1, 8, 22, 200]
 n := 210
 ap := [(.tmp 10, 200)]
 dec vs bs := match vs, bs with | [.pointer (some ⟨0, 0, some 0⟩), .bool m2, .string r6, .int .i64 r7, .pointer (some ⟨8, 0, some 0⟩), .pointer (some ⟨22, 0, some 0⟩), .slice none 0 0, .slice (some ⟨1, 0, some 1⟩) k2 cap2, .int .i64 L, .int .i64 i], [some ⟨[.string s, .bool nb, .int .i64 w, .int .i64 dg, .int .i64 sc, .bool sg, .slice (some ⟨1, 0, some 1⟩) k cap, .int .u8 dr, .int .i64 f, .bool cr, .int .u8 fl, .int .i64 fm], 84, false⟩, some ⟨d, 102, false⟩, some ⟨[.pointer (some ⟨0, 0, some 0⟩), .string nu, .bool mi, .int .i64 us, .int .i64 at0, .int .i64 ld], 109, true⟩, some ⟨hw, 112, true⟩, none] => (match isHow hw with | true => some (m2, r6, r7, .nil, k2, cap2, L, i, s, nb, w, dg, sc, sg, k, cap, dr, f, cr, fl, fm, nu, mi, us, at0, ld, d) | false => none) | [.pointer (some ⟨0, 0, some 0⟩), .bool m2, .string r6, .int .i64 r7, .pointer (some ⟨8, 0, some 0⟩), .pointer (some ⟨22, 0, some 0⟩), .slice (some ⟨200, 0, some 1⟩) om oc, .slice (some ⟨1, 0, some 1⟩) k2 cap2, .int .i64 L, .int .i64 i], [some ⟨[.string s, .bool nb, .int .i64 w, .int .i64 dg, .int .i64 sc, .bool sg, .slice (some ⟨1, 0, some 1⟩) k cap, .int .u8 dr, .int .i64 f, .bool cr, .int .u8 fl, .int .i64 fm], 84, false⟩, some ⟨d, 102, false⟩, some ⟨[.pointer (some ⟨0, 0, some 0⟩), .string nu, .bool mi, .int .i64 us, .int .i64 at0, .int .i64 ld], 109, true⟩, some ⟨hw, 112, true⟩, some ⟨od, 5, true⟩] => (match isHow hw with | true => some (m2, r6, r7, .own od om oc, k2, cap2, L, i, s, nb, w, dg, sc, sg, k, cap, dr, f, cr, fl, fm, nu, mi, us, at0, ld, d) | false => none) | _, _ => none
 pre := fun (m2, r6, r7, o, k2, cap2, L, i, s, nb, w, dg, sc, sg, k, cap, dr, f, cr, fl, fm, nu, mi, us, at0, ld, d) => o.ok && (rowIOK d k2 cap2 && (roOK (zc d k2) && (dgL (bz nu) && decide (m2 = mi ∧ 0 ≤ i ∧ i ≤ k2 ∧ k2 ≤ 1000 ∧ L = k2 ∧ k2 ≤ s.size ∧ s.size ≤ 1000 ∧ 0 ≤ us ∧ us ≤ i ∧ 0 ≤ at0 ∧ at0 ≤ i ∧ us + cdg ((zc d k2).drop i.toNat) ≤ nu.size ∧ o.z.length ≤ i))))
 fin := fun (m2, r6, r7, o, k2, cap2, L, i, s, nb, w, dg, sc, sg, k, cap, dr, f, cr, fl, fm, nu, mi, us, at0, ld, d) Z => (o.is = false → wrGo f cr s.size mi ld fl ((zc d k2).drop i.toNat) ((bz s).drop i.toNat) ((bz nu).drop us.toNat) i at0 = [] → ∀ us' at' i', Z (.exit 0) [.pointer (some ⟨0, 0, some 0⟩), .bool m2, .string r6, .int .i64 r7, .pointer (some ⟨8, 0, some 0⟩), .pointer (some ⟨22, 0, some 0⟩), .slice none 0 0, .slice (some ⟨1, 0, some 1⟩) k2 cap2, .int .i64 L, .int .i64 i'] [some ⟨[.string s, .bool nb, .int .i64 w, .int .i64 dg, .int .i64 sc, .bool sg, .slice (some ⟨1, 0, some 1⟩) k cap, .int .u8 dr, .int .i64 f, .bool cr, .int .u8 fl, .int .i64 fm], 84, false⟩, some ⟨d, 102, false⟩, some ⟨[.pointer (some ⟨0, 0, some 0⟩), .string nu, .bool mi, .int .i64 us', .int .i64 at', .int .i64 ld], 109, true⟩, some ⟨how, 112, true⟩, none]) ∧ (∀ us' at' i' od' om' oc', rowOK od' om' oc' = true → zc od' om' = o.z ++ wrGo f cr s.size mi ld fl ((zc d k2).drop i.toNat) ((bz s).drop i.toNat) ((bz nu).drop us.toNat) i at0 → Z (.exit 0) [.pointer (some ⟨0, 0, some 0⟩), .bool m2, .string r6, .int .i64 r7, .pointer (some ⟨8, 0, some 0⟩), .pointer (some ⟨22, 0, some 0⟩), .slice (some ⟨200, 0, some 1⟩) om' oc', .slice (some ⟨1, 0, some 1⟩) k2 cap2, .int .i64 L, .int .i64 i'] [some ⟨[.string s, .bool nb, .int .i64 w, .int .i64 dg, .int .i64 sc, .bool sg, .slice (some ⟨1, 0, some 1⟩) k cap, .int .u8 dr, .int .i64 f, .bool cr, .int .u8 fl, .int .i64 fm], 84, false⟩, some ⟨d, 102, false⟩, some ⟨[.pointer (some ⟨0, 0, some 0⟩), .string nu, .bool mi, .int .i64 us', .int .i64 at', .int .i64 ld], 109, true⟩, some ⟨how, 112, true⟩, some ⟨od', 5, true⟩])
theorem r64_0n (m2 : Bool) (r6 : ByteArray) (r7 : Int) (k2 : Nat) (cap2 : Nat) (L : Int) (i : Int) (s : ByteArray) (nb : Bool) (w : Int) (dg : Int) (sc : Int) (sg : Bool) (k : Nat) (cap : Nat) (dr : Int) (f : Int) (cr : Bool) (fl : Int) (fm : Int) (nu : ByteArray) (mi : Bool) (us : Int) (at0 : Int) (ld : Int) (d : List Value) (jk : Tmps) (R : Exit → List Value → List (Option Blk) → Prop) : (codeQ Tryz.prog G35 noL Tryz.f64.ntmps (loopOf Tryz.f64 0) (tl S64_0.live (V64_0 (m2, r6, r7, .nil, k2, cap2, L, i, s, nb, w, dg, sc, sg, k, cap, dr, f, cr, fl, fm, nu, mi, us, at0, ld, d)) jk) (ml S64_0.mid (B64_0 (m2, r6, r7, .nil, k2, cap2, L, i, s, nb, w, dg, sc, sg, k, cap, dr, f, cr, fl, fm, nu, mi, us, at0, ld, d))) S64_0.n fun e t' m' _ => S64_0.out R e t' m') = ( bif decide (i < L) then bif decide (0 ≤ i ∧ i < (↑k2 : Int)) then bif isIntAt IntKind.i64 d (0 + Int.toNat i * 1) then bif decide (0 ≤ i ∧ i < (↑(ByteArray.size s) : Int)) then bif intAt d (0 + Int.toNat i * 1) == 2 then bif goodL [] d && true && true then R Exit.normal [.pointer (some (.mk 0 0 (some 0))), .bool m2, .string r6, .int .i64 r7, .pointer (some (.mk 8 0 (some 0))), .pointer (some (.mk 22 0 (some 0))), .slice none 0 0, .slice (some (.mk 1 0 (some 1))) k2 cap2, .int .i64 L, .int .i64 (IntKind.wrap .i64 (i + 1))] [some (.mk [.string s, .bool nb, .int .i64 w, .int .i64 dg, .int .i64 sc, .bool sg, .slice (some (.mk 1 0 (some 1))) k cap, .int .u8 dr, .int .i64 f, .bool cr, .int .u8 fl, .int .i64 fm] 84 false), some (.mk (rlbL [] d) 102 false), some (.mk [.pointer (some (.mk 0 0 (some 0))), .string nu, .bool mi, .int .i64 us, .int .i64 at0, .int .i64 ld] 109 true), some (.mk [Value.func (Fn.func 91) (.mk []) (.mk []), Value.func (Fn.func 92) (.mk []) (.mk []), Value.nilFunc, Value.func (Fn.func 93) (.mk []) (.mk []), Value.func (Fn.func 94) (.mk []) (.mk []), Value.func (Fn.func 95) (.mk []) (.mk [])] 112 true), none] else False else bif i == f then ∀ (cap_1 : Nat) (tail : List Value), tailOK tail cap_1 1 1 = true → bif goodL [(240, 200)] d && (goodL [(240, 200)] (.int .u8 fl :: tail) && true) && true then R Exit.normal [.pointer (some (.mk 0 0 (some 0))), .bool m2, .string r6, .int .i64 r7, .pointer (some (.mk 8 0 (some 0))), .pointer (some (.mk 22 0 (some 0))), .slice (some (.mk 200 0 (some 1))) 1 cap_1, .slice (some (.mk 1 0 (some 1))) k2 cap2, .int .i64 L, .int .i64 (IntKind.wrap .i64 (i + 1))] [some (.mk [.string s, .bool nb, .int .i64 w, .int .i64 dg, .int .i64 sc, .bool sg, .slice (some (.mk 1 0 (some 1))) k cap, .int .u8 dr, .int .i64 f, .bool cr, .int .u8 fl, .int .i64 fm] 84 false), some (.mk (rlbL [(240, 200)] d) 102 false), some (.mk [.pointer (some (.mk 0 0 (some 0))), .string nu, .bool mi, .int .i64 us, .int .i64 (IntKind.wrap .i64 (at0 + 1)), .int .i64 ld] 109 true), some (.mk [Value.func (Fn.func 91) (.mk []) (.mk []), Value.func (Fn.func 92) (.mk []) (.mk []), Value.nilFunc, Value.func (Fn.func 93) (.mk []) (.mk []), Value.func (Fn.func 94) (.mk []) (.mk []), Value.func (Fn.func 95) (.mk []) (.mk [])] 112 true), some (.mk (rlbL [(240, 200)] (.int .u8 fl :: tail)) 5 true)] else False else bif cr || true then bif cr && decide (i ≥ IntKind.wrap .i64 ((↑(ByteArray.size s) : Int) - 2)) then bif !m2 then ∀ (cap_1 : Nat) (tail : List Value), tailOK tail cap_1 1 1 = true → bif goodL [(256, 200)] d && (goodL [(256, 200)] (.int .u8 32 :: tail) && true) && true then R Exit.normal [.pointer (some (.mk 0 0 (some 0))), .bool m2, .string r6, .int .i64 r7, .pointer (some (.mk 8 0 (some 0))), .pointer (some (.mk 22 0 (some 0))), .slice (some (.mk 200 0 (some 1))) 1 cap_1, .slice (some (.mk 1 0 (some 1))) k2 cap2, .int .i64 L, .int .i64 (IntKind.wrap .i64 (i + 1))] [some (.mk [.string s, .bool nb, .int .i64 w, .int .i64 dg, .int .i64 sc, .bool sg, .slice (some (.mk 1 0 (some 1))) k cap, .int .u8 dr, .int .i64 f, .bool cr, .int .u8 fl, .int .i64 fm] 84 false), some (.mk (rlbL [(256, 200)] d) 102 false), some (.mk [.pointer (some (.mk 0 0 (some 0))), .string nu, .bool mi, .int .i64 us, .int .i64 (IntKind.wrap .i64 (at0 + 1)), .int .i64 ld] 109 true), some (.mk [Value.func (Fn.func 91) (.mk []) (.mk []), Value.func (Fn.func 92) (.mk []) (.mk []), Value.nilFunc, Value.func (Fn.func 93) (.mk []) (.mk []), Value.func (Fn.func 94) (.mk []) (.mk []), Value.func (Fn.func 95) (.mk []) (.mk [])] 112 true), some (.mk (rlbL [(256, 200)] (.int .u8 32 :: tail)) 5 true)] else False else ∀ (cap_1 : Nat) (tail : List Value), tailOK tail cap_1 1 1 = true → bif goodL [(255, 200)] d && (goodL [(255, 200)] (.int .u8 (byteAt s (Int.toNat i)) :: tail) && true) && true then R Exit.normal [.pointer (some (.mk 0 0 (some 0))), .bool m2, .string r6, .int .i64 r7, .pointer (some (.mk 8 0 (some 0))), .pointer (some (.mk 22 0 (some 0))), .slice (some (.mk 200 0 (some 1))) 1 cap_1, .slice (some (.mk 1 0 (some 1))) k2 cap2, .int .i64 L, .int .i64 (IntKind.wrap .i64 (i + 1))] [some (.mk [.string s, .bool nb, .int .i64 w, .int .i64 dg, .int .i64 sc, .bool sg, .slice (some (.mk 1 0 (some 1))) k cap, .int .u8 dr, .int .i64 f, .bool cr, .int .u8 fl, .int .i64 fm] 84 false), some (.mk (rlbL [(255, 200)] d) 102 false), some (.mk [.pointer (some (.mk 0 0 (some 0))), .string nu, .bool mi, .int .i64 us, .int .i64 (IntKind.wrap .i64 (at0 + 1)), .int .i64 ld] 109 true), some (.mk [Value.func (Fn.func 91) (.mk []) (.mk []), Value.func (Fn.func 92) (.mk []) (.mk []), Value.nilFunc, Value.func (Fn.func 93) (.mk []) (.mk []), Value.func (Fn.func 94) (.mk []) (.mk []), Value.func (Fn.func 95) (.mk []) (.mk [])] 112 true), some (.mk (rlbL [(255, 200)] (.int .u8 (byteAt s (Int.toNat i)) :: tail)) 5 true)] else False else bif decide (0 ≤ intAt d (0 + Int.toNat i * 1) ∧ intAt d (0 + Int.toNat i * 1) < 6) then bif decide ((↑(0 + Int.toNat (intAt d (0 + Int.toNat i * 1)) * 1) : Int) = 0) then bif decide (0 ≤ IntKind.wrap .i64 (IntKind.wrap .i64 (us + 1) - 1) ∧ IntKind.wrap .i64 (IntKind.wrap .i64 (us + 1) - 1) < (↑(ByteArray.size nu) : Int)) then bif byteAt s (Int.toNat i) == 89 || true then bif byteAt s (Int.toNat i) == 89 && byteAt nu (Int.toNat (IntKind.wrap .i64 (IntKind.wrap .i64 (us + 1) - 1))) == 48 then ∀ (cap_1 : Nat) (tail : List Value), tailOK tail cap_1 1 1 = true → bif goodL [(303, 200)] d && (goodL [(303, 200)] (.int .u8 32 :: tail) && true) && true then R Exit.normal [.pointer (some (.mk 0 0 (some 0))), .bool m2, .string r6, .int .i64 r7, .pointer (some (.mk 8 0 (some 0))), .pointer (some (.mk 22 0 (some 0))), .slice (some (.mk 200 0 (some 1))) 1 cap_1, .slice (some (.mk 1 0 (some 1))) k2 cap2, .int .i64 L, .int .i64 (IntKind.wrap .i64 (i + 1))] [some (.mk [.string s, .bool nb, .int .i64 w, .int .i64 dg, .int .i64 sc, .bool sg, .slice (some (.mk 1 0 (some 1))) k cap, .int .u8 dr, .int .i64 f, .bool cr, .int .u8 fl, .int .i64 fm] 84 false), some (.mk (rlbL [(303, 200)] d) 102 false), some (.mk [.pointer (some (.mk 0 0 (some 0))), .string nu, .bool mi, .int .i64 (IntKind.wrap .i64 (us + 1)), .int .i64 (IntKind.wrap .i64 (at0 + 1)), .int .i64 ld] 109 true), some (.mk [Value.func (Fn.func 91) (.mk []) (.mk []), Value.func (Fn.func 92) (.mk []) (.mk []), Value.nilFunc, Value.func (Fn.func 93) (.mk []) (.mk []), Value.func (Fn.func 94) (.mk []) (.mk []), Value.func (Fn.func 95) (.mk []) (.mk [])] 112 true), some (.mk (rlbL [(303, 200)] (.int .u8 32 :: tail)) 5 true)] else False else bif byteAt s (Int.toNat i) == 84 || bif byteAt s (Int.toNat i) == 73 then !mi || (byteAt s (Int.toNat i) == 82 || true) else byteAt s (Int.toNat i) == 82 || true then bif byteAt s (Int.toNat i) == 84 || bif byteAt s (Int.toNat i) == 73 then !mi || byteAt s (Int.toNat i) == 82 && mi else byteAt s (Int.toNat i) == 82 && mi then ∀ (cap_1 : Nat) (tail : List Value), tailOK tail cap_1 1 1 = true → bif goodL [(328, 200)] d && (goodL [(328, 200)] (.int .u8 (puZ (IntKind.wrap .i64 (IntKind.wrap .u8 (byteAt nu (Int.toNat (IntKind.wrap .i64 (IntKind.wrap .i64 (us + 1) - 1))) - 48))) mi) :: tail) && true) && true then R Exit.normal [.pointer (some (.mk 0 0 (some 0))), .bool m2, .string r6, .int .i64 r7, .pointer (some (.mk 8 0 (some 0))), .pointer (some (.mk 22 0 (some 0))), .slice (some (.mk 200 0 (some 1))) 1 cap_1, .slice (some (.mk 1 0 (some 1))) k2 cap2, .int .i64 L, .int .i64 (IntKind.wrap .i64 (i + 1))] [some (.mk [.string s, .bool nb, .int .i64 w, .int .i64 dg, .int .i64 sc, .bool sg, .slice (some (.mk 1 0 (some 1))) k cap, .int .u8 dr, .int .i64 f, .bool cr, .int .u8 fl, .int .i64 fm] 84 false), some (.mk (rlbL [(328, 200)] d) 102 false), some (.mk [.pointer (some (.mk 0 0 (some 0))), .string nu, .bool mi, .int .i64 (IntKind.wrap .i64 (us + 1)), .int .i64 (IntKind.wrap .i64 (at0 + 1)), .int .i64 ld] 109 true), some (.mk [Value.func (Fn.func 91) (.mk []) (.mk []), Value.func (Fn.func 92) (.mk []) (.mk []), Value.nilFunc, Value.func (Fn.func 93) (.mk []) (.mk []), Value.func (Fn.func 94) (.mk []) (.mk []), Value.func (Fn.func 95) (.mk []) (.mk [])] 112 true), some (.mk (rlbL [(328, 200)] (.int .u8 (puZ (IntKind.wrap .i64 (IntKind.wrap .u8 (byteAt nu (Int.toNat (IntKind.wrap .i64 (IntKind.wrap .i64 (us + 1) - 1))) - 48))) mi) :: tail)) 5 true)] else False else ∀ (cap_1 : Nat) (tail : List Value), tailOK tail cap_1 1 1 = true → bif goodL [(328, 200)] d && (goodL [(328, 200)] (.int .u8 (byteAt nu (Int.toNat (IntKind.wrap .i64 (IntKind.wrap .i64 (us + 1) - 1)))) :: tail) && true) && true then R Exit.normal [.pointer (some (.mk 0 0 (some 0))), .bool m2, .string r6, .int .i64 r7, .pointer (some (.mk 8 0 (some 0))), .pointer (some (.mk 22 0 (some 0))), .slice (some (.mk 200 0 (some 1))) 1 cap_1, .slice (some (.mk 1 0 (some 1))) k2 cap2, .int .i64 L, .int .i64 (IntKind.wrap .i64 (i + 1))] [some (.mk [.string s, .bool nb, .int .i64 w, .int .i64 dg, .int .i64 sc, .bool sg, .slice (some (.mk 1 0 (some 1))) k cap, .int .u8 dr, .int .i64 f, .bool cr, .int .u8 fl, .int .i64 fm] 84 false), some (.mk (rlbL [(328, 200)] d) 102 false), some (.mk [.pointer (some (.mk 0 0 (some 0))), .string nu, .bool mi, .int .i64 (IntKind.wrap .i64 (us + 1)), .int .i64 (IntKind.wrap .i64 (at0 + 1)), .int .i64 ld] 109 true), some (.mk [Value.func (Fn.func 91) (.mk []) (.mk []), Value.func (Fn.func 92) (.mk []) (.mk []), Value.nilFunc, Value.func (Fn.func 93) (.mk []) (.mk []), Value.func (Fn.func 94) (.mk []) (.mk []), Value.func (Fn.func 95) (.mk []) (.mk [])] 112 true), some (.mk (rlbL [(328, 200)] (.int .u8 (byteAt nu (Int.toNat (IntKind.wrap .i64 (IntKind.wrap .i64 (us + 1) - 1)))) :: tail)) 5 true)] else False else False else False else False else bif decide ((↑(0 + Int.toNat (intAt d (0 + Int.toNat i * 1)) * 1) : Int) = 1) then bif decide (0 ≤ IntKind.wrap .i64 (IntKind.wrap .i64 (us + 1) - 1) ∧ IntKind.wrap .i64 (IntKind.wrap .i64 (us + 1) - 1) < (↑(ByteArray.size nu) : Int)) then bif decide (at0 < ld) then ∀ (cap_1 : Nat) (tail : List Value), tailOK tail cap_1 1 1 = true → bif goodL [(299, 200)] d && (goodL [(299, 200)] (.int .u8 fl :: tail) && true) && true then R Exit.normal [.pointer (some (.mk 0 0 (some 0))), .bool m2, .string r6, .int .i64 r7, .pointer (some (.mk 8 0 (some 0))), .pointer (some (.mk 22 0 (some 0))), .slice (some (.mk 200 0 (some 1))) 1 cap_1, .slice (some (.mk 1 0 (some 1))) k2 cap2, .int .i64 L, .int .i64 (IntKind.wrap .i64 (i + 1))] [some (.mk [.string s, .bool nb, .int .i64 w, .int .i64 dg, .int .i64 sc, .bool sg, .slice (some (.mk 1 0 (some 1))) k cap, .int .u8 dr, .int .i64 f, .bool cr, .int .u8 fl, .int .i64 fm] 84 false), some (.mk (rlbL [(299, 200)] d) 102 false), some (.mk [.pointer (some (.mk 0 0 (some 0))), .string nu, .bool mi, .int .i64 (IntKind.wrap .i64 (us + 1)), .int .i64 (IntKind.wrap .i64 (at0 + 1)), .int .i64 ld] 109 true), some (.mk [Value.func (Fn.func 91) (.mk []) (.mk []), Value.func (Fn.func 92) (.mk []) (.mk []), Value.nilFunc, Value.func (Fn.func 93) (.mk []) (.mk []), Value.func (Fn.func 94) (.mk []) (.mk []), Value.func (Fn.func 95) (.mk []) (.mk [])] 112 true), some (.mk (rlbL [(299, 200)] (.int .u8 fl :: tail)) 5 true)] else False else ∀ (cap_1 : Nat) (tail : List Value), tailOK tail cap_1 1 1 = true → bif goodL [(293, 200)] d && (goodL [(293, 200)] (.int .u8 (byteAt nu (Int.toNat (IntKind.wrap .i64 (IntKind.wrap .i64 (us + 1) - 1)))) :: tail) && true) && true then R Exit.normal [.pointer (some (.mk 0 0 (some 0))), .bool m2, .string r6, .int .i64 r7, .pointer (some (.mk 8 0 (some 0))), .pointer (some (.mk 22 0 (some 0))), .slice (some (.mk 200 0 (some 1))) 1 cap_1, .slice (some (.mk 1 0 (some 1))) k2 cap2, .int .i64 L, .int .i64 (IntKind.wrap .i64 (i + 1))] [some (.mk [.string s, .bool nb, .int .i64 w, .int .i64 dg, .int .i64 sc, .bool sg, .slice (some (.mk 1 0 (some 1))) k cap, .int .u8 dr, .int .i64 f, .bool cr, .int .u8 fl, .int .i64 fm] 84 false), some (.mk (rlbL [(293, 200)] d) 102 false), some (.mk [.pointer (some (.mk 0 0 (some 0))), .string nu, .bool mi, .int .i64 (IntKind.wrap .i64 (us + 1)), .int .i64 (IntKind.wrap .i64 (at0 + 1)), .int .i64 ld] 109 true), some (.mk [Value.func (Fn.func 91) (.mk []) (.mk []), Value.func (Fn.func 92) (.mk []) (.mk []), Value.nilFunc, Value.func (Fn.func 93) (.mk []) (.mk []), Value.func (Fn.func 94) (.mk []) (.mk []), Value.func (Fn.func 95) (.mk []) (.mk [])] 112 true), some (.mk (rlbL [(293, 200)] (.int .u8 (byteAt nu (Int.toNat (IntKind.wrap .i64 (IntKind.wrap .i64 (us + 1) - 1)))) :: tail)) 5 true)] else False else False else bif decide ((↑(0 + Int.toNat (intAt d (0 + Int.toNat i * 1)) * 1) : Int) = 2) then False else bif decide ((↑(0 + Int.toNat (intAt d (0 + Int.toNat i * 1)) * 1) : Int) = 3) then bif byteAt s (Int.toNat i) == 66 then ∀ (cap_1 : Nat) (tail : List Value), tailOK tail cap_1 1 1 = true → bif goodL [(263, 200)] d && (goodL [(263, 200)] (.int .u8 32 :: tail) && true) && true then R Exit.normal [.pointer (some (.mk 0 0 (some 0))), .bool m2, .string r6, .int .i64 r7, .pointer (some (.mk 8 0 (some 0))), .pointer (some (.mk 22 0 (some 0))), .slice (some (.mk 200 0 (some 1))) 1 cap_1, .slice (some (.mk 1 0 (some 1))) k2 cap2, .int .i64 L, .int .i64 (IntKind.wrap .i64 (i + 1))] [some (.mk [.string s, .bool nb, .int .i64 w, .int .i64 dg, .int .i64 sc, .bool sg, .slice (some (.mk 1 0 (some 1))) k cap, .int .u8 dr, .int .i64 f, .bool cr, .int .u8 fl, .int .i64 fm] 84 false), some (.mk (rlbL [(263, 200)] d) 102 false), some (.mk [.pointer (some (.mk 0 0 (some 0))), .string nu, .bool mi, .int .i64 us, .int .i64 (IntKind.wrap .i64 (at0 + 1)), .int .i64 ld] 109 true), some (.mk [Value.func (Fn.func 91) (.mk []) (.mk []), Value.func (Fn.func 92) (.mk []) (.mk []), Value.nilFunc, Value.func (Fn.func 93) (.mk []) (.mk []), Value.func (Fn.func 94) (.mk []) (.mk []), Value.func (Fn.func 95) (.mk []) (.mk [])] 112 true), some (.mk (rlbL [(263, 200)] (.int .u8 32 :: tail)) 5 true)] else False else bif decide (at0 < ld) then ∀ (cap_1 : Nat) (tail : List Value), tailOK tail cap_1 1 1 = true → bif goodL [(280, 200)] d && (goodL [(280, 200)] (.int .u8 fl :: tail) && true) && true then R Exit.normal [.pointer (some (.mk 0 0 (some 0))), .bool m2, .string r6, .int .i64 r7, .pointer (some (.mk 8 0 (some 0))), .pointer (some (.mk 22 0 (some 0))), .slice (some (.mk 200 0 (some 1))) 1 cap_1, .slice (some (.mk 1 0 (some 1))) k2 cap2, .int .i64 L, .int .i64 (IntKind.wrap .i64 (i + 1))] [some (.mk [.string s, .bool nb, .int .i64 w, .int .i64 dg, .int .i64 sc, .bool sg, .slice (some (.mk 1 0 (some 1))) k cap, .int .u8 dr, .int .i64 f, .bool cr, .int .u8 fl, .int .i64 fm] 84 false), some (.mk (rlbL [(280, 200)] d) 102 false), some (.mk [.pointer (some (.mk 0 0 (some 0))), .string nu, .bool mi, .int .i64 us, .int .i64 (IntKind.wrap .i64 (at0 + 1)), .int .i64 ld] 109 true), some (.mk [Value.func (Fn.func 91) (.mk []) (.mk []), Value.func (Fn.func 92) (.mk []) (.mk []), Value.nilFunc, Value.func (Fn.func 93) (.mk []) (.mk []), Value.func (Fn.func 94) (.mk []) (.mk []), Value.func (Fn.func 95) (.mk []) (.mk [])] 112 true), some (.mk (rlbL [(280, 200)] (.int .u8 fl :: tail)) 5 true)] else False else ∀ (cap_1 : Nat) (tail : List Value), tailOK tail cap_1 1 1 = true → bif goodL [(274, 200)] d && (goodL [(274, 200)] (.int .u8 (byteAt s (Int.toNat i)) :: tail) && true) && true then R Exit.normal [.pointer (some (.mk 0 0 (some 0))), .bool m2, .string r6, .int .i64 r7, .pointer (some (.mk 8 0 (some 0))), .pointer (some (.mk 22 0 (some 0))), .slice (some (.mk 200 0 (some 1))) 1 cap_1, .slice (some (.mk 1 0 (some 1))) k2 cap2, .int .i64 L, .int .i64 (IntKind.wrap .i64 (i + 1))] [some (.mk [.string s, .bool nb, .int .i64 w, .int .i64 dg, .int .i64 sc, .bool sg, .slice (some (.mk 1 0 (some 1))) k cap, .int .u8 dr, .int .i64 f, .bool cr, .int .u8 fl, .int .i64 fm] 84 false), some (.mk (rlbL [(274, 200)] d) 102 false), some (.mk [.pointer (some (.mk 0 0 (some 0))), .string nu, .bool mi, .int .i64 us, .int .i64 (IntKind.wrap .i64 (at0 + 1)), .int .i64 ld] 109 true), some (.mk [Value.func (Fn.func 91) (.mk []) (.mk []), Value.func (Fn.func 92) (.mk []) (.mk []), Value.nilFunc, Value.func (Fn.func 93) (.mk []) (.mk []), Value.func (Fn.func 94) (.mk []) (.mk []), Value.func (Fn.func 95) (.mk []) (.mk [])] 112 true), some (.mk (rlbL [(274, 200)] (.int .u8 (byteAt s (Int.toNat i)) :: tail)) 5 true)] else False else bif decide ((↑(0 + Int.toNat (intAt d (0 + Int.toNat i * 1)) * 1) : Int) = 4) then bif byteAt s (Int.toNat i) == 83 || true then bif byteAt s (Int.toNat i) == 83 && mi then ∀ (cap_1 : Nat) (tail : List Value), tailOK tail cap_1 1 1 = true → bif goodL [(269, 200)] d && (goodL [(269, 200)] (.int .u8 45 :: tail) && true) && true then R Exit.normal [.pointer (some (.mk 0 0 (some 0))), .bool m2, .string r6, .int .i64 r7, .pointer (some (.mk 8 0 (some 0))), .pointer (some (.mk 22 0 (some 0))), .slice (some (.mk 200 0 (some 1))) 1 cap_1, .slice (some (.mk 1 0 (some 1))) k2 cap2, .int .i64 L, .int .i64 (IntKind.wrap .i64 (i + 1))] [some (.mk [.string s, .bool nb, .int .i64 w, .int .i64 dg, .int .i64 sc, .bool sg, .slice (some (.mk 1 0 (some 1))) k cap, .int .u8 dr, .int .i64 f, .bool cr, .int .u8 fl, .int .i64 fm] 84 false), some (.mk (rlbL [(269, 200)] d) 102 false), some (.mk [.pointer (some (.mk 0 0 (some 0))), .string nu, .bool mi, .int .i64 us, .int .i64 (IntKind.wrap .i64 (at0 + 1)), .int .i64 ld] 109 true), some (.mk [Value.func (Fn.func 91) (.mk []) (.mk []), Value.func (Fn.func 92) (.mk []) (.mk []), Value.nilFunc, Value.func (Fn.func 93) (.mk []) (.mk []), Value.func (Fn.func 94) (.mk []) (.mk []), Value.func (Fn.func 95) (.mk []) (.mk [])] 112 true), some (.mk (rlbL [(269, 200)] (.int .u8 45 :: tail)) 5 true)] else False else bif byteAt s (Int.toNat i) == 83 then ∀ (cap_1 : Nat) (tail : List Value), tailOK tail cap_1 1 1 = true → bif goodL [(272, 200)] d && (goodL [(272, 200)] (.int .u8 43 :: tail) && true) && true then R Exit.normal [.pointer (some (.mk 0 0 (some 0))), .bool m2, .string r6, .int .i64 r7, .pointer (some (.mk 8 0 (some 0))), .pointer (some (.mk 22 0 (some 0))), .slice (some (.mk 200 0 (some 1))) 1 cap_1, .slice (some (.mk 1 0 (some 1))) k2 cap2, .int .i64 L, .int .i64 (IntKind.wrap .i64 (i + 1))] [some (.mk [.string s, .bool nb, .int .i64 w, .int .i64 dg, .int .i64 sc, .bool sg, .slice (some (.mk 1 0 (some 1))) k cap, .int .u8 dr, .int .i64 f, .bool cr, .int .u8 fl, .int .i64 fm] 84 false), some (.mk (rlbL [(272, 200)] d) 102 false), some (.mk [.pointer (some (.mk 0 0 (some 0))), .string nu, .bool mi, .int .i64 us, .int .i64 (IntKind.wrap .i64 (at0 + 1)), .int .i64 ld] 109 true), some (.mk [Value.func (Fn.func 91) (.mk []) (.mk []), Value.func (Fn.func 92) (.mk []) (.mk []), Value.nilFunc, Value.func (Fn.func 93) (.mk []) (.mk []), Value.func (Fn.func 94) (.mk []) (.mk []), Value.func (Fn.func 95) (.mk []) (.mk [])] 112 true), some (.mk (rlbL [(272, 200)] (.int .u8 43 :: tail)) 5 true)] else False else bif (byteAt s (Int.toNat i) == 43) == mi then ∀ (cap_1 : Nat) (tail : List Value), tailOK tail cap_1 1 1 = true → bif goodL [(280, 200)] d && (goodL [(280, 200)] (.int .u8 32 :: tail) && true) && true then R Exit.normal [.pointer (some (.mk 0 0 (some 0))), .bool m2, .string r6, .int .i64 r7, .pointer (some (.mk 8 0 (some 0))), .pointer (some (.mk 22 0 (some 0))), .slice (some (.mk 200 0 (some 1))) 1 cap_1, .slice (some (.mk 1 0 (some 1))) k2 cap2, .int .i64 L, .int .i64 (IntKind.wrap .i64 (i + 1))] [some (.mk [.string s, .bool nb, .int .i64 w, .int .i64 dg, .int .i64 sc, .bool sg, .slice (some (.mk 1 0 (some 1))) k cap, .int .u8 dr, .int .i64 f, .bool cr, .int .u8 fl, .int .i64 fm] 84 false), some (.mk (rlbL [(280, 200)] d) 102 false), some (.mk [.pointer (some (.mk 0 0 (some 0))), .string nu, .bool mi, .int .i64 us, .int .i64 (IntKind.wrap .i64 (at0 + 1)), .int .i64 ld] 109 true), some (.mk [Value.func (Fn.func 91) (.mk []) (.mk []), Value.func (Fn.func 92) (.mk []) (.mk []), Value.nilFunc, Value.func (Fn.func 93) (.mk []) (.mk []), Value.func (Fn.func 94) (.mk []) (.mk []), Value.func (Fn.func 95) (.mk []) (.mk [])] 112 true), some (.mk (rlbL [(280, 200)] (.int .u8 32 :: tail)) 5 true)] else False else ∀ (cap_1 : Nat) (tail : List Value), tailOK tail cap_1 1 1 = true → bif goodL [(281, 200)] d && (goodL [(281, 200)] (.int .u8 (byteAt s (Int.toNat i)) :: tail) && true) && true then R Exit.normal [.pointer (some (.mk 0 0 (some 0))), .bool m2, .string r6, .int .i64 r7, .pointer (some (.mk 8 0 (some 0))), .pointer (some (.mk 22 0 (some 0))), .slice (some (.mk 200 0 (some 1))) 1 cap_1, .slice (some (.mk 1 0 (some 1))) k2 cap2, .int .i64 L, .int .i64 (IntKind.wrap .i64 (i + 1))] [some (.mk [.string s, .bool nb, .int .i64 w, .int .i64 dg, .int .i64 sc, .bool sg, .slice (some (.mk 1 0 (some 1))) k cap, .int .u8 dr, .int .i64 f, .bool cr, .int .u8 fl, .int .i64 fm] 84 false), some (.mk (rlbL [(281, 200)] d) 102 false), some (.mk [.pointer (some (.mk 0 0 (some 0))), .string nu, .bool mi, .int .i64 us, .int .i64 (IntKind.wrap .i64 (at0 + 1)), .int .i64 ld] 109 true), some (.mk [Value.func (Fn.func 91) (.mk []) (.mk []), Value.func (Fn.func 92) (.mk []) (.mk []), Value.nilFunc, Value.func (Fn.func 93) (.mk []) (.mk []), Value.func (Fn.func 94) (.mk []) (.mk []), Value.func (Fn.func 95) (.mk []) (.mk [])] 112 true), some (.mk (rlbL [(281, 200)] (.int .u8 (byteAt s (Int.toNat i)) :: tail)) 5 true)] else False else False else bif decide ((↑(0 + Int.toNat (intAt d (0 + Int.toNat i * 1)) * 1) : Int) = 5) then ∀ (cap_1 : Nat) (tail : List Value), tailOK tail cap_1 1 1 = true → bif goodL [(261, 200)] d && (goodL [(261, 200)] (.int .u8 (byteAt s (Int.toNat i)) :: tail) && true) && true then R Exit.normal [.pointer (some (.mk 0 0 (some 0))), .bool m2, .string r6, .int .i64 r7, .pointer (some (.mk 8 0 (some 0))), .pointer (some (.mk 22 0 (some 0))), .slice (some (.mk 200 0 (some 1))) 1 cap_1, .slice (some (.mk 1 0 (some 1))) k2 cap2, .int .i64 L, .int .i64 (IntKind.wrap .i64 (i + 1))] [some (.mk [.string s, .bool nb, .int .i64 w, .int .i64 dg, .int .i64 sc, .bool sg, .slice (some (.mk 1 0 (some 1))) k cap, .int .u8 dr, .int .i64 f, .bool cr, .int .u8 fl, .int .i64 fm] 84 false), some (.mk (rlbL [(261, 200)] d) 102 false), some (.mk [.pointer (some (.mk 0 0 (some 0))), .string nu, .bool mi, .int .i64 us, .int .i64 (IntKind.wrap .i64 (at0 + 1)), .int .i64 ld] 109 true), some (.mk [Value.func (Fn.func 91) (.mk []) (.mk []), Value.func (Fn.func 92) (.mk []) (.mk []), Value.nilFunc, Value.func (Fn.func 93) (.mk []) (.mk []), Value.func (Fn.func 94) (.mk []) (.mk []), Value.func (Fn.func 95) (.mk []) (.mk [])] 112 true), some (.mk (rlbL [(261, 200)] (.int .u8 (byteAt s (Int.toNat i)) :: tail)) 5 true)] else False else False else False else False else False else False else False else bif goodL [] d && true && true then R (Exit.exit 0) [.pointer (some (.mk 0 0 (some 0))), .bool m2, .string r6, .int .i64 r7, .pointer (some (.mk 8 0 (some 0))), .pointer (some (.mk 22 0 (some 0))), .slice none 0 0, .slice (some (.mk 1 0 (some 1))) k2 cap2, .int .i64 L, .int .i64 i] [some (.mk [.string s, .bool nb, .int .i64 w, .int .i64 dg, .int .i64 sc, .bool sg, .slice (some (.mk 1 0 (some 1))) k cap, .int .u8 dr, .int .i64 f, .bool cr, .int .u8 fl, .int .i64 fm] 84 false), some (.mk (rlbL [] d) 102 false), some (.mk [.pointer (some (.mk 0 0 (some 0))), .string nu, .bool mi, .int .i64 us, .int .i64 at0, .int .i64 ld] 109 true), some (.mk [Value.func (Fn.func 91) (.mk []) (.mk []), Value.func (Fn.func 92) (.mk []) (.mk []), Value.nilFunc, Value.func (Fn.func 93) (.mk []) (.mk []), Value.func (Fn.func 94) (.mk []) (.mk []), Value.func (Fn.func 95) (.mk []) (.mk [])] 112 true), none] else False) := by kernel_rfl
theorem r64_0o (m2 : Bool) (r6 : ByteArray) (r7 : Int) (od : List Value) (om : Nat) (oc : Nat) (k2 : Nat) (cap2 : Nat) (L : Int) (i : Int) (s : ByteArray) (nb : Bool) (w : Int) (dg : Int) (sc : Int) (sg : Bool) (k : Nat) (cap : Nat) (dr : Int) (f : Int) (cr : Bool) (fl : Int) (fm : Int) (nu : ByteArray) (mi : Bool) (us : Int) (at0 : Int) (ld : Int) (d : List Value) (jk : Tmps) (R : Exit → List Value → List (Option Blk) → Prop) : (codeQ Tryz.prog G35 noL Tryz.f64.ntmps (loopOf Tryz.f64 0) (tl S64_0.live (V64_0 (m2, r6, r7, (.own od om oc), k2, cap2, L, i, s, nb, w, dg, sc, sg, k, cap, dr, f, cr, fl, fm, nu, mi, us, at0, ld, d)) jk) (ml S64_0.mid (B64_0 (m2, r6, r7, (.own od om oc), k2, cap2, L, i, s, nb, w, dg, sc, sg, k, cap, dr, f, cr, fl, fm, nu, mi, us, at0, ld, d))) S64_0.n fun e t' m' _ => S64_0.out R e t' m') = ( bif decide (i < L) then bif decide (0 ≤ i ∧ i < (↑k2 : Int)) then bif isIntAt IntKind.i64 d (0 + Int.toNat i * 1) then bif decide (0 ≤ i ∧ i < (↑(ByteArray.size s) : Int)) then bif intAt d (0 + Int.toNat i * 1) == 2 then bif goodL [(200, 200)] d && (goodL [(200, 200)] od && true) && true then R Exit.normal [.pointer (some (.mk 0 0 (some 0))), .bool m2, .string r6, .int .i64 r7, .pointer (some (.mk 8 0 (some 0))), .pointer (some (.mk 22 0 (some 0))), .slice (some (.mk 200 0 (some 1))) om oc, .slice (some (.mk 1 0 (some 1))) k2 cap2, .int .i64 L, .int .i64 (IntKind.wrap .i64 (i + 1))] [some (.mk [.string s, .bool nb, .int .i64 w, .int .i64 dg, .int .i64 sc, .bool sg, .slice (some (.mk 1 0 (some 1))) k cap, .int .u8 dr, .int .i64 f, .bool cr, .int .u8 fl, .int .i64 fm] 84 false), some (.mk (rlbL [(200, 200)] d) 102 false), some (.mk [.pointer (some (.mk 0 0 (some 0))), .string nu, .bool mi, .int .i64 us, .int .i64 at0, .int .i64 ld] 109 true), some (.mk [Value.func (Fn.func 91) (.mk []) (.mk []), Value.func (Fn.func 92) (.mk []) (.mk []), Value.nilFunc, Value.func (Fn.func 93) (.mk []) (.mk []), Value.func (Fn.func 94) (.mk []) (.mk []), Value.func (Fn.func 95) (.mk []) (.mk [])] 112 true), some (.mk (rlbL [(200, 200)] od) 5 true)] else False else bif i == f then bif Nat.beq (List.length od) (oc * 1) && Nat.ble om oc && Nat.ble oc 9223372036854775807 && true && fitsA (om + 1) 1 then ∀ (cap_1 : Nat) (tail : List Value), tailOK tail cap_1 (om + 1) 1 = true → bif goodL [(240, 200)] d && (goodL [(240, 200)] (List.take (om * 1) od ++ [.int .u8 fl] ++ tail) && true) && true then R Exit.normal [.pointer (some (.mk 0 0 (some 0))), .bool m2, .string r6, .int .i64 r7, .pointer (some (.mk 8 0 (some 0))), .pointer (some (.mk 22 0 (some 0))), .slice (some (.mk 200 0 (some 1))) (om + 1) cap_1, .slice (some (.mk 1 0 (some 1))) k2 cap2, .int .i64 L, .int .i64 (IntKind.wrap .i64 (i + 1))] [some (.mk [.string s, .bool nb, .int .i64 w, .int .i64 dg, .int .i64 sc, .bool sg, .slice (some (.mk 1 0 (some 1))) k cap, .int .u8 dr, .int .i64 f, .bool cr, .int .u8 fl, .int .i64 fm] 84 false), some (.mk (rlbL [(240, 200)] d) 102 false), some (.mk [.pointer (some (.mk 0 0 (some 0))), .string nu, .bool mi, .int .i64 us, .int .i64 (IntKind.wrap .i64 (at0 + 1)), .int .i64 ld] 109 true), some (.mk [Value.func (Fn.func 91) (.mk []) (.mk []), Value.func (Fn.func 92) (.mk []) (.mk []), Value.nilFunc, Value.func (Fn.func 93) (.mk []) (.mk []), Value.func (Fn.func 94) (.mk []) (.mk []), Value.func (Fn.func 95) (.mk []) (.mk [])] 112 true), some (.mk (rlbL [(240, 200)] (List.take (om * 1) od ++ [.int .u8 fl] ++ tail)) 5 true)] else False else False else bif cr || true then bif cr && decide (i ≥ IntKind.wrap .i64 ((↑(ByteArray.size s) : Int) - 2)) then bif !m2 then bif Nat.beq (List.length od) (oc * 1) && Nat.ble om oc && Nat.ble oc 9223372036854775807 && true && fitsA (om + 1) 1 then ∀ (cap_1 : Nat) (tail : List Value), tailOK tail cap_1 (om + 1) 1 = true → bif goodL [(256, 200)] d && (goodL [(256, 200)] (List.take (om * 1) od ++ [.int .u8 32] ++ tail) && true) && true then R Exit.normal [.pointer (some (.mk 0 0 (some 0))), .bool m2, .string r6, .int .i64 r7, .pointer (some (.mk 8 0 (some 0))), .pointer (some (.mk 22 0 (some 0))), .slice (some (.mk 200 0 (some 1))) (om + 1) cap_1, .slice (some (.mk 1 0 (some 1))) k2 cap2, .int .i64 L, .int .i64 (IntKind.wrap .i64 (i + 1))] [some (.mk [.string s, .bool nb, .int .i64 w, .int .i64 dg, .int .i64 sc, .bool sg, .slice (some (.mk 1 0 (some 1))) k cap, .int .u8 dr, .int .i64 f, .bool cr, .int .u8 fl, .int .i64 fm] 84 false), some (.mk (rlbL [(256, 200)] d) 102 false), some (.mk [.pointer (some (.mk 0 0 (some 0))), .string nu, .bool mi, .int .i64 us, .int .i64 (IntKind.wrap .i64 (at0 + 1)), .int .i64 ld] 109 true), some (.mk [Value.func (Fn.func 91) (.mk []) (.mk []), Value.func (Fn.func 92) (.mk []) (.mk []), Value.nilFunc, Value.func (Fn.func 93) (.mk []) (.mk []), Value.func (Fn.func 94) (.mk []) (.mk []), Value.func (Fn.func 95) (.mk []) (.mk [])] 112 true), some (.mk (rlbL [(256, 200)] (List.take (om * 1) od ++ [.int .u8 32] ++ tail)) 5 true)] else False else False else bif Nat.beq (List.length od) (oc * 1) && Nat.ble om oc && Nat.ble oc 9223372036854775807 && true && fitsA (om + 1) 1 then ∀ (cap_1 : Nat) (tail : List Value), tailOK tail cap_1 (om + 1) 1 = true → bif goodL [(255, 200)] d && (goodL [(255, 200)] (List.take (om * 1) od ++ [.int .u8 (byteAt s (Int.toNat i))] ++ tail) && true) && true then R Exit.normal [.pointer (some (.mk 0 0 (some 0))), .bool m2, .string r6, .int .i64 r7, .pointer (some (.mk 8 0 (some 0))), .pointer (some (.mk 22 0 (some 0))), .slice (some (.mk 200 0 (some 1))) (om + 1) cap_1, .slice (some (.mk 1 0 (some 1))) k2 cap2, .int .i64 L, .int .i64 (IntKind.wrap .i64 (i + 1))] [some (.mk [.string s, .bool nb, .int .i64 w, .int .i64 dg, .int .i64 sc, .bool sg, .slice (some (.mk 1 0 (some 1))) k cap, .int .u8 dr, .int .i64 f, .bool cr, .int .u8 fl, .int .i64 fm] 84 false), some (.mk (rlbL [(255, 200)] d) 102 false), some (.mk [.pointer (some (.mk 0 0 (some 0))), .string nu, .bool mi, .int .i64 us, .int .i64 (IntKind.wrap .i64 (at0 + 1)), .int .i64 ld] 109 true), some (.mk [Value.func (Fn.func 91) (.mk []) (.mk []), Value.func (Fn.func 92) (.mk []) (.mk []), Value.nilFunc, Value.func (Fn.func 93) (.mk []) (.mk []), Value.func (Fn.func 94) (.mk []) (.mk []), Value.func (Fn.func 95) (.mk []) (.mk [])] 112 true), some (.mk (rlbL [(255, 200)] (List.take (om * 1) od ++ [.int .u8 (byteAt s (Int.toNat i))] ++ tail)) 5 true)] else False else False else bif decide (0 ≤ intAt d (0 + Int.toNat i * 1) ∧ intAt d (0 + Int.toNat i * 1) < 6) then bif decide ((↑(0 + Int.toNat (intAt d (0 + Int.toNat i * 1)) * 1) : Int) = 0) then bif decide (0 ≤ IntKind.wrap .i64 (IntKind.wrap .i64 (us + 1) - 1) ∧ IntKind.wrap .i64 (IntKind.wrap .i64 (us + 1) - 1) < (↑(ByteArray.size nu) : Int)) then bif byteAt s (Int.toNat i) == 89 || true then bif byteAt s (Int.toNat i) == 89 && byteAt nu (Int.toNat (IntKind.wrap .i64 (IntKind.wrap .i64 (us + 1) - 1))) == 48 then bif Nat.beq (List.length od) (oc * 1) && Nat.ble om oc && Nat.ble oc 9223372036854775807 && true && fitsA (om + 1) 1 then ∀ (cap_1 : Nat) (tail : List Value), tailOK tail cap_1 (om + 1) 1 = true → bif goodL [(303, 200)] d && (goodL [(303, 200)] (List.take (om * 1) od ++ [.int .u8 32] ++ tail) && true) && true then R Exit.normal [.pointer (some (.mk 0 0 (some 0))), .bool m2, .string r6, .int .i64 r7, .pointer (some (.mk 8 0 (some 0))), .pointer (some (.mk 22 0 (some 0))), .slice (some (.mk 200 0 (some 1))) (om + 1) cap_1, .slice (some (.mk 1 0 (some 1))) k2 cap2, .int .i64 L, .int .i64 (IntKind.wrap .i64 (i + 1))] [some (.mk [.string s, .bool nb, .int .i64 w, .int .i64 dg, .int .i64 sc, .bool sg, .slice (some (.mk 1 0 (some 1))) k cap, .int .u8 dr, .int .i64 f, .bool cr, .int .u8 fl, .int .i64 fm] 84 false), some (.mk (rlbL [(303, 200)] d) 102 false), some (.mk [.pointer (some (.mk 0 0 (some 0))), .string nu, .bool mi, .int .i64 (IntKind.wrap .i64 (us + 1)), .int .i64 (IntKind.wrap .i64 (at0 + 1)), .int .i64 ld] 109 true), some (.mk [Value.func (Fn.func 91) (.mk []) (.mk []), Value.func (Fn.func 92) (.mk []) (.mk []), Value.nilFunc, Value.func (Fn.func 93) (.mk []) (.mk []), Value.func (Fn.func 94) (.mk []) (.mk []), Value.func (Fn.func 95) (.mk []) (.mk [])] 112 true), some (.mk (rlbL [(303, 200)] (List.take (om * 1) od ++ [.int .u8 32] ++ tail)) 5 true)] else False else False else bif byteAt s (Int.toNat i) == 84 || bif byteAt s (Int.toNat i) == 73 then !mi || (byteAt s (Int.toNat i) == 82 || true) else byteAt s (Int.toNat i) == 82 || true then bif byteAt s (Int.toNat i) == 84 || bif byteAt s (Int.toNat i) == 73 then !mi || byteAt s (Int.toNat i) == 82 && mi else byteAt s (Int.toNat i) == 82 && mi then bif Nat.beq (List.length od) (oc * 1) && Nat.ble om oc && Nat.ble oc 9223372036854775807 && true && fitsA (om + 1) 1 then ∀ (cap_1 : Nat) (tail : List Value), tailOK tail cap_1 (om + 1) 1 = true → bif goodL [(328, 200)] d && (goodL [(328, 200)] (List.take (om * 1) od ++ [.int .u8 (puZ (IntKind.wrap .i64 (IntKind.wrap .u8 (byteAt nu (Int.toNat (IntKind.wrap .i64 (IntKind.wrap .i64 (us + 1) - 1))) - 48))) mi)] ++ tail) && true) && true then R Exit.normal [.pointer (some (.mk 0 0 (some 0))), .bool m2, .string r6, .int .i64 r7, .pointer (some (.mk 8 0 (some 0))), .pointer (some (.mk 22 0 (some 0))), .slice (some (.mk 200 0 (some 1))) (om + 1) cap_1, .slice (some (.mk 1 0 (some 1))) k2 cap2, .int .i64 L, .int .i64 (IntKind.wrap .i64 (i + 1))] [some (.mk [.string s, .bool nb, .int .i64 w, .int .i64 dg, .int .i64 sc, .bool sg, .slice (some (.mk 1 0 (some 1))) k cap, .int .u8 dr, .int .i64 f, .bool cr, .int .u8 fl, .int .i64 fm] 84 false), some (.mk (rlbL [(328, 200)] d) 102 false), some (.mk [.pointer (some (.mk 0 0 (some 0))), .string nu, .bool mi, .int .i64 (IntKind.wrap .i64 (us + 1)), .int .i64 (IntKind.wrap .i64 (at0 + 1)), .int .i64 ld] 109 true), some (.mk [Value.func (Fn.func 91) (.mk []) (.mk []), Value.func (Fn.func 92) (.mk []) (.mk []), Value.nilFunc, Value.func (Fn.func 93) (.mk []) (.mk []), Value.func (Fn.func 94) (.mk []) (.mk []), Value.func (Fn.func 95) (.mk []) (.mk [])] 112 true), some (.mk (rlbL [(328, 200)] (List.take (om * 1) od ++ [.int .u8 (puZ (IntKind.wrap .i64 (IntKind.wrap .u8 (byteAt nu (Int.toNat (IntKind.wrap .i64 (IntKind.wrap .i64 (us + 1) - 1))) - 48))) mi)] ++ tail)) 5 true)] else False else False else bif Nat.beq (List.length od) (oc * 1) && Nat.ble om oc && Nat.ble oc 9223372036854775807 && true && fitsA (om + 1) 1 then ∀ (cap_1 : Nat) (tail : List Value), tailOK tail cap_1 (om + 1) 1 = true → bif goodL [(328, 200)] d && (goodL [(328, 200)] (List.take (om * 1) od ++ [.int .u8 (byteAt nu (Int.toNat (IntKind.wrap .i64 (IntKind.wrap .i64 (us + 1) - 1))))] ++ tail) && true) && true then R Exit.normal [.pointer (some (.mk 0 0 (some 0))), .bool m2, .string r6, .int .i64 r7, .pointer (some (.mk 8 0 (some 0))), .pointer (some (.mk 22 0 (some 0))), .slice (some (.mk 200 0 (some 1))) (om + 1) cap_1, .slice (some (.mk 1 0 (some 1))) k2 cap2, .int .i64 L, .int .i64 (IntKind.wrap .i64 (i + 1))] [some (.mk [.string s, .bool nb, .int .i64 w, .int .i64 dg, .int .i64 sc, .bool sg, .slice (some (.mk 1 0 (some 1))) k cap, .int .u8 dr, .int .i64 f, .bool cr, .int .u8 fl, .int .i64 fm] 84 false), some (.mk (rlbL [(328, 200)] d) 102 false), some (.mk [.pointer (some (.mk 0 0 (some 0))), .string nu, .bool mi, .int .i64 (IntKind.wrap .i64 (us + 1)), .int .i64 (IntKind.wrap .i64 (at0 + 1)), .int .i64 ld] 109 true), some (.mk [Value.func (Fn.func 91) (.mk []) (.mk []), Value.func (Fn.func 92) (.mk []) (.mk []), Value.nilFunc, Value.func (Fn.func 93) (.mk []) (.mk []), Value.func (Fn.func 94) (.mk []) (.mk []), Value.func (Fn.func 95) (.mk []) (.mk [])] 112 true), some (.mk (rlbL [(328, 200)] (List.take (om * 1) od ++ [.int .u8 (byteAt nu (Int.toNat (IntKind.wrap .i64 (IntKind.wrap .i64 (us + 1) - 1))))] ++ tail)) 5 true)] else False else False else False else False else False else bif decide ((↑(0 + Int.toNat (intAt d (0 + Int.toNat i * 1)) * 1) : Int) = 1) then bif decide (0 ≤ IntKind.wrap .i64 (IntKind.wrap .i64 (us + 1) - 1) ∧ IntKind.wrap .i64 (IntKind.wrap .i64 (us + 1) - 1) < (↑(ByteArray.size nu) : Int)) then bif decide (at0 < ld) then bif Nat.beq (List.length od) (oc * 1) && Nat.ble om oc && Nat.ble oc 9223372036854775807 && true && fitsA (om + 1) 1 then ∀ (cap_1 : Nat) (tail : List Value), tailOK tail cap_1 (om + 1) 1 = true → bif goodL [(299, 200)] d && (goodL [(299, 200)] (List.take (om * 1) od ++ [.int .u8 fl] ++ tail) && true) && true then R Exit.normal [.pointer (some (.mk 0 0 (some 0))), .bool m2, .string r6, .int .i64 r7, .pointer (some (.mk 8 0 (some 0))), .pointer (some (.mk 22 0 (some 0))), .slice (some (.mk 200 0 (some 1))) (om + 1) cap_1, .slice (some (.mk 1 0 (some 1))) k2 cap2, .int .i64 L, .int .i64 (IntKind.wrap .i64 (i + 1))] [some (.mk [.string s, .bool nb, .int .i64 w, .int .i64 dg, .int .i64 sc, .bool sg, .slice (some (.mk 1 0 (some 1))) k cap, .int .u8 dr, .int .i64 f, .bool cr, .int .u8 fl, .int .i64 fm] 84 false), some (.mk (rlbL [(299, 200)] d) 102 false), some (.mk [.pointer (some (.mk 0 0 (some 0))), .string nu, .bool mi, .int .i64 (IntKind.wrap .i64 (us + 1)), .int .i64 (IntKind.wrap .i64 (at0 + 1)), .int .i64 ld] 109 true), some (.mk [Value.func (Fn.func 91) (.mk []) (.mk []), Value.func (Fn.func 92) (.mk []) (.mk []), Value.nilFunc, Value.func (Fn.func 93) (.mk []) (.mk []), Value.func (Fn.func 94) (.mk []) (.mk []), Value.func (Fn.func 95) (.mk []) (.mk [])] 112 true), some (.mk (rlbL [(299, 200)] (List.take (om * 1) od ++ [.int .u8 fl] ++ tail)) 5 true)] else False else False else bif Nat.beq (List.length od) (oc * 1) && Nat.ble om oc && Nat.ble oc 9223372036854775807 && true && fitsA (om + 1) 1 then ∀ (cap_1 : Nat) (tail : List Value), tailOK tail cap_1 (om + 1) 1 = true → bif goodL [(293, 200)] d && (goodL [(293, 200)] (List.take (om * 1) od ++ [.int .u8 (byteAt nu (Int.toNat (IntKind.wrap .i64 (IntKind.wrap .i64 (us + 1) - 1))))] ++ tail) && true) && true then R Exit.normal [.pointer (some (.mk 0 0 (some 0))), .bool m2, .string r6, .int .i64 r7, .pointer (some (.mk 8 0 (some 0))), .pointer (some (.mk 22 0 (some 0))), .slice (some (.mk 200 0 (some 1))) (om + 1) cap_1, .slice (some (.mk 1 0 (some 1))) k2 cap2, .int .i64 L, .int .i64 (IntKind.wrap .i64 (i + 1))] [some (.mk [.string s, .bool nb, .int .i64 w, .int .i64 dg, .int .i64 sc, .bool sg, .slice (some (.mk 1 0 (some 1))) k cap, .int .u8 dr, .int .i64 f, .bool cr, .int .u8 fl, .int .i64 fm] 84 false), some (.mk (rlbL [(293, 200)] d) 102 false), some (.mk [.pointer (some (.mk 0 0 (some 0))), .string nu, .bool mi, .int .i64 (IntKind.wrap .i64 (us + 1)), .int .i64 (IntKind.wrap .i64 (at0 + 1)), .int .i64 ld] 109 true), some (.mk [Value.func (Fn.func 91) (.mk []) (.mk []), Value.func (Fn.func 92) (.mk []) (.mk []), Value.nilFunc, Value.func (Fn.func 93) (.mk []) (.mk []), Value.func (Fn.func 94) (.mk []) (.mk []), Value.func (Fn.func 95) (.mk []) (.mk [])] 112 true), some (.mk (rlbL [(293, 200)] (List.take (om * 1) od ++ [.int .u8 (byteAt nu (Int.toNat (IntKind.wrap .i64 (IntKind.wrap .i64 (us + 1) - 1))))] ++ tail)) 5 true)] else False else False else False else bif decide ((↑(0 + Int.toNat (intAt d (0 + Int.toNat i * 1)) * 1) : Int) = 2) then False else bif decide ((↑(0 + Int.toNat (intAt d (0 + Int.toNat i * 1)) * 1) : Int) = 3) then bif byteAt s (Int.toNat i) == 66 then bif Nat.beq (List.length od) (oc * 1) && Nat.ble om oc && Nat.ble oc 9223372036854775807 && true && fitsA (om + 1) 1 then ∀ (cap_1 : Nat) (tail : List Value), tailOK tail cap_1 (om + 1) 1 = true → bif goodL [(263, 200)] d && (goodL [(263, 200)] (List.take (om * 1) od ++ [.int .u8 32] ++ tail) && true) && true then R Exit.normal [.pointer (some (.mk 0 0 (some 0))), .bool m2, .string r6, .int .i64 r7, .pointer (some (.mk 8 0 (some 0))), .pointer (some (.mk 22 0 (some 0))), .slice (some (.mk 200 0 (some 1))) (om + 1) cap_1, .slice (some (.mk 1 0 (some 1))) k2 cap2, .int .i64 L, .int .i64 (IntKind.wrap .i64 (i + 1))] [some (.mk [.string s, .bool nb, .int .i64 w, .int .i64 dg, .int .i64 sc, .bool sg, .slice (some (.mk 1 0 (some 1))) k cap, .int .u8 dr, .int .i64 f, .bool cr, .int .u8 fl, .int .i64 fm] 84 false), some (.mk (rlbL [(263, 200)] d) 102 false), some (.mk [.pointer (some (.mk 0 0 (some 0))), .string nu, .bool mi, .int .i64 us, .int .i64 (IntKind.wrap .i64 (at0 + 1)), .int .i64 ld] 109 true), some (.mk [Value.func (Fn.func 91) (.mk []) (.mk []), Value.func (Fn.func 92) (.mk []) (.mk []), Value.nilFunc, Value.func (Fn.func 93) (.mk []) (.mk []), Value.func (Fn.func 94) (.mk []) (.mk []), Value.func (Fn.func 95) (.mk []) (.mk [])] 112 true), some (.mk (rlbL [(263, 200)] (List.take (om * 1) od ++ [.int .u8 32] ++ tail)) 5 true)] else False else False else bif decide (at0 < ld) then bif Nat.beq (List.length od) (oc * 1) && Nat.ble om oc && Nat.ble oc 9223372036854775807 && true && fitsA (om + 1) 1 then ∀ (cap_1 : Nat) (tail : List Value), tailOK tail cap_1 (om + 1) 1 = true → bif goodL [(280, 200)] d && (goodL [(280, 200)] (List.take (om * 1) od ++ [.int .u8 fl] ++ tail) && true) && true then R Exit.normal [.pointer (some (.mk 0 0 (some 0))), .bool m2, .string r6, .int .i64 r7, .pointer (some (.mk 8 0 (some 0))), .pointer (some (.mk 22 0 (some 0))), .slice (some (.mk 200 0 (some 1))) (om + 1) cap_1, .slice (some (.mk 1 0 (some 1))) k2 cap2, .int .i64 L, .int .i64 (IntKind.wrap .i64 (i + 1))] [some (.mk [.string s, .bool nb, .int .i64 w, .int .i64 dg, .int .i64 sc, .bool sg, .slice (some (.mk 1 0 (some 1))) k cap, .int .u8 dr, .int .i64 f, .bool cr, .int .u8 fl, .int .i64 fm] 84 false), some (.mk (rlbL [(280, 200)] d) 102 false), some (.mk [.pointer (some (.mk 0 0 (some 0))), .string nu, .bool mi, .int .i64 us, .int .i64 (IntKind.wrap .i64 (at0 + 1)), .int .i64 ld] 109 true), some (.mk [Value.func (Fn.func 91) (.mk []) (.mk []), Value.func (Fn.func 92) (.mk []) (.mk []), Value.nilFunc, Value.func (Fn.func 93) (.mk []) (.mk []), Value.func (Fn.func 94) (.mk []) (.mk []), Value.func (Fn.func 95) (.mk []) (.mk [])] 112 true), some (.mk (rlbL [(280, 200)] (List.take (om * 1) od ++ [.int .u8 fl] ++ tail)) 5 true)] else False else False else bif Nat.beq (List.length od) (oc * 1) && Nat.ble om oc && Nat.ble oc 9223372036854775807 && true && fitsA (om + 1) 1 then ∀ (cap_1 : Nat) (tail : List Value), tailOK tail cap_1 (om + 1) 1 = true → bif goodL [(274, 200)] d && (goodL [(274, 200)] (List.take (om * 1) od ++ [.int .u8 (byteAt s (Int.toNat i))] ++ tail) && true) && true then R Exit.normal [.pointer (some (.mk 0 0 (some 0))), .bool m2, .string r6, .int .i64 r7, .pointer (some (.mk 8 0 (some 0))), .pointer (some (.mk 22 0 (some 0))), .slice (some (.mk 200 0 (some 1))) (om + 1) cap_1, .slice (some (.mk 1 0 (some 1))) k2 cap2, .int .i64 L, .int .i64 (IntKind.wrap .i64 (i + 1))] [some (.mk [.string s, .bool nb, .int .i64 w, .int .i64 dg, .int .i64 sc, .bool sg, .slice (some (.mk 1 0 (some 1))) k cap, .int .u8 dr, .int .i64 f, .bool cr, .int .u8 fl, .int .i64 fm] 84 false), some (.mk (rlbL [(274, 200)] d) 102 false), some (.mk [.pointer (some (.mk 0 0 (some 0))), .string nu, .bool mi, .int .i64 us, .int .i64 (IntKind.wrap .i64 (at0 + 1)), .int .i64 ld] 109 true), some (.mk [Value.func (Fn.func 91) (.mk []) (.mk []), Value.func (Fn.func 92) (.mk []) (.mk []), Value.nilFunc, Value.func (Fn.func 93) (.mk []) (.mk []), Value.func (Fn.func 94) (.mk []) (.mk []), Value.func (Fn.func 95) (.mk []) (.mk [])] 112 true), some (.mk (rlbL [(274, 200)] (List.take (om * 1) od ++ [.int .u8 (byteAt s (Int.toNat i))] ++ tail)) 5 true)] else False else False else bif decide ((↑(0 + Int.toNat (intAt d (0 + Int.toNat i * 1)) * 1) : Int) = 4) then bif byteAt s (Int.toNat i) == 83 || true then bif byteAt s (Int.toNat i) == 83 && mi then bif Nat.beq (List.length od) (oc * 1) && Nat.ble om oc && Nat.ble oc 9223372036854775807 && true && fitsA (om + 1) 1 then ∀ (cap_1 : Nat) (tail : List Value), tailOK tail cap_1 (om + 1) 1 = true → bif goodL [(269, 200)] d && (goodL [(269, 200)] (List.take (om * 1) od ++ [.int .u8 45] ++ tail) && true) && true then R Exit.normal [.pointer (some (.mk 0 0 (some 0))), .bool m2, .string r6, .int .i64 r7, .pointer (some (.mk 8 0 (some 0))), .pointer (some (.mk 22 0 (some 0))), .slice (some (.mk 200 0 (some 1))) (om + 1) cap_1, .slice (some (.mk 1 0 (some 1))) k2 cap2, .int .i64 L, .int .i64 (IntKind.wrap .i64 (i + 1))] [some (.mk [.string s, .bool nb, .int .i64 w, .int .i64 dg, .int .i64 sc, .bool sg, .slice (some (.mk 1 0 (some 1))) k cap, .int .u8 dr, .int .i64 f, .bool cr, .int .u8 fl, .int .i64 fm] 84 false), some (.mk (rlbL [(269, 200)] d) 102 false), some (.mk [.pointer (some (.mk 0 0 (some 0))), .string nu, .bool mi, .int .i64 us, .int .i64 (IntKind.wrap .i64 (at0 + 1)), .int .i64 ld] 109 true), some (.mk [Value.func (Fn.func 91) (.mk []) (.mk []), Value.func (Fn.func 92) (.mk []) (.mk []), Value.nilFunc, Value.func (Fn.func 93) (.mk []) (.mk []), Value.func (Fn.func 94) (.mk []) (.mk []), Value.func (Fn.func 95) (.mk []) (.mk [])] 112 true), some (.mk (rlbL [(269, 200)] (List.take (om * 1) od ++ [.int .u8 45] ++ tail)) 5 true)] else False else False else bif byteAt s (Int.toNat i) == 83 then bif Nat.beq (List.length od) (oc * 1) && Nat.ble om oc && Nat.ble oc 9223372036854775807 && true && fitsA (om + 1) 1 then ∀ (cap_1 : Nat) (tail : List Value), tailOK tail cap_1 (om + 1) 1 = true → bif goodL [(272, 200)] d && (goodL [(272, 200)] (List.take (om * 1) od ++ [.int .u8 43] ++ tail) && true) && true then R Exit.normal [.pointer (some (.mk 0 0 (some 0))), .bool m2, .string r6, .int .i64 r7, .pointer (some (.mk 8 0 (some 0))), .pointer (some (.mk 22 0 (some 0))), .slice (some (.mk 200 0 (some 1))) (om + 1) cap_1, .slice (some (.mk 1 0 (some 1))) k2 cap2, .int .i64 L, .int .i64 (IntKind.wrap .i64 (i + 1))] [some (.mk [.string s, .bool nb, .int .i64 w, .int .i64 dg, .int .i64 sc, .bool sg, .slice (some (.mk 1 0 (some 1))) k cap, .int .u8 dr, .int .i64 f, .bool cr, .int .u8 fl, .int .i64 fm] 84 false), some (.mk (rlbL [(272, 200)] d) 102 false), some (.mk [.pointer (some (.mk 0 0 (some 0))), .string nu, .bool mi, .int .i64 us, .int .i64 (IntKind.wrap .i64 (at0 + 1)), .int .i64 ld] 109 true), some (.mk [Value.func (Fn.func 91) (.mk []) (.mk []), Value.func (Fn.func 92) (.mk []) (.mk []), Value.nilFunc, Value.func (Fn.func 93) (.mk []) (.mk []), Value.func (Fn.func 94) (.mk []) (.mk []), Value.func (Fn.func 95) (.mk []) (.mk [])] 112 true), some (.mk (rlbL [(272, 200)] (List.take (om * 1) od ++ [.int .u8 43] ++ tail)) 5 true)] else False else False else bif (byteAt s (Int.toNat i) == 43) == mi then bif Nat.beq (List.length od) (oc * 1) && Nat.ble om oc && Nat.ble oc 9223372036854775807 && true && fitsA (om + 1) 1 then ∀ (cap_1 : Nat) (tail : List Value), tailOK tail cap_1 (om + 1) 1 = true → bif goodL [(280, 200)] d && (goodL [(280, 200)] (List.take (om * 1) od ++ [.int .u8 32] ++ tail) && true) && true then R Exit.normal [.pointer (some (.mk 0 0 (some 0))), .bool m2, .string r6, .int .i64 r7, .pointer (some (.mk 8 0 (some 0))), .pointer (some (.mk 22 0 (some 0))), .slice (some (.mk 200 0 (some 1))) (om + 1) cap_1, .slice (some (.mk 1 0 (some 1))) k2 cap2, .int .i64 L, .int .i64 (IntKind.wrap .i64 (i + 1))] [some (.mk [.string s, .bool nb, .int .i64 w, .int .i64 dg, .int .i64 sc, .bool sg, .slice (some (.mk 1 0 (some 1))) k cap, .int .u8 dr, .int .i64 f, .bool cr, .int .u8 fl, .int .i64 fm] 84 false), some (.mk (rlbL [(280, 200)] d) 102 false), some (.mk [.pointer (some (.mk 0 0 (some 0))), .string nu, .bool mi, .int .i64 us, .int .i64 (IntKind.wrap .i64 (at0 + 1)), .int .i64 ld] 109 true), some (.mk [Value.func (Fn.func 91) (.mk []) (.mk []), Value.func (Fn.func 92) (.mk []) (.mk []), Value.nilFunc, Value.func (Fn.func 93) (.mk []) (.mk []), Value.func (Fn.func 94) (.mk []) (.mk []), Value.func (Fn.func 95) (.mk []) (.mk [])] 112 true), some (.mk (rlbL [(280, 200)] (List.take (om * 1) od ++ [.int .u8 32] ++ tail)) 5 true)] else False else False else bif Nat.beq (List.length od) (oc * 1) && Nat.ble om oc && Nat.ble oc 9223372036854775807 && true && fitsA (om + 1) 1 then ∀ (cap_1 : Nat) (tail : List Value), tailOK tail cap_1 (om + 1) 1 = true → bif goodL [(281, 200)] d && (goodL [(281, 200)] (List.take (om * 1) od ++ [.int .u8 (byteAt s (Int.toNat i))] ++ tail) && true) && true then R Exit.normal [.pointer (some (.mk 0 0 (some 0))), .bool m2, .string r6, .int .i64 r7, .pointer (some (.mk 8 0 (some 0))), .pointer (some (.mk 22 0 (some 0))), .slice (some (.mk 200 0 (some 1))) (om + 1) cap_1, .slice (some (.mk 1 0 (some 1))) k2 cap2, .int .i64 L, .int .i64 (IntKind.wrap .i64 (i + 1))] [some (.mk [.string s, .bool nb, .int .i64 w, .int .i64 dg, .int .i64 sc, .bool sg, .slice (some (.mk 1 0 (some 1))) k cap, .int .u8 dr, .int .i64 f, .bool cr, .int .u8 fl, .int .i64 fm] 84 false), some (.mk (rlbL [(281, 200)] d) 102 false), some (.mk [.pointer (some (.mk 0 0 (some 0))), .string nu, .bool mi, .int .i64 us, .int .i64 (IntKind.wrap .i64 (at0 + 1)), .int .i64 ld] 109 true), some (.mk [Value.func (Fn.func 91) (.mk []) (.mk []), Value.func (Fn.func 92) (.mk []) (.mk []), Value.nilFunc, Value.func (Fn.func 93) (.mk []) (.mk []), Value.func (Fn.func 94) (.mk []) (.mk []), Value.func (Fn.func 95) (.mk []) (.mk [])] 112 true), some (.mk (rlbL [(281, 200)] (List.take (om * 1) od ++ [.int .u8 (byteAt s (Int.toNat i))] ++ tail)) 5 true)] else False else False else False else bif decide ((↑(0 + Int.toNat (intAt d (0 + Int.toNat i * 1)) * 1) : Int) = 5) then bif Nat.beq (List.length od) (oc * 1) && Nat.ble om oc && Nat.ble oc 9223372036854775807 && true && fitsA (om + 1) 1 then ∀ (cap_1 : Nat) (tail : List Value), tailOK tail cap_1 (om + 1) 1 = true → bif goodL [(261, 200)] d && (goodL [(261, 200)] (List.take (om * 1) od ++ [.int .u8 (byteAt s (Int.toNat i))] ++ tail) && true) && true then R Exit.normal [.pointer (some (.mk 0 0 (some 0))), .bool m2, .string r6, .int .i64 r7, .pointer (some (.mk 8 0 (some 0))), .pointer (some (.mk 22 0 (some 0))), .slice (some (.mk 200 0 (some 1))) (om + 1) cap_1, .slice (some (.mk 1 0 (some 1))) k2 cap2, .int .i64 L, .int .i64 (IntKind.wrap .i64 (i + 1))] [some (.mk [.string s, .bool nb, .int .i64 w, .int .i64 dg, .int .i64 sc, .bool sg, .slice (some (.mk 1 0 (some 1))) k cap, .int .u8 dr, .int .i64 f, .bool cr, .int .u8 fl, .int .i64 fm] 84 false), some (.mk (rlbL [(261, 200)] d) 102 false), some (.mk [.pointer (some (.mk 0 0 (some 0))), .string nu, .bool mi, .int .i64 us, .int .i64 (IntKind.wrap .i64 (at0 + 1)), .int .i64 ld] 109 true), some (.mk [Value.func (Fn.func 91) (.mk []) (.mk []), Value.func (Fn.func 92) (.mk []) (.mk []), Value.nilFunc, Value.func (Fn.func 93) (.mk []) (.mk []), Value.func (Fn.func 94) (.mk []) (.mk []), Value.func (Fn.func 95) (.mk []) (.mk [])] 112 true), some (.mk (rlbL [(261, 200)] (List.take (om * 1) od ++ [.int .u8 (byteAt s (Int.toNat i))] ++ tail)) 5 true)] else False else False else False else False else False else False else False else False else bif goodL [(200, 200)] d && (goodL [(200, 200)] od && true) && true then R (Exit.exit 0) [.pointer (some (.mk 0 0 (some 0))), .bool m2, .string r6, .int .i64 r7, .pointer (some (.mk 8 0 (some 0))), .pointer (some (.mk 22 0 (some 0))), .slice (some (.mk 200 0 (some 1))) om oc, .slice (some (.mk 1 0 (some 1))) k2 cap2, .int .i64 L, .int .i64 i] [some (.mk [.string s, .bool nb, .int .i64 w, .int .i64 dg, .int .i64 sc, .bool sg, .slice (some (.mk 1 0 (some 1))) k cap, .int .u8 dr, .int .i64 f, .bool cr, .int .u8 fl, .int .i64 fm] 84 false), some (.mk (rlbL [(200, 200)] d) 102 false), some (.mk [.pointer (some (.mk 0 0 (some 0))), .string nu, .bool mi, .int .i64 us, .int .i64 at0, .int .i64 ld] 109 true), some (.mk [Value.func (Fn.func 91) (.mk []) (.mk []), Value.func (Fn.func 92) (.mk []) (.mk []), Value.nilFunc, Value.func (Fn.func 93) (.mk []) (.mk []), Value.func (Fn.func 94) (.mk []) (.mk []), Value.func (Fn.func 95) (.mk []) (.mk [])] 112 true), some (.mk (rlbL [(200, 200)] od) 5 true)] else False) := by kernel_rfl
theorem l64_0 : LOKf Tryz.prog (oneL 0 S64_0.hA) Tryz.f64 := by
 refine lokf_one (h := S64_0.hA) (by kernel_rfl) (loop_specA ok_G35 hmix (by kernel_rfl) (lok_none _) S64_0 V64_0 B64_0 (fun (m2, r6, r7, o, k2, cap2, L, i, s, nb, w, dg, sc, sg, k, cap, dr, f, cr, fl, fm, nu, mi, us, at0, ld, d) => (k2 - i).toNat) ?_ ?_ ?_)
 ·intro vs bs s h
  simp only [S64_0] at h
  split at h
  all_goals first | (cases h; exact ⟨rfl, rfl⟩) | cases h | (split at h <;> first | (rename_i hq; cases h; have hq := isHow_eq hq; subst hq; exact ⟨rfl, rfl⟩) | cases h)
 ·exact fun ⟨m2, r6, r7, o, k2, cap2, L, i, s, nb, w, dg, sc, sg, k, cap, dr, f, cr, fl, fm, nu, mi, us, at0, ld, d⟩ hp => by
   simp only [S64_0, Bool.and_eq_true] at hp
   have hr := rowIOK_iff.1 hp.2.1
   cases o with
   | nil => simp [how, V64_0, B64_0, S64_0, idsLt, idsLtB, idsL, ids, Rw.v, Rw.b, ids_plainL hr.plain]
   | own od om oc => simp [how, V64_0, B64_0, S64_0, idsLt, idsLtB, idsL, ids, Rw.v, Rw.b, ids_plainL hr.plain, ids_plainL (rowOK_iff.1 hp.1).plain]
 ·intro ⟨m2, r6, r7, o, k2, cap2, L, i, s, nb, w, dg, sc, sg, k, cap, dr, f, cr, fl, fm, nu, mi, us, at0, ld, d⟩ jk Z hp hf
  simp only [S64_0] at hp hf
  cases o with
  | nil =>
   rw [r64_0n]
   simp only [Bool.and_eq_true, decide_eq_true_eq] at hp
   obtain ⟨-, hR, hO, hD, rfl, hp⟩ := hp
   have hr := rowIOK_iff.1 hR
   simp only [Rw.z, List.length_nil] at hp hf
   have e0 : 0 + i.toNat * 1 = i.toNat := by omega
   rw [e0]
   refine cond_intro (fun h => ?_) (fun h => ?_)
   ·have h := of_decide_eq_true h
    obtain ⟨a1, a3⟩ := hr.at hp.1 (by omega)
    have hro := roOK_at hO a3
    rw [a3, wrGo, bz_at hp.1 (by omega), List.headD_cons, List.tail_cons] at hf
    rw [a3] at hp
    have hc1 := @cdg_c (intAt d i.toNat) ((zc d k2).drop (i + 1).toNat)
    have hc2 := cdg_nn ((zc d k2).drop (i + 1).toNat)
    rw [a1, w64 (n := i + 1) (by omega), w64 (n := at0 + 1) (by omega), w64 (n := (s.size : Int) - 2) (by omega)]
    have eu : IntKind.wrap .i64 (IntKind.wrap .i64 (us + 1) - 1) = us := by rw [w64 (n := us + 1) (by omega), w64 (by omega)]; omega
    rw [eu]
    generalize intAt d i.toNat = r at *
    generalize byteAt s i.toNat = c at *
    have er : ((0 + r.toNat * 1 : Nat) : Int) = r := by omega
    rw [er]
    refine c_t (decide_eq_true (by omega)) (c_t rfl (c_t (decide_eq_true (by omega)) (cond_intro (fun q => ?_) (fun q => ?_))))
    ·rw [q, cond_true] at hf
     refine c_t (by rw [hr.good]; rfl) ?_
     rw [hr.rlb]
     exact ⟨(m2, r6, r7, .nil, k2, cap2, L, i + 1, s, nb, w, dg, sc, sg, k, cap, dr, f, cr, fl, fm, nu, m2, us, at0, ld, d), rfl, rfl, by simp only [S64_0, Bool.and_eq_true, decide_eq_true_eq]; exact ⟨rfl, hR, hO, hD, trivial, by simp only [Rw.z, List.length_nil]; omega⟩, by simp only; omega, hf⟩
    ·rw [q, cond_false] at hf
     refine cond_intro (fun q0 => ?_) (fun q0 => c_t (by simp) (cond_intro (fun q1 => cond_intro (fun q2 => ?_) (fun q2 => ?_)) (fun q1 => c_t (decide_eq_true hro) ?_)))
     ·intro cap1 tail ht
      obtain ⟨h1, h2⟩ : RowP (Value.int IntKind.u8 (fl) :: tail) 1 cap1 ∧ zc (Value.int IntKind.u8 (fl) :: tail) 1 = [fl] := row_new [fl] ht
      have hl1 := zc_length h1
      generalize Value.int IntKind.u8 (fl) :: tail = od' at *
      have e : wrC f cr s.size m2 ld fl r c (List.headD (List.drop us.toNat (bz nu)) 0) i at0 = fl := by
       simp only [wrC, q0, cond_true, cond_false]
      have eT : wrT f cr s.size r i = false := by simp only [wrT, q0, cond_true, cond_false, Bool.not_true, Bool.not_false, Bool.true_and, Bool.false_and, Bool.true_or, Bool.or_true, Bool.false_or, Bool.and_false, Bool.and_true]
      rw [e, eT, cond_false] at hf
      refine c_t (by rw [hr.good, h1.good]; rfl) ?_
      rw [hr.rlb, h1.rlb]
      exact ⟨(m2, r6, r7, .own od' (1) cap1, k2, cap2, L, i + 1, s, nb, w, dg, sc, sg, k, cap, dr, f, cr, fl, fm, nu, m2, us, at0 + 1, ld, d), rfl, rfl, by simp only [S64_0, Bool.and_eq_true, decide_eq_true_eq]; exact ⟨rowOK_iff.2 h1, hR, hO, hD, trivial, by simp only [Rw.z, hl1]; omega⟩, by simp only; omega, ⟨fun q => (by cases q), fun us' at' i' od'' om'' oc'' g1 g2 => hf.2 us' at' i' od'' om'' oc'' g1 (by rw [g2]; simp only [Rw.z, h2, List.append_assoc, List.cons_append, List.nil_append])⟩⟩
     ·intro cap1 tail ht
      obtain ⟨h1, h2⟩ : RowP (Value.int IntKind.u8 (32) :: tail) 1 cap1 ∧ zc (Value.int IntKind.u8 (32) :: tail) 1 = [32] := row_new [32] ht
      have hl1 := zc_length h1
      generalize Value.int IntKind.u8 (32) :: tail = od' at *
      have e : wrC f cr s.size m2 ld fl r c (List.headD (List.drop us.toNat (bz nu)) 0) i at0 = 32 := by
       simp only [wrC, q0, q1, q2, cond_true, cond_false]
      have eT : wrT f cr s.size r i = false := by simp only [wrT, q0, q1, q2, cond_true, cond_false, Bool.not_true, Bool.not_false, Bool.true_and, Bool.false_and, Bool.true_or, Bool.or_true, Bool.false_or, Bool.and_false, Bool.and_true]
      rw [e, eT, cond_false] at hf
      refine c_t (by rw [hr.good, h1.good]; rfl) ?_
      rw [hr.rlb, h1.rlb]
      exact ⟨(m2, r6, r7, .own od' (1) cap1, k2, cap2, L, i + 1, s, nb, w, dg, sc, sg, k, cap, dr, f, cr, fl, fm, nu, m2, us, at0 + 1, ld, d), rfl, rfl, by simp only [S64_0, Bool.and_eq_true, decide_eq_true_eq]; exact ⟨rowOK_iff.2 h1, hR, hO, hD, trivial, by simp only [Rw.z, hl1]; omega⟩, by simp only; omega, ⟨fun q => (by cases q), fun us' at' i' od'' om'' oc'' g1 g2 => hf.2 us' at' i' od'' om'' oc'' g1 (by rw [g2]; simp only [Rw.z, h2, List.append_assoc, List.cons_append, List.nil_append])⟩⟩
     ·intro cap1 tail ht
      obtain ⟨h1, h2⟩ : RowP (Value.int IntKind.u8 (c) :: tail) 1 cap1 ∧ zc (Value.int IntKind.u8 (c) :: tail) 1 = [c] := row_new [c] ht
      have hl1 := zc_length h1
      generalize Value.int IntKind.u8 (c) :: tail = od' at *
      have e : wrC f cr s.size m2 ld fl r c (List.headD (List.drop us.toNat (bz nu)) 0) i at0 = c := by
       simp only [wrC, q0, q1, q2, cond_true, cond_false]
      have eT : wrT f cr s.size r i = false := by simp only [wrT, q0, q1, q2, cond_true, cond_false, Bool.not_true, Bool.not_false, Bool.true_and, Bool.false_and, Bool.true_or, Bool.or_true, Bool.false_or, Bool.and_false, Bool.and_true]
      rw [e, eT, cond_false] at hf
      refine c_t (by rw [hr.good, h1.good]; rfl) ?_
      rw [hr.rlb, h1.rlb]
      exact ⟨(m2, r6, r7, .own od' (1) cap1, k2, cap2, L, i + 1, s, nb, w, dg, sc, sg, k, cap, dr, f, cr, fl, fm, nu, m2, us, at0 + 1, ld, d), rfl, rfl, by simp only [S64_0, Bool.and_eq_true, decide_eq_true_eq]; exact ⟨rowOK_iff.2 h1, hR, hO, hD, trivial, by simp only [Rw.z, hl1]; omega⟩, by simp only; omega, ⟨fun q => (by cases q), fun us' at' i' od'' om'' oc'' g1 g2 => hf.2 us' at' i' od'' om'' oc'' g1 (by rw [g2]; simp only [Rw.z, h2, List.append_assoc, List.cons_append, List.nil_append])⟩⟩
     ·refine cond_intro (fun n => ?_) (fun m => cond_intro (fun n => ?_) (fun m1 => cond_intro (fun n => ?_) (fun m2' => cond_intro (fun n => ?_) (fun m3 => cond_intro (fun n => ?_) (fun m4 => ?_)))))
      ·have n0 := of_decide_eq_true n
       have hc3 := @cdg_1 r ((zc d k2).drop (i + 1).toNat) (by omega)
       have hd := dgb_at hD hp.2.2.2.2.2.2.1 (by omega)
       have ed := bz_at hp.2.2.2.2.2.2.1 (s := nu) (by omega)
       have ed' : List.headD (List.drop us.toNat (bz nu)) 0 = byteAt nu us.toNat := by rw [ed]; rfl
       rw [w8 (n := byteAt nu us.toNat - 48) (by omega), w64 (n := byteAt nu us.toNat - 48) (by omega)]
       generalize byteAt nu us.toNat = dd at *
       refine c_t (decide_eq_true (by omega)) (c_t (by simp) (cond_intro (fun q2 => ?_) (fun q2 => c_t (by cases c == 84 <;> cases c == 73 <;> simp) (cond_intro (fun q3 => ?_) (fun q3 => ?_)))))
       ·intro cap1 tail ht
        obtain ⟨h1, h2⟩ : RowP (Value.int IntKind.u8 (32) :: tail) 1 cap1 ∧ zc (Value.int IntKind.u8 (32) :: tail) 1 = [32] := row_new [32] ht
        have hl1 := zc_length h1
        generalize Value.int IntKind.u8 (32) :: tail = od' at *
        have e : wrC f cr s.size m2 ld fl r c (List.headD (List.drop us.toNat (bz nu)) 0) i at0 = 32 := by
         simp only [wrC, q0, q1, n, ed', cond_true, cond_false]
         exact fm_a q2
        have eT : wrT f cr s.size r i = true := by simp only [wrT, q0, q1, n, ed', cond_true, cond_false, Bool.not_true, Bool.not_false, Bool.true_and, Bool.false_and, Bool.true_or, Bool.or_true, Bool.false_or, Bool.and_false, Bool.and_true]
        rw [e, eT, cond_true, ed, List.tail_cons] at hf
        rw [w64 (n := us + 1) (by omega)]
        refine c_t (by rw [hr.good, h1.good]; rfl) ?_
        rw [hr.rlb, h1.rlb]
        exact ⟨(m2, r6, r7, .own od' (1) cap1, k2, cap2, L, i + 1, s, nb, w, dg, sc, sg, k, cap, dr, f, cr, fl, fm, nu, m2, us + 1, at0 + 1, ld, d), rfl, rfl, by simp only [S64_0, Bool.and_eq_true, decide_eq_true_eq]; exact ⟨rowOK_iff.2 h1, hR, hO, hD, trivial, by simp only [Rw.z, hl1]; omega⟩, by simp only; omega, ⟨fun q => (by cases q), fun us' at' i' od'' om'' oc'' g1 g2 => hf.2 us' at' i' od'' om'' oc'' g1 (by rw [g2]; simp only [Rw.z, h2, List.append_assoc, List.cons_append, List.nil_append])⟩⟩
       ·intro cap1 tail ht
        obtain ⟨h1, h2⟩ : RowP (Value.int IntKind.u8 (puZ (dd - 48) m2) :: tail) 1 cap1 ∧ zc (Value.int IntKind.u8 (puZ (dd - 48) m2) :: tail) 1 = [puZ (dd - 48) m2] := row_new [puZ (dd - 48) m2] ht
        have hl1 := zc_length h1
        generalize Value.int IntKind.u8 (puZ (dd - 48) m2) :: tail = od' at *
        have e : wrC f cr s.size m2 ld fl r c (List.headD (List.drop us.toNat (bz nu)) 0) i at0 = puZ (dd - 48) m2 := by
         simp only [wrC, q0, q1, n, ed', cond_true, cond_false]
         exact fm_b q2 q3
        have eT : wrT f cr s.size r i = true := by simp only [wrT, q0, q1, n, ed', cond_true, cond_false, Bool.not_true, Bool.not_false, Bool.true_and, Bool.false_and, Bool.true_or, Bool.or_true, Bool.false_or, Bool.and_false, Bool.and_true]
        rw [e, eT, cond_true, ed, List.tail_cons] at hf
        rw [w64 (n := us + 1) (by omega)]
        refine c_t (by rw [hr.good, h1.good]; rfl) ?_
        rw [hr.rlb, h1.rlb]
        exact ⟨(m2, r6, r7, .own od' (1) cap1, k2, cap2, L, i + 1, s, nb, w, dg, sc, sg, k, cap, dr, f, cr, fl, fm, nu, m2, us + 1, at0 + 1, ld, d), rfl, rfl, by simp only [S64_0, Bool.and_eq_true, decide_eq_true_eq]; exact ⟨rowOK_iff.2 h1, hR, hO, hD, trivial, by simp only [Rw.z, hl1]; omega⟩, by simp only; omega, ⟨fun q => (by cases q), fun us' at' i' od'' om'' oc'' g1 g2 => hf.2 us' at' i' od'' om'' oc'' g1 (by rw [g2]; simp only [Rw.z, h2, List.append_assoc, List.cons_append, List.nil_append])⟩⟩
       ·intro cap1 tail ht
        obtain ⟨h1, h2⟩ : RowP (Value.int IntKind.u8 (dd) :: tail) 1 cap1 ∧ zc (Value.int IntKind.u8 (dd) :: tail) 1 = [dd] := row_new [dd] ht
        have hl1 := zc_length h1
        generalize Value.int IntKind.u8 (dd) :: tail = od' at *
        have e : wrC f cr s.size m2 ld fl r c (List.headD (List.drop us.toNat (bz nu)) 0) i at0 = dd := by
         simp only [wrC, q0, q1, n, ed', cond_true, cond_false]
         exact fm_c q2 q3
        have eT : wrT f cr s.size r i = true := by simp only [wrT, q0, q1, n, ed', cond_true, cond_false, Bool.not_true, Bool.not_false, Bool.true_and, Bool.false_and, Bool.true_or, Bool.or_true, Bool.false_or, Bool.and_false, Bool.and_true]
        rw [e, eT, cond_true, ed, List.tail_cons] at hf
        rw [w64 (n := us + 1) (by omega)]
        refine c_t (by rw [hr.good, h1.good]; rfl) ?_
        rw [hr.rlb, h1.rlb]
        exact ⟨(m2, r6, r7, .own od' (1) cap1, k2, cap2, L, i + 1, s, nb, w, dg, sc, sg, k, cap, dr, f, cr, fl, fm, nu, m2, us + 1, at0 + 1, ld, d), rfl, rfl, by simp only [S64_0, Bool.and_eq_true, decide_eq_true_eq]; exact ⟨rowOK_iff.2 h1, hR, hO, hD, trivial, by simp only [Rw.z, hl1]; omega⟩, by simp only; omega, ⟨fun q => (by cases q), fun us' at' i' od'' om'' oc'' g1 g2 => hf.2 us' at' i' od'' om'' oc'' g1 (by rw [g2]; simp only [Rw.z, h2, List.append_assoc, List.cons_append, List.nil_append])⟩⟩
      ·have n0 := of_decide_eq_true n
       have hc3 := @cdg_1 r ((zc d k2).drop (i + 1).toNat) (by omega)
       have hd := dgb_at hD hp.2.2.2.2.2.2.1 (by omega)
       have ed := bz_at hp.2.2.2.2.2.2.1 (s := nu) (by omega)
       have ed' : List.headD (List.drop us.toNat (bz nu)) 0 = byteAt nu us.toNat := by rw [ed]; rfl
       generalize byteAt nu us.toNat = dd at *
       refine c_t (decide_eq_true (by omega)) (cond_intro (fun q2 => ?_) (fun q2 => ?_))
       ·intro cap1 tail ht
        obtain ⟨h1, h2⟩ : RowP (Value.int IntKind.u8 (fl) :: tail) 1 cap1 ∧ zc (Value.int IntKind.u8 (fl) :: tail) 1 = [fl] := row_new [fl] ht
        have hl1 := zc_length h1
        generalize Value.int IntKind.u8 (fl) :: tail = od' at *
        have e : wrC f cr s.size m2 ld fl r c (List.headD (List.drop us.toNat (bz nu)) 0) i at0 = fl := by
         simp only [wrC, q0, q1, m, n, q2, ed', cond_true, cond_false]
        have eT : wrT f cr s.size r i = true := by simp only [wrT, q0, q1, m, n, q2, ed', cond_true, cond_false, Bool.not_true, Bool.not_false, Bool.true_and, Bool.false_and, Bool.true_or, Bool.or_true, Bool.false_or, Bool.and_false, Bool.and_true]
        rw [e, eT, cond_true, ed, List.tail_cons] at hf
        rw [w64 (n := us + 1) (by omega)]
        refine c_t (by rw [hr.good, h1.good]; rfl) ?_
        rw [hr.rlb, h1.rlb]
        exact ⟨(m2, r6, r7, .own od' (1) cap1, k2, cap2, L, i + 1, s, nb, w, dg, sc, sg, k, cap, dr, f, cr, fl, fm, nu, m2, us + 1, at0 + 1, ld, d), rfl, rfl, by simp only [S64_0, Bool.and_eq_true, decide_eq_true_eq]; exact ⟨rowOK_iff.2 h1, hR, hO, hD, trivial, by simp only [Rw.z, hl1]; omega⟩, by simp only; omega, ⟨fun q => (by cases q), fun us' at' i' od'' om'' oc'' g1 g2 => hf.2 us' at' i' od'' om'' oc'' g1 (by rw [g2]; simp only [Rw.z, h2, List.append_assoc, List.cons_append, List.nil_append])⟩⟩
       ·intro cap1 tail ht
        obtain ⟨h1, h2⟩ : RowP (Value.int IntKind.u8 (dd) :: tail) 1 cap1 ∧ zc (Value.int IntKind.u8 (dd) :: tail) 1 = [dd] := row_new [dd] ht
        have hl1 := zc_length h1
        generalize Value.int IntKind.u8 (dd) :: tail = od' at *
        have e : wrC f cr s.size m2 ld fl r c (List.headD (List.drop us.toNat (bz nu)) 0) i at0 = dd := by
         simp only [wrC, q0, q1, m, n, q2, ed', cond_true, cond_false]
        have eT : wrT f cr s.size r i = true := by simp only [wrT, q0, q1, m, n, q2, ed', cond_true, cond_false, Bool.not_true, Bool.not_false, Bool.true_and, Bool.false_and, Bool.true_or, Bool.or_true, Bool.false_or, Bool.and_false, Bool.and_true]
        rw [e, eT, cond_true, ed, List.tail_cons] at hf
        rw [w64 (n := us + 1) (by omega)]
        refine c_t (by rw [hr.good, h1.good]; rfl) ?_
        rw [hr.rlb, h1.rlb]
        exact ⟨(m2, r6, r7, .own od' (1) cap1, k2, cap2, L, i + 1, s, nb, w, dg, sc, sg, k, cap, dr, f, cr, fl, fm, nu, m2, us + 1, at0 + 1, ld, d), rfl, rfl, by simp only [S64_0, Bool.and_eq_true, decide_eq_true_eq]; exact ⟨rowOK_iff.2 h1, hR, hO, hD, trivial, by simp only [Rw.z, hl1]; omega⟩, by simp only; omega, ⟨fun q => (by cases q), fun us' at' i' od'' om'' oc'' g1 g2 => hf.2 us' at' i' od'' om'' oc'' g1 (by rw [g2]; simp only [Rw.z, h2, List.append_assoc, List.cons_append, List.nil_append])⟩⟩
      ·have n := of_decide_eq_true n
       rw [n] at q
       cases q
      ·refine cond_intro (fun q2 => ?_) (fun q2 => cond_intro (fun q3 => ?_) (fun q3 => ?_))
       ·intro cap1 tail ht
        obtain ⟨h1, h2⟩ : RowP (Value.int IntKind.u8 (32) :: tail) 1 cap1 ∧ zc (Value.int IntKind.u8 (32) :: tail) 1 = [32] := row_new [32] ht
        have hl1 := zc_length h1
        generalize Value.int IntKind.u8 (32) :: tail = od' at *
        have e : wrC f cr s.size m2 ld fl r c (List.headD (List.drop us.toNat (bz nu)) 0) i at0 = 32 := by
         simp only [wrC, q0, q1, m, m1, n, q2, cond_true, cond_false]
        have eT : wrT f cr s.size r i = false := by simp only [wrT, q0, q1, m, m1, n, q2, cond_true, cond_false, Bool.not_true, Bool.not_false, Bool.true_and, Bool.false_and, Bool.true_or, Bool.or_true, Bool.false_or, Bool.and_false, Bool.and_true]
        rw [e, eT, cond_false] at hf
        refine c_t (by rw [hr.good, h1.good]; rfl) ?_
        rw [hr.rlb, h1.rlb]
        exact ⟨(m2, r6, r7, .own od' (1) cap1, k2, cap2, L, i + 1, s, nb, w, dg, sc, sg, k, cap, dr, f, cr, fl, fm, nu, m2, us, at0 + 1, ld, d), rfl, rfl, by simp only [S64_0, Bool.and_eq_true, decide_eq_true_eq]; exact ⟨rowOK_iff.2 h1, hR, hO, hD, trivial, by simp only [Rw.z, hl1]; omega⟩, by simp only; omega, ⟨fun q => (by cases q), fun us' at' i' od'' om'' oc'' g1 g2 => hf.2 us' at' i' od'' om'' oc'' g1 (by rw [g2]; simp only [Rw.z, h2, List.append_assoc, List.cons_append, List.nil_append])⟩⟩
       ·intro cap1 tail ht
        obtain ⟨h1, h2⟩ : RowP (Value.int IntKind.u8 (fl) :: tail) 1 cap1 ∧ zc (Value.int IntKind.u8 (fl) :: tail) 1 = [fl] := row_new [fl] ht
        have hl1 := zc_length h1
        generalize Value.int IntKind.u8 (fl) :: tail = od' at *
        have e : wrC f cr s.size m2 ld fl r c (List.headD (List.drop us.toNat (bz nu)) 0) i at0 = fl := by
         simp only [wrC, q0, q1, m, m1, n, q2, q3, cond_true, cond_false]
        have eT : wrT f cr s.size r i = false := by simp only [wrT, q0, q1, m, m1, n, q2, q3, cond_true, cond_false, Bool.not_true, Bool.not_false, Bool.true_and, Bool.false_and, Bool.true_or, Bool.or_true, Bool.false_or, Bool.and_false, Bool.and_true]
        rw [e, eT, cond_false] at hf
        refine c_t (by rw [hr.good, h1.good]; rfl) ?_
        rw [hr.rlb, h1.rlb]
        exact ⟨(m2, r6, r7, .own od' (1) cap1, k2, cap2, L, i + 1, s, nb, w, dg, sc, sg, k, cap, dr, f, cr, fl, fm, nu, m2, us, at0 + 1, ld, d), rfl, rfl, by simp only [S64_0, Bool.and_eq_true, decide_eq_true_eq]; exact ⟨rowOK_iff.2 h1, hR, hO, hD, trivial, by simp only [Rw.z, hl1]; omega⟩, by simp only; omega, ⟨fun q => (by cases q), fun us' at' i' od'' om'' oc'' g1 g2 => hf.2 us' at' i' od'' om'' oc'' g1 (by rw [g2]; simp only [Rw.z, h2, List.append_assoc, List.cons_append, List.nil_append])⟩⟩
       ·intro cap1 tail ht
        obtain ⟨h1, h2⟩ : RowP (Value.int IntKind.u8 (c) :: tail) 1 cap1 ∧ zc (Value.int IntKind.u8 (c) :: tail) 1 = [c] := row_new [c] ht
        have hl1 := zc_length h1
        generalize Value.int IntKind.u8 (c) :: tail = od' at *
        have e : wrC f cr s.size m2 ld fl r c (List.headD (List.drop us.toNat (bz nu)) 0) i at0 = c := by
         simp only [wrC, q0, q1, m, m1, n, q2, q3, cond_true, cond_false]
        have eT : wrT f cr s.size r i = false := by simp only [wrT, q0, q1, m, m1, n, q2, q3, cond_true, cond_false, Bool.not_true, Bool.not_false, Bool.true_and, Bool.false_and, Bool.true_or, Bool.or_true, Bool.false_or, Bool.and_false, Bool.and_true]
        rw [e, eT, cond_false] at hf
        refine c_t (by rw [hr.good, h1.good]; rfl) ?_
        rw [hr.rlb, h1.rlb]
        exact ⟨(m2, r6, r7, .own od' (1) cap1, k2, cap2, L, i + 1, s, nb, w, dg, sc, sg, k, cap, dr, f, cr, fl, fm, nu, m2, us, at0 + 1, ld, d), rfl, rfl, by simp only [S64_0, Bool.and_eq_true, decide_eq_true_eq]; exact ⟨rowOK_iff.2 h1, hR, hO, hD, trivial, by simp only [Rw.z, hl1]; omega⟩, by simp only; omega, ⟨fun q => (by cases q), fun us' at' i' od'' om'' oc'' g1 g2 => hf.2 us' at' i' od'' om'' oc'' g1 (by rw [g2]; simp only [Rw.z, h2, List.append_assoc, List.cons_append, List.nil_append])⟩⟩
      ·refine c_t (by simp) (cond_intro (fun q2 => ?_) (fun q2 => cond_intro (fun q3 => ?_) (fun q3 => cond_intro (fun q4 => ?_) (fun q4 => ?_))))
       ·intro cap1 tail ht
        obtain ⟨h1, h2⟩ : RowP (Value.int IntKind.u8 (45) :: tail) 1 cap1 ∧ zc (Value.int IntKind.u8 (45) :: tail) 1 = [45] := row_new [45] ht
        have hl1 := zc_length h1
        generalize Value.int IntKind.u8 (45) :: tail = od' at *
        have e : wrC f cr s.size m2 ld fl r c (List.headD (List.drop us.toNat (bz nu)) 0) i at0 = 45 := by
         simp only [wrC, q0, q1, m, m1, m3, n, q2, cond_true, cond_false]
        have eT : wrT f cr s.size r i = false := by simp only [wrT, q0, q1, m, m1, m3, n, q2, cond_true, cond_false, Bool.not_true, Bool.not_false, Bool.true_and, Bool.false_and, Bool.true_or, Bool.or_true, Bool.false_or, Bool.and_false, Bool.and_true]
        rw [e, eT, cond_false] at hf
        refine c_t (by rw [hr.good, h1.good]; rfl) ?_
        rw [hr.rlb, h1.rlb]
        exact ⟨(m2, r6, r7, .own od' (1) cap1, k2, cap2, L, i + 1, s, nb, w, dg, sc, sg, k, cap, dr, f, cr, fl, fm, nu, m2, us, at0 + 1, ld, d), rfl, rfl, by simp only [S64_0, Bool.and_eq_true, decide_eq_true_eq]; exact ⟨rowOK_iff.2 h1, hR, hO, hD, trivial, by simp only [Rw.z, hl1]; omega⟩, by simp only; omega, ⟨fun q => (by cases q), fun us' at' i' od'' om'' oc'' g1 g2 => hf.2 us' at' i' od'' om'' oc'' g1 (by rw [g2]; simp only [Rw.z, h2, List.append_assoc, List.cons_append, List.nil_append])⟩⟩
       ·intro cap1 tail ht
        obtain ⟨h1, h2⟩ : RowP (Value.int IntKind.u8 (43) :: tail) 1 cap1 ∧ zc (Value.int IntKind.u8 (43) :: tail) 1 = [43] := row_new [43] ht
        have hl1 := zc_length h1
        generalize Value.int IntKind.u8 (43) :: tail = od' at *
        have e : wrC f cr s.size m2 ld fl r c (List.headD (List.drop us.toNat (bz nu)) 0) i at0 = 43 := by
         simp only [wrC, q0, q1, m, m1, m3, n, q2, cond_true, cond_false]
         rw [q3]
         rfl
        have eT : wrT f cr s.size r i = false := by simp only [wrT, q0, q1, m, m1, m3, n, q2, cond_true, cond_false, Bool.not_true, Bool.not_false, Bool.true_and, Bool.false_and, Bool.true_or, Bool.or_true, Bool.false_or, Bool.and_false, Bool.and_true]
        rw [e, eT, cond_false] at hf
        refine c_t (by rw [hr.good, h1.good]; rfl) ?_
        rw [hr.rlb, h1.rlb]
        exact ⟨(m2, r6, r7, .own od' (1) cap1, k2, cap2, L, i + 1, s, nb, w, dg, sc, sg, k, cap, dr, f, cr, fl, fm, nu, m2, us, at0 + 1, ld, d), rfl, rfl, by simp only [S64_0, Bool.and_eq_true, decide_eq_true_eq]; exact ⟨rowOK_iff.2 h1, hR, hO, hD, trivial, by simp only [Rw.z, hl1]; omega⟩, by simp only; omega, ⟨fun q => (by cases q), fun us' at' i' od'' om'' oc'' g1 g2 => hf.2 us' at' i' od'' om'' oc'' g1 (by rw [g2]; simp only [Rw.z, h2, List.append_assoc, List.cons_append, List.nil_append])⟩⟩
       ·intro cap1 tail ht
        obtain ⟨h1, h2⟩ : RowP (Value.int IntKind.u8 (32) :: tail) 1 cap1 ∧ zc (Value.int IntKind.u8 (32) :: tail) 1 = [32] := row_new [32] ht
        have hl1 := zc_length h1
        generalize Value.int IntKind.u8 (32) :: tail = od' at *
        have e : wrC f cr s.size m2 ld fl r c (List.headD (List.drop us.toNat (bz nu)) 0) i at0 = 32 := by
         simp only [wrC, q0, q1, m, m1, m3, n, q2, cond_true, cond_false]
         rw [q3, q4]
         rfl
        have eT : wrT f cr s.size r i = false := by simp only [wrT, q0, q1, m, m1, m3, n, q2, cond_true, cond_false, Bool.not_true, Bool.not_false, Bool.true_and, Bool.false_and, Bool.true_or, Bool.or_true, Bool.false_or, Bool.and_false, Bool.and_true]
        rw [e, eT, cond_false] at hf
        refine c_t (by rw [hr.good, h1.good]; rfl) ?_
        rw [hr.rlb, h1.rlb]
        exact ⟨(m2, r6, r7, .own od' (1) cap1, k2, cap2, L, i + 1, s, nb, w, dg, sc, sg, k, cap, dr, f, cr, fl, fm, nu, m2, us, at0 + 1, ld, d), rfl, rfl, by simp only [S64_0, Bool.and_eq_true, decide_eq_true_eq]; exact ⟨rowOK_iff.2 h1, hR, hO, hD, trivial, by simp only [Rw.z, hl1]; omega⟩, by simp only; omega, ⟨fun q => (by cases q), fun us' at' i' od'' om'' oc'' g1 g2 => hf.2 us' at' i' od'' om'' oc'' g1 (by rw [g2]; simp only [Rw.z, h2, List.append_assoc, List.cons_append, List.nil_append])⟩⟩
       ·intro cap1 tail ht
        obtain ⟨h1, h2⟩ : RowP (Value.int IntKind.u8 (c) :: tail) 1 cap1 ∧ zc (Value.int IntKind.u8 (c) :: tail) 1 = [c] := row_new [c] ht
        have hl1 := zc_length h1
        generalize Value.int IntKind.u8 (c) :: tail = od' at *
        have e : wrC f cr s.size m2 ld fl r c (List.headD (List.drop us.toNat (bz nu)) 0) i at0 = c := by
         simp only [wrC, q0, q1, m, m1, m3, n, q2, cond_true, cond_false]
         rw [q3, q4]
         rfl
        have eT : wrT f cr s.size r i = false := by simp only [wrT, q0, q1, m, m1, m3, n, q2, cond_true, cond_false, Bool.not_true, Bool.not_false, Bool.true_and, Bool.false_and, Bool.true_or, Bool.or_true, Bool.false_or, Bool.and_false, Bool.and_true]
        rw [e, eT, cond_false] at hf
        refine c_t (by rw [hr.good, h1.good]; rfl) ?_
        rw [hr.rlb, h1.rlb]
        exact ⟨(m2, r6, r7, .own od' (1) cap1, k2, cap2, L, i + 1, s, nb, w, dg, sc, sg, k, cap, dr, f, cr, fl, fm, nu, m2, us, at0 + 1, ld, d), rfl, rfl, by simp only [S64_0, Bool.and_eq_true, decide_eq_true_eq]; exact ⟨rowOK_iff.2 h1, hR, hO, hD, trivial, by simp only [Rw.z, hl1]; omega⟩, by simp only; omega, ⟨fun q => (by cases q), fun us' at' i' od'' om'' oc'' g1 g2 => hf.2 us' at' i' od'' om'' oc'' g1 (by rw [g2]; simp only [Rw.z, h2, List.append_assoc, List.cons_append, List.nil_append])⟩⟩
      ·have k0 := of_decide_eq_false m
       have k1 := of_decide_eq_false m1
       have k3 := of_decide_eq_false m3
       have k4 := of_decide_eq_false m4
       have k2' : r ≠ 2 := fun e => by rw [e] at q; cases q
       refine c_t (decide_eq_true (by omega)) ?_
       intro cap1 tail ht
       obtain ⟨h1, h2⟩ : RowP (Value.int IntKind.u8 (c) :: tail) 1 cap1 ∧ zc (Value.int IntKind.u8 (c) :: tail) 1 = [c] := row_new [c] ht
       have hl1 := zc_length h1
       generalize Value.int IntKind.u8 (c) :: tail = od' at *
       have e : wrC f cr s.size m2 ld fl r c (List.headD (List.drop us.toNat (bz nu)) 0) i at0 = c := by
        simp only [wrC, q0, q1, m, m1, m3, m4, cond_true, cond_false]
       have eT : wrT f cr s.size r i = false := by simp only [wrT, q0, q1, m, m1, m3, m4, cond_true, cond_false, Bool.not_true, Bool.not_false, Bool.true_and, Bool.false_and, Bool.true_or, Bool.or_true, Bool.false_or, Bool.and_false, Bool.and_true]
       rw [e, eT, cond_false] at hf
       refine c_t (by rw [hr.good, h1.good]; rfl) ?_
       rw [hr.rlb, h1.rlb]
       exact ⟨(m2, r6, r7, .own od' (1) cap1, k2, cap2, L, i + 1, s, nb, w, dg, sc, sg, k, cap, dr, f, cr, fl, fm, nu, m2, us, at0 + 1, ld, d), rfl, rfl, by simp only [S64_0, Bool.and_eq_true, decide_eq_true_eq]; exact ⟨rowOK_iff.2 h1, hR, hO, hD, trivial, by simp only [Rw.z, hl1]; omega⟩, by simp only; omega, ⟨fun q => (by cases q), fun us' at' i' od'' om'' oc'' g1 g2 => hf.2 us' at' i' od'' om'' oc'' g1 (by rw [g2]; simp only [Rw.z, h2, List.append_assoc, List.cons_append, List.nil_append])⟩⟩
   ·have h := of_decide_eq_false h
    rw [hr.end (by omega), wrGo] at hf
    refine c_t (by rw [hr.good]; rfl) ?_
    rw [hr.rlb]
    exact hf.1 rfl rfl us at0 i
  | own od om oc =>
   rw [r64_0o]
   simp only [Bool.and_eq_true, decide_eq_true_eq] at hp
   obtain ⟨ho, hR, hO, hD, rfl, hp⟩ := hp
   have hr := rowIOK_iff.1 hR
   have ho := rowOK_iff.1 ho
   have hzl := zc_length ho
   simp only [Rw.z, hzl] at hp hf
   have e0 : 0 + i.toNat * 1 = i.toNat := by omega
   rw [e0]
   refine cond_intro (fun h => ?_) (fun h => ?_)
   ·have h := of_decide_eq_true h
    obtain ⟨a1, a3⟩ := hr.at hp.1 (by omega)
    have hro := roOK_at hO a3
    rw [a3, wrGo, bz_at hp.1 (by omega), List.headD_cons, List.tail_cons] at hf
    rw [a3] at hp
    have hc1 := @cdg_c (intAt d i.toNat) ((zc d k2).drop (i + 1).toNat)
    have hc2 := cdg_nn ((zc d k2).drop (i + 1).toNat)
    rw [a1, w64 (n := i + 1) (by omega), w64 (n := at0 + 1) (by omega), w64 (n := (s.size : Int) - 2) (by omega)]
    have eu : IntKind.wrap .i64 (IntKind.wrap .i64 (us + 1) - 1) = us := by rw [w64 (n := us + 1) (by omega), w64 (by omega)]; omega
    rw [eu]
    generalize intAt d i.toNat = r at *
    generalize byteAt s i.toNat = c at *
    have er : ((0 + r.toNat * 1 : Nat) : Int) = r := by omega
    rw [er]
    refine c_t (decide_eq_true (by omega)) (c_t rfl (c_t (decide_eq_true (by omega)) (cond_intro (fun q => ?_) (fun q => ?_))))
    ·rw [q, cond_true] at hf
     refine c_t (by rw [hr.good, ho.good]; rfl) ?_
     rw [hr.rlb, ho.rlb]
     exact ⟨(m2, r6, r7, .own od om oc, k2, cap2, L, i + 1, s, nb, w, dg, sc, sg, k, cap, dr, f, cr, fl, fm, nu, m2, us, at0, ld, d), rfl, rfl, by simp only [S64_0, Bool.and_eq_true, decide_eq_true_eq]; exact ⟨rowOK_iff.2 ho, hR, hO, hD, trivial, by simp only [Rw.z, hzl]; omega⟩, by simp only; omega, hf⟩
    ·rw [q, cond_false] at hf
     refine cond_intro (fun q0 => ?_) (fun q0 => c_t (by simp) (cond_intro (fun q1 => cond_intro (fun q2 => ?_) (fun q2 => ?_)) (fun q1 => c_t (decide_eq_true hro) ?_)))
     ·refine c_t (ho.ask (k := 1) (by omega)) (fun cap1 tail ht => ?_)
      obtain ⟨h1, h2⟩ := ho.app1 (fl) ht
      have hl1 := zc_length h1
      generalize List.take (om * 1) od ++ [Value.int IntKind.u8 (fl)] ++ tail = od' at *
      have e : wrC f cr s.size m2 ld fl r c (List.headD (List.drop us.toNat (bz nu)) 0) i at0 = fl := by
       simp only [wrC, q0, cond_true, cond_false]
      have eT : wrT f cr s.size r i = false := by simp only [wrT, q0, cond_true, cond_false, Bool.not_true, Bool.not_false, Bool.true_and, Bool.false_and, Bool.true_or, Bool.or_true, Bool.false_or, Bool.and_false, Bool.and_true]
      rw [e, eT, cond_false] at hf
      refine c_t (by rw [hr.good, h1.good]; rfl) ?_
      rw [hr.rlb, h1.rlb]
      exact ⟨(m2, r6, r7, .own od' (om + 1) cap1, k2, cap2, L, i + 1, s, nb, w, dg, sc, sg, k, cap, dr, f, cr, fl, fm, nu, m2, us, at0 + 1, ld, d), rfl, rfl, by simp only [S64_0, Bool.and_eq_true, decide_eq_true_eq]; exact ⟨rowOK_iff.2 h1, hR, hO, hD, trivial, by simp only [Rw.z, hl1]; omega⟩, by simp only; omega, ⟨fun q => (by cases q), fun us' at' i' od'' om'' oc'' g1 g2 => hf.2 us' at' i' od'' om'' oc'' g1 (by rw [g2]; simp only [Rw.z, h2, List.append_assoc, List.cons_append, List.nil_append])⟩⟩
     ·refine c_t (ho.ask (k := 1) (by omega)) (fun cap1 tail ht => ?_)
      obtain ⟨h1, h2⟩ := ho.app1 (32) ht
      have hl1 := zc_length h1
      generalize List.take (om * 1) od ++ [Value.int IntKind.u8 (32)] ++ tail = od' at *
      have e : wrC f cr s.size m2 ld fl r c (List.headD (List.drop us.toNat (bz nu)) 0) i at0 = 32 := by
       simp only [wrC, q0, q1, q2, cond_true, cond_false]
      have eT : wrT f cr s.size r i = false := by simp only [wrT, q0, q1, q2, cond_true, cond_false, Bool.not_true, Bool.not_false, Bool.true_and, Bool.false_and, Bool.true_or, Bool.or_true, Bool.false_or, Bool.and_false, Bool.and_true]
      rw [e, eT, cond_false] at hf
      refine c_t (by rw [hr.good, h1.good]; rfl) ?_
      rw [hr.rlb, h1.rlb]
      exact ⟨(m2, r6, r7, .own od' (om + 1) cap1, k2, cap2, L, i + 1, s, nb, w, dg, sc, sg, k, cap, dr, f, cr, fl, fm, nu, m2, us, at0 + 1, ld, d), rfl, rfl, by simp only [S64_0, Bool.and_eq_true, decide_eq_true_eq]; exact ⟨rowOK_iff.2 h1, hR, hO, hD, trivial, by simp only [Rw.z, hl1]; omega⟩, by simp only; omega, ⟨fun q => (by cases q), fun us' at' i' od'' om'' oc'' g1 g2 => hf.2 us' at' i' od'' om'' oc'' g1 (by rw [g2]; simp only [Rw.z, h2, List.append_assoc, List.cons_append, List.nil_append])⟩⟩
     ·refine c_t (ho.ask (k := 1) (by omega)) (fun cap1 tail ht => ?_)
      obtain ⟨h1, h2⟩ := ho.app1 (c) ht
      have hl1 := zc_length h1
      generalize List.take (om * 1) od ++ [Value.int IntKind.u8 (c)] ++ tail = od' at *
      have e : wrC f cr s.size m2 ld fl r c (List.headD (List.drop us.toNat (bz nu)) 0) i at0 = c := by
       simp only [wrC, q0, q1, q2, cond_true, cond_false]
      have eT : wrT f cr s.size r i = false := by simp only [wrT, q0, q1, q2, cond_true, cond_false, Bool.not_true, Bool.not_false, Bool.true_and, Bool.false_and, Bool.true_or, Bool.or_true, Bool.false_or, Bool.and_false, Bool.and_true]
      rw [e, eT, cond_false] at hf
      refine c_t (by rw [hr.good, h1.good]; rfl) ?_
      rw [hr.rlb, h1.rlb]
      exact ⟨(m2, r6, r7, .own od' (om + 1) cap1, k2, cap2, L, i + 1, s, nb, w, dg, sc, sg, k, cap, dr, f, cr, fl, fm, nu, m2, us, at0 + 1, ld, d), rfl, rfl, by simp only [S64_0, Bool.and_eq_true, decide_eq_true_eq]; exact ⟨rowOK_iff.2 h1, hR, hO, hD, trivial, by simp only [Rw.z, hl1]; omega⟩, by simp only; omega, ⟨fun q => (by cases q), fun us' at' i' od'' om'' oc'' g1 g2 => hf.2 us' at' i' od'' om'' oc'' g1 (by rw [g2]; simp only [Rw.z, h2, List.append_assoc, List.cons_append, List.nil_append])⟩⟩
     ·refine cond_intro (fun n => ?_) (fun m => cond_intro (fun n => ?_) (fun m1 => cond_intro (fun n => ?_) (fun m2' => cond_intro (fun n => ?_) (fun m3 => cond_intro (fun n => ?_) (fun m4 => ?_)))))
      ·have n0 := of_decide_eq_true n
       have hc3 := @cdg_1 r ((zc d k2).drop (i + 1).toNat) (by omega)
       have hd := dgb_at hD hp.2.2.2.2.2.2.1 (by omega)
       have ed := bz_at hp.2.2.2.2.2.2.1 (s := nu) (by omega)
       have ed' : List.headD (List.drop us.toNat (bz nu)) 0 = byteAt nu us.toNat := by rw [ed]; rfl
       rw [w8 (n := byteAt nu us.toNat - 48) (by omega), w64 (n := byteAt nu us.toNat - 48) (by omega)]
       generalize byteAt nu us.toNat = dd at *
       refine c_t (decide_eq_true (by omega)) (c_t (by simp) (cond_intro (fun q2 => ?_) (fun q2 => c_t (by cases c == 84 <;> cases c == 73 <;> simp) (cond_intro (fun q3 => ?_) (fun q3 => ?_)))))
       ·refine c_t (ho.ask (k := 1) (by omega)) (fun cap1 tail ht => ?_)
        obtain ⟨h1, h2⟩ := ho.app1 (32) ht
        have hl1 := zc_length h1
        generalize List.take (om * 1) od ++ [Value.int IntKind.u8 (32)] ++ tail = od' at *
        have e : wrC f cr s.size m2 ld fl r c (List.headD (List.drop us.toNat (bz nu)) 0) i at0 = 32 := by
         simp only [wrC, q0, q1, n, ed', cond_true, cond_false]
         exact fm_a q2
        have eT : wrT f cr s.size r i = true := by simp only [wrT, q0, q1, n, ed', cond_true, cond_false, Bool.not_true, Bool.not_false, Bool.true_and, Bool.false_and, Bool.true_or, Bool.or_true, Bool.false_or, Bool.and_false, Bool.and_true]
        rw [e, eT, cond_true, ed, List.tail_cons] at hf
        rw [w64 (n := us + 1) (by omega)]
        refine c_t (by rw [hr.good, h1.good]; rfl) ?_
        rw [hr.rlb, h1.rlb]
        exact ⟨(m2, r6, r7, .own od' (om + 1) cap1, k2, cap2, L, i + 1, s, nb, w, dg, sc, sg, k, cap, dr, f, cr, fl, fm, nu, m2, us + 1, at0 + 1, ld, d), rfl, rfl, by simp only [S64_0, Bool.and_eq_true, decide_eq_true_eq]; exact ⟨rowOK_iff.2 h1, hR, hO, hD, trivial, by simp only [Rw.z, hl1]; omega⟩, by simp only; omega, ⟨fun q => (by cases q), fun us' at' i' od'' om'' oc'' g1 g2 => hf.2 us' at' i' od'' om'' oc'' g1 (by rw [g2]; simp only [Rw.z, h2, List.append_assoc, List.cons_append, List.nil_append])⟩⟩
       ·refine c_t (ho.ask (k := 1) (by omega)) (fun cap1 tail ht => ?_)
        obtain ⟨h1, h2⟩ := ho.app1 (puZ (dd - 48) m2) ht
        have hl1 := zc_length h1
        generalize List.take (om * 1) od ++ [Value.int IntKind.u8 (puZ (dd - 48) m2)] ++ tail = od' at *
        have e : wrC f cr s.size m2 ld fl r c (List.headD (List.drop us.toNat (bz nu)) 0) i at0 = puZ (dd - 48) m2 := by
         simp only [wrC, q0, q1, n, ed', cond_true, cond_false]
         exact fm_b q2 q3
        have eT : wrT f cr s.size r i = true := by simp only [wrT, q0, q1, n, ed', cond_true, cond_false, Bool.not_true, Bool.not_false, Bool.true_and, Bool.false_and, Bool.true_or, Bool.or_true, Bool.false_or, Bool.and_false, Bool.and_true]
        rw [e, eT, cond_true, ed, List.tail_cons] at hf
        rw [w64 (n := us + 1) (by omega)]
        refine c_t (by rw [hr.good, h1.good]; rfl) ?_
        rw [hr.rlb, h1.rlb]
        exact ⟨(m2, r6, r7, .own od' (om + 1) cap1, k2, cap2, L, i + 1, s, nb, w, dg, sc, sg, k, cap, dr, f, cr, fl, fm, nu, m2, us + 1, at0 + 1, ld, d), rfl, rfl, by simp only [S64_0, Bool.and_eq_true, decide_eq_true_eq]; exact ⟨rowOK_iff.2 h1, hR, hO, hD, trivial, by simp only [Rw.z, hl1]; omega⟩, by simp only; omega, ⟨fun q => (by cases q), fun us' at' i' od'' om'' oc'' g1 g2 => hf.2 us' at' i' od'' om'' oc'' g1 (by rw [g2]; simp only [Rw.z, h2, List.append_assoc, List.cons_append, List.nil_append])⟩⟩
       ·refine c_t (ho.ask (k := 1) (by omega)) (fun cap1 tail ht => ?_)
        obtain ⟨h1, h2⟩ := ho.app1 (dd) ht
        have hl1 := zc_length h1
        generalize List.take (om * 1) od ++ [Value.int IntKind.u8 (dd)] ++ tail = od' at *
        have e : wrC f cr s.size m2 ld fl r c (List.headD (List.drop us.toNat (bz nu)) 0) i at0 = dd := by
         simp only [wrC, q0, q1, n, ed', cond_true, cond_false]
         exact fm_c q2 q3
        have eT : wrT f cr s.size r i = true := by simp only [wrT, q0, q1, n, ed', cond_true, cond_false, Bool.not_true, Bool.not_false, Bool.true_and, Bool.false_and, Bool.true_or, Bool.or_true, Bool.false_or, Bool.and_false, Bool.and_true]
        rw [e, eT, cond_true, ed, List.tail_cons] at hf
        rw [w64 (n := us + 1) (by omega)]
        refine c_t (by rw [hr.good, h1.good]; rfl) ?_
        rw [hr.rlb, h1.rlb]
        exact ⟨(m2, r6, r7, .own od' (om + 1) cap1, k2, cap2, L, i + 1, s, nb, w, dg, sc, sg, k, cap, dr, f, cr, fl, fm, nu, m2, us + 1, at0 + 1, ld, d), rfl, rfl, by simp only [S64_0, Bool.and_eq_true, decide_eq_true_eq]; exact ⟨rowOK_iff.2 h1, hR, hO, hD, trivial, by simp only [Rw.z, hl1]; omega⟩, by simp only; omega, ⟨fun q => (by cases q), fun us' at' i' od'' om'' oc'' g1 g2 => hf.2 us' at' i' od'' om'' oc'' g1 (by rw [g2]; simp only [Rw.z, h2, List.append_assoc, List.cons_append, List.nil_append])⟩⟩
      ·have n0 := of_decide_eq_true n
       have hc3 := @cdg_1 r ((zc d k2).drop (i + 1).toNat) (by omega)
       have hd := dgb_at hD hp.2.2.2.2.2.2.1 (by omega)
       have ed := bz_at hp.2.2.2.2.2.2.1 (s := nu) (by omega)
       have ed' : List.headD (List.drop us.toNat (bz nu)) 0 = byteAt nu us.toNat := by rw [ed]; rfl
       generalize byteAt nu us.toNat = dd at *
       refine c_t (decide_eq_true (by omega)) (cond_intro (fun q2 => ?_) (fun q2 => ?_))
       ·refine c_t (ho.ask (k := 1) (by omega)) (fun cap1 tail ht => ?_)
        obtain ⟨h1, h2⟩ := ho.app1 (fl) ht
        have hl1 := zc_length h1
        generalize List.take (om * 1) od ++ [Value.int IntKind.u8 (fl)] ++ tail = od' at *
        have e : wrC f cr s.size m2 ld fl r c (List.headD (List.drop us.toNat (bz nu)) 0) i at0 = fl := by
         simp only [wrC, q0, q1, m, n, q2, ed', cond_true, cond_false]
        have eT : wrT f cr s.size r i = true := by simp only [wrT, q0, q1, m, n, q2, ed', cond_true, cond_false, Bool.not_true, Bool.not_false, Bool.true_and, Bool.false_and, Bool.true_or, Bool.or_true, Bool.false_or, Bool.and_false, Bool.and_true]
        rw [e, eT, cond_true, ed, List.tail_cons] at hf
        rw [w64 (n := us + 1) (by omega)]
        refine c_t (by rw [hr.good, h1.good]; rfl) ?_
        rw [hr.rlb, h1.rlb]
        exact ⟨(m2, r6, r7, .own od' (om + 1) cap1, k2, cap2, L, i + 1, s, nb, w, dg, sc, sg, k, cap, dr, f, cr, fl, fm, nu, m2, us + 1, at0 + 1, ld, d), rfl, rfl, by simp only [S64_0, Bool.and_eq_true, decide_eq_true_eq]; exact ⟨rowOK_iff.2 h1, hR, hO, hD, trivial, by simp only [Rw.z, hl1]; omega⟩, by simp only; omega, ⟨fun q => (by cases q), fun us' at' i' od'' om'' oc'' g1 g2 => hf.2 us' at' i' od'' om'' oc'' g1 (by rw [g2]; simp only [Rw.z, h2, List.append_assoc, List.cons_append, List.nil_append])⟩⟩
       ·refine c_t (ho.ask (k := 1) (by omega)) (fun cap1 tail ht => ?_)
        obtain ⟨h1, h2⟩ := ho.app1 (dd) ht
        have hl1 := zc_length h1
        generalize List.take (om * 1) od ++ [Value.int IntKind.u8 (dd)] ++ tail = od' at *
        have e : wrC f cr s.size m2 ld fl r c (List.headD (List.drop us.toNat (bz nu)) 0) i at0 = dd := by
         simp only [wrC, q0, q1, m, n, q2, ed', cond_true, cond_false]
        have eT : wrT f cr s.size r i = true := by simp only [wrT, q0, q1, m, n, q2, ed', cond_true, cond_false, Bool.not_true, Bool.not_false, Bool.true_and, Bool.false_and, Bool.true_or, Bool.or_true, Bool.false_or, Bool.and_false, Bool.and_true]
        rw [e, eT, cond_true, ed, List.tail_cons] at hf
        rw [w64 (n := us + 1) (by omega)]
        refine c_t (by rw [hr.good, h1.good]; rfl) ?_
        rw [hr.rlb, h1.rlb]
        exact ⟨(m2, r6, r7, .own od' (om + 1) cap1, k2, cap2, L, i + 1, s, nb, w, dg, sc, sg, k, cap, dr, f, cr, fl, fm, nu, m2, us + 1, at0 + 1, ld, d), rfl, rfl, by simp only [S64_0, Bool.and_eq_true, decide_eq_true_eq]; exact ⟨rowOK_iff.2 h1, hR, hO, hD, trivial, by simp only [Rw.z, hl1]; omega⟩, by simp only; omega, ⟨fun q => (by cases q), fun us' at' i' od'' om'' oc'' g1 g2 => hf.2 us' at' i' od'' om'' oc'' g1 (by rw [g2]; simp only [Rw.z, h2, List.append_assoc, List.cons_append, List.nil_append])⟩⟩
      ·have n := of_decide_eq_true n
       rw [n] at q
       cases q
      ·refine cond_intro (fun q2 => ?_) (fun q2 => cond_intro (fun q3 => ?_) (fun q3 => ?_))
       ·refine c_t (ho.ask (k := 1) (by omega)) (fun cap1 tail ht => ?_)
        obtain ⟨h1, h2⟩ := ho.app1 (32) ht
        have hl1 := zc_length h1
        generalize List.take (om * 1) od ++ [Value.int IntKind.u8 (32)] ++ tail = od' at *
        have e : wrC f cr s.size m2 ld fl r c (List.headD (List.drop us.toNat (bz nu)) 0) i at0 = 32 := by
         simp only [wrC, q0, q1, m, m1, n, q2, cond_true, cond_false]
        have eT : wrT f cr s.size r i = false := by simp only [wrT, q0, q1, m, m1, n, q2, cond_true, cond_false, Bool.not_true, Bool.not_false, Bool.true_and, Bool.false_and, Bool.true_or, Bool.or_true, Bool.false_or, Bool.and_false, Bool.and_true]
        rw [e, eT, cond_false] at hf
        refine c_t (by rw [hr.good, h1.good]; rfl) ?_
        rw [hr.rlb, h1.rlb]
        exact ⟨(m2, r6, r7, .own od' (om + 1) cap1, k2, cap2, L, i + 1, s, nb, w, dg, sc, sg, k, cap, dr, f, cr, fl, fm, nu, m2, us, at0 + 1, ld, d), rfl, rfl, by simp only [S64_0, Bool.and_eq_true, decide_eq_true_eq]; exact ⟨rowOK_iff.2 h1, hR, hO, hD, trivial, by simp only [Rw.z, hl1]; omega⟩, by simp only; omega, ⟨fun q => (by cases q), fun us' at' i' od'' om'' oc'' g1 g2 => hf.2 us' at' i' od'' om'' oc'' g1 (by rw [g2]; simp only [Rw.z, h2, List.append_assoc, List.cons_append, List.nil_append])⟩⟩
       ·refine c_t (ho.ask (k := 1) (by omega)) (fun cap1 tail ht => ?_)
        obtain ⟨h1, h2⟩ := ho.app1 (fl) ht
        have hl1 := zc_length h1
        generalize List.take (om * 1) od ++ [Value.int IntKind.u8 (fl)] ++ tail = od' at *
        have e : wrC f cr s.size m2 ld fl r c (List.headD (List.drop us.toNat (bz nu)) 0) i at0 = fl := by
         simp only [wrC, q0, q1, m, m1, n, q2, q3, cond_true, cond_false]
        have eT : wrT f cr s.size r i = false := by simp only [wrT, q0, q1, m, m1, n, q2, q3, cond_true, cond_false, Bool.not_true, Bool.not_false, Bool.true_and, Bool.false_and, Bool.true_or, Bool.or_true, Bool.false_or, Bool.and_false, Bool.and_true]
        rw [e, eT, cond_false] at hf
        refine c_t (by rw [hr.good, h1.good]; rfl) ?_
        rw [hr.rlb, h1.rlb]
        exact ⟨(m2, r6, r7, .own od' (om + 1) cap1, k2, cap2, L, i + 1, s, nb, w, dg, sc, sg, k, cap, dr, f, cr, fl, fm, nu, m2, us, at0 + 1, ld, d), rfl, rfl, by simp only [S64_0, Bool.and_eq_true, decide_eq_true_eq]; exact ⟨rowOK_iff.2 h1, hR, hO, hD, trivial, by simp only [Rw.z, hl1]; omega⟩, by simp only; omega, ⟨fun q => (by cases q), fun us' at' i' od'' om'' oc'' g1 g2 => hf.2 us' at' i' od'' om'' oc'' g1 (by rw [g2]; simp only [Rw.z, h2, List.append_assoc, List.cons_append, List.nil_append])⟩⟩
       ·refine c_t (ho.ask (k := 1) (by omega)) (fun cap1 tail ht => ?_)
        obtain ⟨h1, h2⟩ := ho.app1 (c) ht
        have hl1 := zc_length h1
        generalize List.take (om * 1) od ++ [Value.int IntKind.u8 (c)] ++ tail = od' at *
        have e : wrC f cr s.size m2 ld fl r c (List.headD (List.drop us.toNat (bz nu)) 0) i at0 = c := by
         simp only [wrC, q0, q1, m, m1, n, q2, q3, cond_true, cond_false]
        have eT : wrT f cr s.size r i = false := by simp only [wrT, q0, q1, m, m1, n, q2, q3, cond_true, cond_false, Bool.not_true, Bool.not_false, Bool.true_and, Bool.false_and, Bool.true_or, Bool.or_true, Bool.false_or, Bool.and_false, Bool.and_true]
        rw [e, eT, cond_false] at hf
        refine c_t (by rw [hr.good, h1.good]; rfl) ?_
        rw [hr.rlb, h1.rlb]
        exact ⟨(m2, r6, r7, .own od' (om + 1) cap1, k2, cap2, L, i + 1, s, nb, w, dg, sc, sg, k, cap, dr, f, cr, fl, fm, nu, m2, us, at0 + 1, ld, d), rfl, rfl, by simp only [S64_0, Bool.and_eq_true, decide_eq_true_eq]; exact ⟨rowOK_iff.2 h1, hR, hO, hD, trivial, by simp only [Rw.z, hl1]; omega⟩, by simp only; omega, ⟨fun q => (by cases q), fun us' at' i' od'' om'' oc'' g1 g2 => hf.2 us' at' i' od'' om'' oc'' g1 (by rw [g2]; simp only [Rw.z, h2, List.append_assoc, List.cons_append, List.nil_append])⟩⟩
      ·refine c_t (by simp) (cond_intro (fun q2 => ?_) (fun q2 => cond_intro (fun q3 => ?_) (fun q3 => cond_intro (fun q4 => ?_) (fun q4 => ?_))))
       ·refine c_t (ho.ask (k := 1) (by omega)) (fun cap1 tail ht => ?_)
        obtain ⟨h1, h2⟩ := ho.app1 (45) ht
        have hl1 := zc_length h1
        generalize List.take (om * 1) od ++ [Value.int IntKind.u8 (45)] ++ tail = od' at *
        have e : wrC f cr s.size m2 ld fl r c (List.headD (List.drop us.toNat (bz nu)) 0) i at0 = 45 := by
         simp only [wrC, q0, q1, m, m1, m3, n, q2, cond_true, cond_false]
        have eT : wrT f cr s.size r i = false := by simp only [wrT, q0, q1, m, m1, m3, n, q2, cond_true, cond_false, Bool.not_true, Bool.not_false, Bool.true_and, Bool.false_and, Bool.true_or, Bool.or_true, Bool.false_or, Bool.and_false, Bool.and_true]
        rw [e, eT, cond_false] at hf
        refine c_t (by rw [hr.good, h1.good]; rfl) ?_
        rw [hr.rlb, h1.rlb]
        exact ⟨(m2, r6, r7, .own od' (om + 1) cap1, k2, cap2, L, i + 1, s, nb, w, dg, sc, sg, k, cap, dr, f, cr, fl, fm, nu, m2, us, at0 + 1, ld, d), rfl, rfl, by simp only [S64_0, Bool.and_eq_true, decide_eq_true_eq]; exact ⟨rowOK_iff.2 h1, hR, hO, hD, trivial, by simp only [Rw.z, hl1]; omega⟩, by simp only; omega, ⟨fun q => (by cases q), fun us' at' i' od'' om'' oc'' g1 g2 => hf.2 us' at' i' od'' om'' oc'' g1 (by rw [g2]; simp only [Rw.z, h2, List.append_assoc, List.cons_append, List.nil_append])⟩⟩
       ·refine c_t (ho.ask (k := 1) (by omega)) (fun cap1 tail ht => ?_)
        obtain ⟨h1, h2⟩ := ho.app1 (43) ht
        have hl1 := zc_length h1
        generalize List.take (om * 1) od ++ [Value.int IntKind.u8 (43)] ++ tail = od' at *
        have e : wrC f cr s.size m2 ld fl r c (List.headD (List.drop us.toNat (bz nu)) 0) i at0 = 43 := by
         simp only [wrC, q0, q1, m, m1, m3, n, q2, cond_true, cond_false]
         rw [q3]
         rfl
        have eT : wrT f cr s.size r i = false := by simp only [wrT, q0, q1, m, m1, m3, n, q2, cond_true, cond_false, Bool.not_true, Bool.not_false, Bool.true_and, Bool.false_and, Bool.true_or, Bool.or_true, Bool.false_or, Bool.and_false, Bool.and_true]
        rw [e, eT, cond_false] at hf
        refine c_t (by rw [hr.good, h1.good]; rfl) ?_
        rw [hr.rlb, h1.rlb]
        exact ⟨(m2, r6, r7, .own od' (om + 1) cap1, k2, cap2, L, i + 1, s, nb, w, dg, sc, sg, k, cap, dr, f, cr, fl, fm, nu, m2, us, at0 + 1, ld, d), rfl, rfl, by simp only [S64_0, Bool.and_eq_true, decide_eq_true_eq]; exact ⟨rowOK_iff.2 h1, hR, hO, hD, trivial, by simp only [Rw.z, hl1]; omega⟩, by simp only; omega, ⟨fun q => (by cases q), fun us' at' i' od'' om'' oc'' g1 g2 => hf.2 us' at' i' od'' om'' oc'' g1 (by rw [g2]; simp only [Rw.z, h2, List.append_assoc, List.cons_append, List.nil_append])⟩⟩
       ·refine c_t (ho.ask (k := 1) (by omega)) (fun cap1 tail ht => ?_)
        obtain ⟨h1, h2⟩ := ho.app1 (32) ht
        have hl1 := zc_length h1
        generalize List.take (om * 1) od ++ [Value.int IntKind.u8 (32)] ++ tail = od' at *
        have e : wrC f cr s.size m2 ld fl r c (List.headD (List.drop us.toNat (bz nu)) 0) i at0 = 32 := by
         simp only [wrC, q0, q1, m, m1, m3, n, q2, cond_true, cond_false]
         rw [q3, q4]
         rfl
        have eT : wrT f cr s.size r i = false := by simp only [wrT, q0, q1, m, m1, m3, n, q2, cond_true, cond_false, Bool.not_true, Bool.not_false, Bool.true_and, Bool.false_and, Bool.true_or, Bool.or_true, Bool.false_or, Bool.and_false, Bool.and_true]
        rw [e, eT, cond_false] at hf
        refine c_t (by rw [hr.good, h1.good]; rfl) ?_
        rw [hr.rlb, h1.rlb]
        exact ⟨(m2, r6, r7, .own od' (om + 1) cap1, k2, cap2, L, i + 1, s, nb, w, dg, sc, sg, k, cap, dr, f, cr, fl, fm, nu, m2, us, at0 + 1, ld, d), rfl, rfl, by simp only [S64_0, Bool.and_eq_true, decide_eq_true_eq]; exact ⟨rowOK_iff.2 h1, hR, hO, hD, trivial, by simp only [Rw.z, hl1]; omega⟩, by simp only; omega, ⟨fun q => (by cases q), fun us' at' i' od'' om'' oc'' g1 g2 => hf.2 us' at' i' od'' om'' oc'' g1 (by rw [g2]; simp only [Rw.z, h2, List.append_assoc, List.cons_append, List.nil_append])⟩⟩
       ·refine c_t (ho.ask (k := 1) (by omega)) (fun cap1 tail ht => ?_)
        obtain ⟨h1, h2⟩ := ho.app1 (c) ht
        have hl1 := zc_length h1
        generalize List.take (om * 1) od ++ [Value.int IntKind.u8 (c)] ++ tail = od' at *
        have e : wrC f cr s.size m2 ld fl r c (List.headD (List.drop us.toNat (bz nu)) 0) i at0 = c := by
         simp only [wrC, q0, q1, m, m1, m3, n, q2, cond_true, cond_false]
         rw [q3, q4]
         rfl
        have eT : wrT f cr s.size r i = false := by simp only [wrT, q0, q1, m, m1, m3, n, q2, cond_true, cond_false, Bool.not_true, Bool.not_false, Bool.true_and, Bool.false_and, Bool.true_or, Bool.or_true, Bool.false_or, Bool.and_false, Bool.and_true]
        rw [e, eT, cond_false] at hf
        refine c_t (by rw [hr.good, h1.good]; rfl) ?_
        rw [hr.rlb, h1.rlb]
        exact ⟨(m2, r6, r7, .own od' (om + 1) cap1, k2, cap2, L, i + 1, s, nb, w, dg, sc, sg, k, cap, dr, f, cr, fl, fm, nu, m2, us, at0 + 1, ld, d), rfl, rfl, by simp only [S64_0, Bool.and_eq_true, decide_eq_true_eq]; exact ⟨rowOK_iff.2 h1, hR, hO, hD, trivial, by simp only [Rw.z, hl1]; omega⟩, by simp only; omega, ⟨fun q => (by cases q), fun us' at' i' od'' om'' oc'' g1 g2 => hf.2 us' at' i' od'' om'' oc'' g1 (by rw [g2]; simp only [Rw.z, h2, List.append_assoc, List.cons_append, List.nil_append])⟩⟩
      ·have k0 := of_decide_eq_false m
       have k1 := of_decide_eq_false m1
       have k3 := of_decide_eq_false m3
       have k4 := of_decide_eq_false m4
       have k2' : r ≠ 2 := fun e => by rw [e] at q; cases q
       refine c_t (decide_eq_true (by omega)) ?_
       refine c_t (ho.ask (k := 1) (by omega)) (fun cap1 tail ht => ?_)
       obtain ⟨h1, h2⟩ := ho.app1 (c) ht
       have hl1 := zc_length h1
       generalize List.take (om * 1) od ++ [Value.int IntKind.u8 (c)] ++ tail = od' at *
       have e : wrC f cr s.size m2 ld fl r c (List.headD (List.drop us.toNat (bz nu)) 0) i at0 = c := by
        simp only [wrC, q0, q1, m, m1, m3, m4, cond_true, cond_false]
       have eT : wrT f cr s.size r i = false := by simp only [wrT, q0, q1, m, m1, m3, m4, cond_true, cond_false, Bool.not_true, Bool.not_false, Bool.true_and, Bool.false_and, Bool.true_or, Bool.or_true, Bool.false_or, Bool.and_false, Bool.and_true]
       rw [e, eT, cond_false] at hf
       refine c_t (by rw [hr.good, h1.good]; rfl) ?_
       rw [hr.rlb, h1.rlb]
       exact ⟨(m2, r6, r7, .own od' (om + 1) cap1, k2, cap2, L, i + 1, s, nb, w, dg, sc, sg, k, cap, dr, f, cr, fl, fm, nu, m2, us, at0 + 1, ld, d), rfl, rfl, by simp only [S64_0, Bool.and_eq_true, decide_eq_true_eq]; exact ⟨rowOK_iff.2 h1, hR, hO, hD, trivial, by simp only [Rw.z, hl1]; omega⟩, by simp only; omega, ⟨fun q => (by cases q), fun us' at' i' od'' om'' oc'' g1 g2 => hf.2 us' at' i' od'' om'' oc'' g1 (by rw [g2]; simp only [Rw.z, h2, List.append_assoc, List.cons_append, List.nil_append])⟩⟩
   ·have h := of_decide_eq_false h
    rw [hr.end (by omega), wrGo] at hf
    refine c_t (by rw [hr.good, ho.good]; rfl) ?_
    rw [hr.rlb, ho.rlb]
    exact hf.2 us at0 i od om oc (rowOK_iff.2 ho) (by simp)
end Go.Px
end
noncomputable section
set_option maxHeartbeats 3200000
namespace Go.Px
open Go Go.Ab Go.Proofs Go.Shelf
def vwN (p : List Value) : Lk := fun j => match Nat.beq j 0 with | true => some ⟨p, 109, false⟩ | false => none
theorem sub_N {m : Lk} {a x : Nat} {nu : ByteArray} {mi : Bool} {us at0 ld : Int} {own : Bool} (hp : m a = some ⟨pnL x nu mi us at0 ld, 109, own⟩) : SubM m (rho2 a x) (vwN (pnL 1 nu mi us at0 ld)) 2 := by
 have hget : ∀ j b, vwN (pnL 1 nu mi us at0 ld) j = some b → j = 0 ∧ b = ⟨pnL 1 nu mi us at0 ld, 109, false⟩ := fun j b h => by
  simp only [vwN] at h
  split at h
  ·rename_i h0; cases h; exact ⟨Nat.eq_of_beq_eq_true h0, rfl⟩
  ·cases h
 refine ⟨fun j b h => ?_, fun j b h => ?_⟩
 ·obtain ⟨rfl, rfl⟩ := hget j b h
  refine ⟨by omega, fun i hi => ?_⟩
  have : i = 1 := by simpa [pnL, idsL, ids] using hi
  omega
 ·obtain ⟨rfl, rfl⟩ := hget j b h
  refine ⟨rfl, ⟨pnL x nu mi us at0 ld, 109, own⟩, ?_, fun ι => ?_⟩
  ·show noIt (m a) = _
   rw [hp]
   simp only [noIt]
   have : (own && Nat.beq 109 itTy) = false := by cases own <;> rfl
   rw [this]
  ·simp [pnL, ren, ren1, rho2]
def sgC (c : Int) (m : Bool) : Int := bif c == 83 && m then 45 else bif c == 83 then 43 else bif (c == 43) == m then 32 else c
theorem v94 (nu : ByteArray) (mi : Bool) (us : Int) (at0 : Int) (ld : Int) (c : Int) (R : Value → Prop) : (bodyQ Tryz.prog G33 noL Tryz.f94 [.pointer (some ⟨0, 0, some 0⟩), .int .u8 c] (vwN (pnL 1 nu mi us at0 ld)) 2 (fun v _ _ => R v)) = ( bif c == 83 || true then bif c == 83 && mi then R (.int .u8 45) else bif c == 83 then R (.int .u8 43) else bif (c == 43) == mi then R (.int .u8 32) else R (.int .u8 c) else False) := by kernel_rfl
def h94 : List Value → Lk → Nat → (Value → Lk → Nat → Prop) → Prop := fun args m n K => match args with
 | [.pointer (some ⟨a, 0, some 0⟩), .int .u8 c] => match m a with
  | some ⟨[.pointer (some ⟨x, 0, some 0⟩), .string nu, .bool mi, .int .i64 us, .int .i64 at0, .int .i64 ld], 109, own⟩ => ∀ e, sgC c mi = e → K (.int .u8 e) m n
  | _ => False
 | _ => False
def h90h : List Value → Lk → Nat → (Value → Lk → Nat → Prop) → Prop := fun args m n K => h90 args m n fun v m' n' => match v with
 | .int .i64 x => ∀ e, x = e → K (.int .i64 e) m' n'
 | _ => False
def G36 : Env := (G35.addG 90 h90h).addG 94 h94
theorem w94 (nu : ByteArray) (mi : Bool) (us at0 ld c : Int) {R : Value → Prop} (h : R (.int .u8 (sgC c mi))) : DoesM Tryz.prog G33 noL Tryz.f94 [.pointer (some ⟨0, 0, some 0⟩), .int .u8 c] (vwN (pnL 1 nu mi us at0 ld)) 2 (fun v _ _ => R v) := by
 rw [DoesM, v94]
 rw [sgC] at h
 refine c_t (by simp) (cond_intro (fun q => ?_) (fun q => cond_intro (fun q2 => ?_) (fun q2 => cond_intro (fun q3 => ?_) (fun q3 => ?_))))
 ·rw [q] at h; exact h
 ·rw [q, q2] at h; exact h
 ·rw [q, q2, q3] at h; exact h
 ·rw [q, q2, q3] at h; exact h
theorem h94_ok : GenOK Tryz.prog 94 h94 := by
 refine gen_sub ok_G33 hmix fn94 lokf_none fun args m n K h => ?_
 unfold h94 at h
 split at h
 case h_2 => exact h.elim
 rename_i a c
 split at h
 case h_2 => exact h.elim
 rename_i x nu mi us at0 ld own hm
 refine ⟨[.pointer (some ⟨0, 0, some 0⟩), .int .u8 c], _, 2, rho2 a x, .int .u8 (sgC c mi), sub_N hm, fun ι => by simp [ren, ren1, rho2], Nat.le_of_ble_eq_true (by kernel_rfl), fun v hv j hj => ?_, rfl, w94 nu mi us at0 ld c (R := fun v => v = .int .u8 (sgC c mi)) rfl, h _ rfl⟩
 simp at hv
 rcases hv with rfl | rfl
 ·have : j = 0 := by simpa [ids] using hj
  omega
 ·simp [ids] at hj
theorem gen_imp {P : Program} {f : FuncId} {h h' : List Value → Lk → Nat → (Value → Lk → Nat → Prop) → Prop} (hh : ∀ args m n K, h' args m n K → h args m n K) (hg : GenOK P f h) : GenOK P f h' :=
 ⟨hg.1, fun args m n K hk => hg.2 args m n K (hh args m n K hk)⟩
theorem h90h_ok : GenOK Tryz.prog 90 h90h := by
 refine gen_imp (fun args m n K h => ?_) h90_ok
 unfold h90h h90 at h
 unfold h90
 split at h
 case h_2 => exact h.elim
 split at h
 case h_2 => exact h.elim
 split at h
 case h_2 => exact h.elim
 split at h
 case h_2 => exact h.elim
 split at h
 case h_2 => exact h.elim
 rename_i hm _ _ _ _ _ _ _ _ _ _ _ _ _ _ _ _ _ hx _ _ hy hc
 simp only [*]
theorem ok_G36 : EnvOK Tryz.prog G36 := env_addG (env_addG ok_G35 h90h_ok) h94_ok
theorem lok64 : LOKf Tryz.prog (oneL 0 S64_0.hA) Tryz.f64 := l64_0
theorem v64 (s : ByteArray) (nb : Bool) (w : Int) (dg : Int) (sc : Int) (sg : Bool) (k : Nat) (cap : Nat) (dr : Int) (f : Int) (cr : Bool) (fl : Int) (fm : Int) (nu : ByteArray) (mi : Bool) (d : List Value) (R : Value → Prop) : (bodyQ Tryz.prog G36 (oneL 0 S64_0.hA) Tryz.f64 [.pointer (some ⟨0, 0, some 0⟩), .string nu, .bool mi] (vwF2 (fmL s nb w dg sc sg 1 k cap dr f cr fl fm) d) 2 (fun v _ _ => R v)) = ( bif rowIOK d k cap && decide (k ≤ 1000 ∧ ByteArray.size nu ≤ 1000 ∧ cn1 (zc d k) ≤ (↑(ByteArray.size nu) : Int)) then ∀ (e : Int), enV (bz nu) fm (zc d k) = e → bif decide (e < 0) then bif decide (0 ≤ w ∧ w ≤ 1000 ∧ ByteArray.size (Utf8.encode fl) ≤ 1000) then R (.tuple (.mk [.string (sz (repZ (bz (Utf8.encode fl)) (Int.toNat w))), .int .i64 w])) else False else bif goodL [] d && true && true && (idsLt 210 (rlbL [] d) && true) then bif LSpec.pre (LSpecA.toLSpec S64_0) (mi, ByteArray.mk #[], 0, Rw.nil, k, cap, natO k, 0, s, nb, w, dg, sc, sg, k, cap, dr, f, cr, fl, fm, nu, mi, 0, 0, e, rlbL [] d) then (Rw.is Rw.nil = false → wrGo f cr (↑(ByteArray.size s) : Int) mi e fl (List.drop (Int.toNat 0) (zc (rlbL [] d) k)) (List.drop (Int.toNat 0) (bz s)) (List.drop (Int.toNat 0) (bz nu)) 0 0 = [] → ∀ (us' at' i' : Int), bif idsLt 210 (rlbL [] d) && true then ∀ (x : Tmps), bif dr == 36 || true then bif dr == 36 && decide (e > 0) then False else bif dr != 0 || true then bif dr != 0 && decide (e > 0) then ((((((∀ (e : Int), sgC dr mi = e → False) ∧ ∀ (e : Int), sgC dr mi = e → False) ∧ ∀ (e : Int), sgC dr mi = e → False) ∧ ∀ (e : Int), sgC dr mi = e → False) ∧ ∀ (e : Int), sgC dr mi = e → False) ∧ ∀ (e : Int), sgC dr mi = e → False) ∧ ((((((∀ (e : Int), sgC dr mi = e → False) ∧ ∀ (e : Int), sgC dr mi = e → False) ∧ ∀ (e : Int), sgC dr mi = e → False) ∧ ∀ (e : Int), sgC dr mi = e → False) ∧ ∀ (e : Int), sgC dr mi = e → False) ∧ (((((∀ (e : Int), sgC dr mi = e → False) ∧ ∀ (e : Int), sgC dr mi = e → False) ∧ ∀ (e : Int), sgC dr mi = e → False) ∧ ∀ (e : Int), sgC dr mi = e → False) ∧ ((((∀ (e : Int), sgC dr mi = e → False) ∧ ∀ (e : Int), sgC dr mi = e → False) ∧ ∀ (e : Int), sgC dr mi = e → False) ∧ (((∀ (e : Int), sgC dr mi = e → False) ∧ ∀ (e : Int), sgC dr mi = e → False) ∧ ((∀ (e : Int), sgC dr mi = e → False) ∧ ∀ (e : Int), sgC dr mi = e → False) ∧ ∀ (e : Int), sgC dr mi = e → False) ∧ ∀ (e : Int), sgC dr mi = e → False) ∧ ∀ (e : Int), sgC dr mi = e → False) ∧ ∀ (e : Int), sgC dr mi = e → False) ∧ ∀ (e : Int), sgC dr mi = e → False else R (.tuple (.mk [.string ByteArray.empty, .int .i64 e])) else False else False else False) ∧ ∀ (us' at' i' : Int) (od' : List Value) (om' oc' : Nat), rowOK od' om' oc' = true → zc od' om' = Rw.z Rw.nil ++ wrGo f cr (↑(ByteArray.size s) : Int) mi e fl (List.drop (Int.toNat 0) (zc (rlbL [] d) k)) (List.drop (Int.toNat 0) (bz s)) (List.drop (Int.toNat 0) (bz nu)) 0 0 → bif idsLt 210 (rlbL [] d) && (idsLt 210 od' && true) then ∀ (x : Tmps), bif dr == 36 || true then bif dr == 36 && decide (e > 0) then bif decide (0 ≤ IntKind.wrap .i64 (e - 1) ∧ IntKind.wrap .i64 (e - 1) < (↑om' : Int)) then bif Nat.ble (0 + Int.toNat (IntKind.wrap .i64 (e - 1)) * 1 + 1) (List.length od') then bif bytesOK (setL od' (0 + Int.toNat (IntKind.wrap .i64 (e - 1)) * 1) [.int .u8 36]) 0 om' then R (.tuple (.mk [.string (bytesOf (setL od' (0 + Int.toNat (IntKind.wrap .i64 (e - 1)) * 1) [.int .u8 36]) 0 om'), .int .i64 e])) else False else False else False else bif dr != 0 || true then bif dr != 0 && decide (e > 0) then ((((((∀ (e_1 : Int), sgC dr mi = e_1 → bif decide (0 ≤ IntKind.wrap .i64 (e - 1) ∧ IntKind.wrap .i64 (e - 1) < (↑om' : Int)) then bif Nat.ble (0 + Int.toNat (IntKind.wrap .i64 (e - 1)) * 1 + 1) (List.length od') then bif bytesOK (setL od' (0 + Int.toNat (IntKind.wrap .i64 (e - 1)) * 1) [.int .u8 e_1]) 0 om' then R (.tuple (.mk [.string (bytesOf (setL od' (0 + Int.toNat (IntKind.wrap .i64 (e - 1)) * 1) [.int .u8 e_1]) 0 om'), .int .i64 e])) else False else False else False) ∧ ∀ (e_1 : Int), sgC dr mi = e_1 → bif decide (0 ≤ IntKind.wrap .i64 (e - 1) ∧ IntKind.wrap .i64 (e - 1) < (↑om' : Int)) then bif Nat.ble (0 + Int.toNat (IntKind.wrap .i64 (e - 1)) * 1 + 1) (List.length od') then bif bytesOK (setL od' (0 + Int.toNat (IntKind.wrap .i64 (e - 1)) * 1) [.int .u8 e_1]) 0 om' then R (.tuple (.mk [.string (bytesOf (setL od' (0 + Int.toNat (IntKind.wrap .i64 (e - 1)) * 1) [.int .u8 e_1]) 0 om'), .int .i64 e])) else False else False else False) ∧ ∀ (e_1 : Int), sgC dr mi = e_1 → bif decide (0 ≤ IntKind.wrap .i64 (e - 1) ∧ IntKind.wrap .i64 (e - 1) < (↑om' : Int)) then bif Nat.ble (0 + Int.toNat (IntKind.wrap .i64 (e - 1)) * 1 + 1) (List.length od') then bif bytesOK (setL od' (0 + Int.toNat (IntKind.wrap .i64 (e - 1)) * 1) [.int .u8 e_1]) 0 om' then R (.tuple (.mk [.string (bytesOf (setL od' (0 + Int.toNat (IntKind.wrap .i64 (e - 1)) * 1) [.int .u8 e_1]) 0 om'), .int .i64 e])) else False else False else False) ∧ ∀ (e_1 : Int), sgC dr mi = e_1 → bif decide (0 ≤ IntKind.wrap .i64 (e - 1) ∧ IntKind.wrap .i64 (e - 1) < (↑om' : Int)) then bif Nat.ble (0 + Int.toNat (IntKind.wrap .i64 (e - 1)) * 1 + 1) (List.length od') then bif bytesOK (setL od' (0 + Int.toNat (IntKind.wrap .i64 (e - 1)) * 1) [.int .u8 e_1]) 0 om' then R (.tuple (.mk [.string (bytesOf (setL od' (0 + Int.toNat (IntKind.wrap .i64 (e - 1)) * 1) [.int .u8 e_1]) 0 om'), .int .i64 e])) else False else False else False) ∧ ∀ (e_1 : Int), sgC dr mi = e_1 → bif decide (0 ≤ IntKind.wrap .i64 (e - 1) ∧ IntKind.wrap .i64 (e - 1) < (↑om' : Int)) then bif Nat.ble (0 + Int.toNat (IntKind.wrap .i64 (e - 1)) * 1 + 1) (List.length od') then bif bytesOK (setL od' (0 + Int.toNat (IntKind.wrap .i64 (e - 1)) * 1) [.int .u8 e_1]) 0 om' then R (.tuple (.mk [.string (bytesOf (setL od' (0 + Int.toNat (IntKind.wrap .i64 (e - 1)) * 1) [.int .u8 e_1]) 0 om'), .int .i64 e])) else False else False else False) ∧ ∀ (e_1 : Int), sgC dr mi = e_1 → bif decide (0 ≤ IntKind.wrap .i64 (e - 1) ∧ IntKind.wrap .i64 (e - 1) < (↑om' : Int)) then bif Nat.ble (0 + Int.toNat (IntKind.wrap .i64 (e - 1)) * 1 + 1) (List.length od') then bif bytesOK (setL od' (0 + Int.toNat (IntKind.wrap .i64 (e - 1)) * 1) [.int .u8 e_1]) 0 om' then R (.tuple (.mk [.string (bytesOf (setL od' (0 + Int.toNat (IntKind.wrap .i64 (e - 1)) * 1) [.int .u8 e_1]) 0 om'), .int .i64 e])) else False else False else False) ∧ ((((((∀ (e_1 : Int), sgC dr mi = e_1 → bif decide (0 ≤ IntKind.wrap .i64 (e - 1) ∧ IntKind.wrap .i64 (e - 1) < (↑om' : Int)) then bif Nat.ble (0 + Int.toNat (IntKind.wrap .i64 (e - 1)) * 1 + 1) (List.length od') then bif bytesOK (setL od' (0 + Int.toNat (IntKind.wrap .i64 (e - 1)) * 1) [.int .u8 e_1]) 0 om' then R (.tuple (.mk [.string (bytesOf (setL od' (0 + Int.toNat (IntKind.wrap .i64 (e - 1)) * 1) [.int .u8 e_1]) 0 om'), .int .i64 e])) else False else False else False) ∧ ∀ (e_1 : Int), sgC dr mi = e_1 → bif decide (0 ≤ IntKind.wrap .i64 (e - 1) ∧ IntKind.wrap .i64 (e - 1) < (↑om' : Int)) then bif Nat.ble (0 + Int.toNat (IntKind.wrap .i64 (e - 1)) * 1 + 1) (List.length od') then bif bytesOK (setL od' (0 + Int.toNat (IntKind.wrap .i64 (e - 1)) * 1) [.int .u8 e_1]) 0 om' then R (.tuple (.mk [.string (bytesOf (setL od' (0 + Int.toNat (IntKind.wrap .i64 (e - 1)) * 1) [.int .u8 e_1]) 0 om'), .int .i64 e])) else False else False else False) ∧ ∀ (e_1 : Int), sgC dr mi = e_1 → bif decide (0 ≤ IntKind.wrap .i64 (e - 1) ∧ IntKind.wrap .i64 (e - 1) < (↑om' : Int)) then bif Nat.ble (0 + Int.toNat (IntKind.wrap .i64 (e - 1)) * 1 + 1) (List.length od') then bif bytesOK (setL od' (0 + Int.toNat (IntKind.wrap .i64 (e - 1)) * 1) [.int .u8 e_1]) 0 om' then R (.tuple (.mk [.string (bytesOf (setL od' (0 + Int.toNat (IntKind.wrap .i64 (e - 1)) * 1) [.int .u8 e_1]) 0 om'), .int .i64 e])) else False else False else False) ∧ ∀ (e_1 : Int), sgC dr mi = e_1 → bif decide (0 ≤ IntKind.wrap .i64 (e - 1) ∧ IntKind.wrap .i64 (e - 1) < (↑om' : Int)) then bif Nat.ble (0 + Int.toNat (IntKind.wrap .i64 (e - 1)) * 1 + 1) (List.length od') then bif bytesOK (setL od' (0 + Int.toNat (IntKind.wrap .i64 (e - 1)) * 1) [.int .u8 e_1]) 0 om' then R (.tuple (.mk [.string (bytesOf (setL od' (0 + Int.toNat (IntKind.wrap .i64 (e - 1)) * 1) [.int .u8 e_1]) 0 om'), .int .i64 e])) else False else False else False) ∧ ∀ (e_1 : Int), sgC dr mi = e_1 → bif decide (0 ≤ IntKind.wrap .i64 (e - 1) ∧ IntKind.wrap .i64 (e - 1) < (↑om' : Int)) then bif Nat.ble (0 + Int.toNat (IntKind.wrap .i64 (e - 1)) * 1 + 1) (List.length od') then bif bytesOK (setL od' (0 + Int.toNat (IntKind.wrap .i64 (e - 1)) * 1) [.int .u8 e_1]) 0 om' then R (.tuple (.mk [.string (bytesOf (setL od' (0 + Int.toNat (IntKind.wrap .i64 (e - 1)) * 1) [.int .u8 e_1]) 0 om'), .int .i64 e])) else False else False else False) ∧ (((((∀ (e_1 : Int), sgC dr mi = e_1 → bif decide (0 ≤ IntKind.wrap .i64 (e - 1) ∧ IntKind.wrap .i64 (e - 1) < (↑om' : Int)) then bif Nat.ble (0 + Int.toNat (IntKind.wrap .i64 (e - 1)) * 1 + 1) (List.length od') then bif bytesOK (setL od' (0 + Int.toNat (IntKind.wrap .i64 (e - 1)) * 1) [.int .u8 e_1]) 0 om' then R (.tuple (.mk [.string (bytesOf (setL od' (0 + Int.toNat (IntKind.wrap .i64 (e - 1)) * 1) [.int .u8 e_1]) 0 om'), .int .i64 e])) else False else False else False) ∧ ∀ (e_1 : Int), sgC dr mi = e_1 → bif decide (0 ≤ IntKind.wrap .i64 (e - 1) ∧ IntKind.wrap .i64 (e - 1) < (↑om' : Int)) then bif Nat.ble (0 + Int.toNat (IntKind.wrap .i64 (e - 1)) * 1 + 1) (List.length od') then bif bytesOK (setL od' (0 + Int.toNat (IntKind.wrap .i64 (e - 1)) * 1) [.int .u8 e_1]) 0 om' then R (.tuple (.mk [.string (bytesOf (setL od' (0 + Int.toNat (IntKind.wrap .i64 (e - 1)) * 1) [.int .u8 e_1]) 0 om'), .int .i64 e])) else False else False else False) ∧ ∀ (e_1 : Int), sgC dr mi = e_1 → bif decide (0 ≤ IntKind.wrap .i64 (e - 1) ∧ IntKind.wrap .i64 (e - 1) < (↑om' : Int)) then bif Nat.ble (0 + Int.toNat (IntKind.wrap .i64 (e - 1)) * 1 + 1) (List.length od') then bif bytesOK (setL od' (0 + Int.toNat (IntKind.wrap .i64 (e - 1)) * 1) [.int .u8 e_1]) 0 om' then R (.tuple (.mk [.string (bytesOf (setL od' (0 + Int.toNat (IntKind.wrap .i64 (e - 1)) * 1) [.int .u8 e_1]) 0 om'), .int .i64 e])) else False else False else False) ∧ ∀ (e_1 : Int), sgC dr mi = e_1 → bif decide (0 ≤ IntKind.wrap .i64 (e - 1) ∧ IntKind.wrap .i64 (e - 1) < (↑om' : Int)) then bif Nat.ble (0 + Int.toNat (IntKind.wrap .i64 (e - 1)) * 1 + 1) (List.length od') then bif bytesOK (setL od' (0 + Int.toNat (IntKind.wrap .i64 (e - 1)) * 1) [.int .u8 e_1]) 0 om' then R (.tuple (.mk [.string (bytesOf (setL od' (0 + Int.toNat (IntKind.wrap .i64 (e - 1)) * 1) [.int .u8 e_1]) 0 om'), .int .i64 e])) else False else False else False) ∧ ((((∀ (e_1 : Int), sgC dr mi = e_1 → bif decide (0 ≤ IntKind.wrap .i64 (e - 1) ∧ IntKind.wrap .i64 (e - 1) < (↑om' : Int)) then bif Nat.ble (0 + Int.toNat (IntKind.wrap .i64 (e - 1)) * 1 + 1) (List.length od') then bif bytesOK (setL od' (0 + Int.toNat (IntKind.wrap .i64 (e - 1)) * 1) [.int .u8 e_1]) 0 om' then R (.tuple (.mk [.string (bytesOf (setL od' (0 + Int.toNat (IntKind.wrap .i64 (e - 1)) * 1) [.int .u8 e_1]) 0 om'), .int .i64 e])) else False else False else False) ∧ ∀ (e_1 : Int), sgC dr mi = e_1 → bif decide (0 ≤ IntKind.wrap .i64 (e - 1) ∧ IntKind.wrap .i64 (e - 1) < (↑om' : Int)) then bif Nat.ble (0 + Int.toNat (IntKind.wrap .i64 (e - 1)) * 1 + 1) (List.length od') then bif bytesOK (setL od' (0 + Int.toNat (IntKind.wrap .i64 (e - 1)) * 1) [.int .u8 e_1]) 0 om' then R (.tuple (.mk [.string (bytesOf (setL od' (0 + Int.toNat (IntKind.wrap .i64 (e - 1)) * 1) [.int .u8 e_1]) 0 om'), .int .i64 e])) else False else False else False) ∧ ∀ (e_1 : Int), sgC dr mi = e_1 → bif decide (0 ≤ IntKind.wrap .i64 (e - 1) ∧ IntKind.wrap .i64 (e - 1) < (↑om' : Int)) then bif Nat.ble (0 + Int.toNat (IntKind.wrap .i64 (e - 1)) * 1 + 1) (List.length od') then bif bytesOK (setL od' (0 + Int.toNat (IntKind.wrap .i64 (e - 1)) * 1) [.int .u8 e_1]) 0 om' then R (.tuple (.mk [.string (bytesOf (setL od' (0 + Int.toNat (IntKind.wrap .i64 (e - 1)) * 1) [.int .u8 e_1]) 0 om'), .int .i64 e])) else False else False else False) ∧ (((∀ (e_1 : Int), sgC dr mi = e_1 → bif decide (0 ≤ IntKind.wrap .i64 (e - 1) ∧ IntKind.wrap .i64 (e - 1) < (↑om' : Int)) then bif Nat.ble (0 + Int.toNat (IntKind.wrap .i64 (e - 1)) * 1 + 1) (List.length od') then bif bytesOK (setL od' (0 + Int.toNat (IntKind.wrap .i64 (e - 1)) * 1) [.int .u8 e_1]) 0 om' then R (.tuple (.mk [.string (bytesOf (setL od' (0 + Int.toNat (IntKind.wrap .i64 (e - 1)) * 1) [.int .u8 e_1]) 0 om'), .int .i64 e])) else False else False else False) ∧ ∀ (e_1 : Int), sgC dr mi = e_1 → bif decide (0 ≤ IntKind.wrap .i64 (e - 1) ∧ IntKind.wrap .i64 (e - 1) < (↑om' : Int)) then bif Nat.ble (0 + Int.toNat (IntKind.wrap .i64 (e - 1)) * 1 + 1) (List.length od') then bif bytesOK (setL od' (0 + Int.toNat (IntKind.wrap .i64 (e - 1)) * 1) [.int .u8 e_1]) 0 om' then R (.tuple (.mk [.string (bytesOf (setL od' (0 + Int.toNat (IntKind.wrap .i64 (e - 1)) * 1) [.int .u8 e_1]) 0 om'), .int .i64 e])) else False else False else False) ∧ ((∀ (e_1 : Int), sgC dr mi = e_1 → bif decide (0 ≤ IntKind.wrap .i64 (e - 1) ∧ IntKind.wrap .i64 (e - 1) < (↑om' : Int)) then bif Nat.ble (0 + Int.toNat (IntKind.wrap .i64 (e - 1)) * 1 + 1) (List.length od') then bif bytesOK (setL od' (0 + Int.toNat (IntKind.wrap .i64 (e - 1)) * 1) [.int .u8 e_1]) 0 om' then R (.tuple (.mk [.string (bytesOf (setL od' (0 + Int.toNat (IntKind.wrap .i64 (e - 1)) * 1) [.int .u8 e_1]) 0 om'), .int .i64 e])) else False else False else False) ∧ ∀ (e_1 : Int), sgC dr mi = e_1 → bif decide (0 ≤ IntKind.wrap .i64 (e - 1) ∧ IntKind.wrap .i64 (e - 1) < (↑om' : Int)) then bif Nat.ble (0 + Int.toNat (IntKind.wrap .i64 (e - 1)) * 1 + 1) (List.length od') then bif bytesOK (setL od' (0 + Int.toNat (IntKind.wrap .i64 (e - 1)) * 1) [.int .u8 e_1]) 0 om' then R (.tuple (.mk [.string (bytesOf (setL od' (0 + Int.toNat (IntKind.wrap .i64 (e - 1)) * 1) [.int .u8 e_1]) 0 om'), .int .i64 e])) else False else False else False) ∧ ∀ (e_1 : Int), sgC dr mi = e_1 → bif decide (0 ≤ IntKind.wrap .i64 (e - 1) ∧ IntKind.wrap .i64 (e - 1) < (↑om' : Int)) then bif Nat.ble (0 + Int.toNat (IntKind.wrap .i64 (e - 1)) * 1 + 1) (List.length od') then bif bytesOK (setL od' (0 + Int.toNat (IntKind.wrap .i64 (e - 1)) * 1) [.int .u8 e_1]) 0 om' then R (.tuple (.mk [.string (bytesOf (setL od' (0 + Int.toNat (IntKind.wrap .i64 (e - 1)) * 1) [.int .u8 e_1]) 0 om'), .int .i64 e])) else False else False else False) ∧ ∀ (e_1 : Int), sgC dr mi = e_1 → bif decide (0 ≤ IntKind.wrap .i64 (e - 1) ∧ IntKind.wrap .i64 (e - 1) < (↑om' : Int)) then bif Nat.ble (0 + Int.toNat (IntKind.wrap .i64 (e - 1)) * 1 + 1) (List.length od') then bif bytesOK (setL od' (0 + Int.toNat (IntKind.wrap .i64 (e - 1)) * 1) [.int .u8 e_1]) 0 om' then R (.tuple (.mk [.string (bytesOf (setL od' (0 + Int.toNat (IntKind.wrap .i64 (e - 1)) * 1) [.int .u8 e_1]) 0 om'), .int .i64 e])) else False else False else False) ∧ ∀ (e_1 : Int), sgC dr mi = e_1 → bif decide (0 ≤ IntKind.wrap .i64 (e - 1) ∧ IntKind.wrap .i64 (e - 1) < (↑om' : Int)) then bif Nat.ble (0 + Int.toNat (IntKind.wrap .i64 (e - 1)) * 1 + 1) (List.length od') then bif bytesOK (setL od' (0 + Int.toNat (IntKind.wrap .i64 (e - 1)) * 1) [.int .u8 e_1]) 0 om' then R (.tuple (.mk [.string (bytesOf (setL od' (0 + Int.toNat (IntKind.wrap .i64 (e - 1)) * 1) [.int .u8 e_1]) 0 om'), .int .i64 e])) else False else False else False) ∧ ∀ (e_1 : Int), sgC dr mi = e_1 → bif decide (0 ≤ IntKind.wrap .i64 (e - 1) ∧ IntKind.wrap .i64 (e - 1) < (↑om' : Int)) then bif Nat.ble (0 + Int.toNat (IntKind.wrap .i64 (e - 1)) * 1 + 1) (List.length od') then bif bytesOK (setL od' (0 + Int.toNat (IntKind.wrap .i64 (e - 1)) * 1) [.int .u8 e_1]) 0 om' then R (.tuple (.mk [.string (bytesOf (setL od' (0 + Int.toNat (IntKind.wrap .i64 (e - 1)) * 1) [.int .u8 e_1]) 0 om'), .int .i64 e])) else False else False else False) ∧ ∀ (e_1 : Int), sgC dr mi = e_1 → bif decide (0 ≤ IntKind.wrap .i64 (e - 1) ∧ IntKind.wrap .i64 (e - 1) < (↑om' : Int)) then bif Nat.ble (0 + Int.toNat (IntKind.wrap .i64 (e - 1)) * 1 + 1) (List.length od') then bif bytesOK (setL od' (0 + Int.toNat (IntKind.wrap .i64 (e - 1)) * 1) [.int .u8 e_1]) 0 om' then R (.tuple (.mk [.string (bytesOf (setL od' (0 + Int.toNat (IntKind.wrap .i64 (e - 1)) * 1) [.int .u8 e_1]) 0 om'), .int .i64 e])) else False else False else False else bif bytesOK od' 0 om' then R (.tuple (.mk [.string (bytesOf od' 0 om'), .int .i64 e])) else False else False else False else False else False else False else False) := by kernel_rfl
def wrV (sp : List Int) (w f : Int) (cr : Bool) (dr fl fm : Int) (ro nu : List Int) (mi : Bool) : List Int × Int :=
 bif decide (enV nu fm ro < 0) then (repZ [fl] w.toNat, w)
 else (bif dr != 0 && decide (enV nu fm ro > 0) then (wrGo f cr sp.length mi (enV nu fm ro) fl ro sp nu 0 0).set (enV nu fm ro - 1).toNat (bif dr == 36 then 36 else sgC dr mi)
  else wrGo f cr sp.length mi (enV nu fm ro) fl ro sp nu 0 0, enV nu fm ro)
def wrR (x : List Int × Int) : Value := .tuple ⟨[.string (sz x.1), .int .i64 x.2]⟩
def cN : List Int → Int
 | [] => 0
 | r :: rs => (bif r == 2 then 0 else 1) + cN rs
theorem cN_nn : ∀ l, 0 ≤ cN l
 | [] => by simp [cN]
 | r :: rs => by have := cN_nn rs; rw [cN]; cases r == 2 <;> simp <;> omega
theorem cn1_cdg : ∀ l, cn1 l ≤ cdg l
 | [] => by simp [cn1, cdg]
 | r :: rs => by
  have := cn1_cdg rs
  rw [cn1, cdg]
  by_cases h1 : r = 1
  ·subst h1
   show 1 + _ ≤ 1 + _
   omega
  ·have e : (r == 1) = false := by simpa using h1
   rw [e]
   cases decide (r = 0) || decide (r = 1) <;> simp <;> omega
theorem wrGo_len {f : Int} {cr : Bool} {n : Int} {mi : Bool} {ld fl : Int} : ∀ (rs cs ds : List Int) (i a : Int), ((wrGo f cr n mi ld fl rs cs ds i a).length : Int) = cN rs
 | [], _, _, _, _ => rfl
 | r :: rs, cs, ds, i, a => by
  rw [wrGo, cN]
  cases r == 2
  ·simp only [cond_false, List.length_cons]
   have := wrGo_len (f := f) (cr := cr) (n := n) (mi := mi) (ld := ld) (fl := fl) rs cs.tail (bif wrT f cr n r i then ds.tail else ds) (i + 1) (a + 1)
   omega
  ·simp only [cond_true]
   rw [wrGo_len]
   omega
theorem enGo_le {ze : Bool} {fm : Int} : ∀ (ro ds : List Int) (a : Int), -1 ≤ a → enGo ze fm ro ds a ≤ a + cN ro
 | [], _, a, h => by rw [enGo, cN]; omega
 | r :: rs, ds, a, h => by
  have h0 := cN_nn rs
  rw [enGo, cN]
  by_cases h2 : r = 2
  ·subst h2
   have e0 : ((2 : Int) == 0) = false := rfl
   have e1 : ((2 : Int) == 1) = false := rfl
   have e2 : ((2 : Int) == 2) = true := rfl
   rw [e0, e1, e2]
   simp only [cond_true, cond_false]
   have := enGo_le (ze := ze) (fm := fm) rs ds a h
   cases decide (fm > 0) || !ze <;> simp <;> omega
  ·have e2 : (r == 2) = false := by simpa using h2
   rw [e2]
   have h1 := enGo_le (ze := ze) (fm := fm) rs ds (a + 1) (by omega)
   have h3 := enGo_le (ze := ze) (fm := fm) rs ds.tail (a + 1) (by omega)
   cases r == 0
   ·cases r == 1
    ·simp only [cond_false]
     omega
    ·simp only [cond_true, cond_false]
     cases ds.headD 0 != 48 <;> simp <;> omega
   ·simp only [cond_true, cond_false]
    omega
theorem enV_le {nu : List Int} {fm : Int} {ro : List Int} : enV nu fm ro ≤ cN ro := by
 rw [enV]
 have := cN_nn ro
 have := enGo_le (ze := (trimZ nu [48]).isEmpty) (fm := fm) ro nu 0 (by omega)
 cases enOn ro <;> simp <;> omega
theorem enc_fl {fl : Int} (h : fl = 32 ∨ fl = 42) : bz (Utf8.encode fl) = [fl] := by
 rcases h with rfl | rfl <;> kernel_rfl
theorem w_64 (s : ByteArray) (nb : Bool) (w : Int) (dg : Int) (sc : Int) (sg : Bool) (k : Nat) (cap : Nat) (dr : Int) (f : Int) (cr : Bool) (fl : Int) (fm : Int) (nu : ByteArray) (mi : Bool) (d : List Value) (hR : rowIOK d k cap = true) (hO : roOK (zc d k) = true) (hD : dgL (bz nu) = true) (hk : k ≤ 1000 ∧ nu.size ≤ 1000 ∧ k ≤ s.size ∧ s.size ≤ 1000 ∧ 0 ≤ w ∧ w ≤ 1000) (hc : cdg (zc d k) ≤ nu.size) (hfl : fl = 32 ∨ fl = 42)
  {R : Value → Prop} (hV : R (wrR (wrV (bz s) w f cr dr fl fm (zc d k) (bz nu) mi))) :
  DoesM Tryz.prog G36 (oneL 0 S64_0.hA) Tryz.f64 [.pointer (some ⟨0, 0, some 0⟩), .string nu, .bool mi] (vwF2 (fmL s nb w dg sc sg 1 k cap dr f cr fl fm) d) 2 (fun v _ _ => R v) := by
 rw [DoesM, v64]
 have h := rowIOK_iff.1 hR
 have h1 := cn1_cdg (zc d k)
 have hl := @enV_le (bz nu) fm (zc d k)
 have z0 : Int.toNat 0 = 0 := rfl
 have hg : (goodL [] d && true && true && (idsLt 210 d && true)) = true := by rw [h.good]; simp [idsLt, idsL, ids_plainL h.plain]
 have hi : (idsLt 210 d && true) = true := by simp [idsLt, idsL, ids_plainL h.plain]
 have sl : ((bz s).length : Int) = s.size := by rw [bz_length]
 rw [wrV, wrR, sl] at hV
 simp only [h.rlb, z0, List.drop_zero]
 refine c_t (by rw [hR]; simp only [Bool.true_and, decide_eq_true_eq]; omega) fun e he => ?_
 rw [he] at hV hl
 have hw := fun a => @wrGo_len f cr s.size mi e fl (zc d k) (bz s) (bz nu) 0 a
 have hw := hw 0
 generalize wrGo f cr s.size mi e fl (zc d k) (bz s) (bz nu) 0 0 = W at *
 refine cond_intro (fun q => ?_) (fun q => ?_)
 ·rw [q, cond_true] at hV
  have eb := enc_fl hfl
  have es : (Utf8.encode fl).size = 1 := by rw [← bz_length, eb]; rfl
  rw [es, eb]
  exact c_t (decide_eq_true (by omega)) hV
 ·rw [q, cond_false] at hV
  refine c_t hg (c_t ?_ ⟨fun _ hn us' at' i' => c_t hi fun _ => c_t (by simp) ?_, fun us' at' i' od om oc g1 g2 => ?_⟩)
  ·show (Rw.nil.ok && (rowIOK d k cap && (roOK (zc d k) && (dgL (bz nu) && decide (mi = mi ∧ (0 : Int) ≤ 0 ∧ (0 : Int) ≤ k ∧ k ≤ 1000 ∧ natO k = k ∧ k ≤ s.size ∧ s.size ≤ 1000 ∧ (0 : Int) ≤ 0 ∧ (0 : Int) ≤ 0 ∧ (0 : Int) ≤ 0 ∧ (0 : Int) ≤ 0 ∧ 0 + cdg ((zc d k).drop (Int.toNat 0)) ≤ nu.size ∧ ((Rw.nil.z.length : Nat) : Int) ≤ 0))))) = true
   rw [hR, hO, hD, natO_eq, z0, List.drop_zero]
   simp only [Bool.true_and, Rw.ok, Rw.z, List.length_nil, decide_eq_true_eq]
   exact ⟨trivial, by omega, by omega, by omega, trivial, by omega, by omega, by omega, by omega, by omega, by omega, by omega, by omega⟩
  ·rw [hn, List.length_nil] at hw
   have e0 : decide (e > 0) = false := decide_eq_false (by omega)
   rw [e0, Bool.and_false, Bool.and_false, cond_false]
   rw [e0, Bool.and_false, cond_false, hn] at hV
   exact c_t (by simp) hV
  ·have ho := rowOK_iff.1 g1
   have hzl := zc_length ho
   rw [g2] at hzl
   have g3 : zc od om = W := by rw [g2]; rfl
   have hzl : W.length = om := hzl
   have hio : (idsLt 210 d && (idsLt 210 od && true)) = true := by simp [idsLt, idsL, ids_plainL h.plain, ids_plainL ho.plain]
   have hset : ∀ x : Int, e > 0 → R (.tuple ⟨[.string (sz (W.set (e - 1).toNat x)), .int .i64 e]⟩) →
     (bif decide (0 ≤ IntKind.wrap IntKind.i64 (e - 1) ∧ IntKind.wrap IntKind.i64 (e - 1) < (↑om : Int)) then
      bif Nat.ble (0 + Int.toNat (IntKind.wrap IntKind.i64 (e - 1)) * 1 + 1) (List.length od) then
       bif bytesOK (setL od (0 + Int.toNat (IntKind.wrap IntKind.i64 (e - 1)) * 1) [Value.int IntKind.u8 x]) 0 om then
        R (Value.tuple (Array.mk [Value.string (bytesOf (setL od (0 + Int.toNat (IntKind.wrap IntKind.i64 (e - 1)) * 1) [Value.int IntKind.u8 x]) 0 om), Value.int IntKind.i64 e]))
       else False
      else False
     else False) := fun x h0 hx => by
    have hb : (W.length : Int) ≤ 1000 := by
     have := hw
     have h2 : cN (zc d k) ≤ k := by
      have : ∀ l : List Int, cN l ≤ l.length := fun l => by
       induction l with
       | nil => simp [cN]
       | cons r rs ih => rw [cN, List.length_cons]; cases r == 2 <;> simp <;> omega
      have := this (zc d k)
      rw [zi_length h] at this
      exact this
     omega
    rw [w64 (n := e - 1) (by omega)]
    obtain ⟨s1, s2, s4⟩ := ho.set x (i := (e - 1).toNat) (by omega)
    have s3 := s1.str
    rw [s2, g3] at s3
    exact c_t (decide_eq_true (by omega)) (c_t s4 (c_t s3.1 (by rw [s3.2]; exact hx)))
   refine c_t hio fun _ => c_t (by simp) (cond_intro (fun p => ?_) (fun p => c_t (by simp) (cond_intro (fun p2 => ?_) (fun p2 => ?_))))
   ·obtain ⟨p1, p3⟩ := Bool.and_eq_true_iff.1 p
    have pe : dr = 36 := by simpa using p1
    have pn : (dr != 0) = true := by rw [pe]; rfl
    rw [pn, p3, p1, Bool.true_and, cond_true, cond_true] at hV
    exact hset 36 (of_decide_eq_true p3) hV
   ·obtain ⟨p1, p3⟩ := Bool.and_eq_true_iff.1 p2
    have pe : (dr == 36) = false := by
     rw [p3, Bool.and_true] at p
     exact p
    rw [p1, p3, pe, Bool.true_and, cond_true, cond_false] at hV
    have hX : ∀ e_1 : Int, sgC dr mi = e_1 → _ := fun e_1 h1 => hset e_1 (of_decide_eq_true p3) (by rw [← h1]; exact hV)
    repeat' (first | exact hX | apply And.intro)
   ·rw [p2, cond_false] at hV
    have s3 := ho.str
    rw [g3] at s3
    exact c_t s3.1 (by rw [s3.2]; exact hV)
def w64C (s nu : ByteArray) (k cap : Nat) (w fl : Int) (d : List Value) : Bool := rowIOK d k cap && (roOK (zc d k) && (dgL (bz nu) && decide ((k ≤ 1000 ∧ nu.size ≤ 1000 ∧ k ≤ s.size ∧ s.size ≤ 1000 ∧ 0 ≤ w ∧ w ≤ 1000) ∧ cdg (zc d k) ≤ nu.size ∧ (fl = 32 ∨ fl = 42))))
def h64 : List Value → Lk → Nat → (Value → Lk → Nat → Prop) → Prop := fun args m n K => match args with
 | [.pointer (some ⟨a, 0, some 0⟩), .string nu, .bool mi] => match m a with
  | some ⟨[.string s, .bool nb, .int .i64 w, .int .i64 dg, .int .i64 sc, .bool sg, .slice (some ⟨y, 0, some 1⟩) k cap, .int .u8 dr, .int .i64 f, .bool cr, .int .u8 fl, .int .i64 fm], 84, own⟩ => match m y with
   | some ⟨d, 102, own2⟩ => match cnd (w64C s nu k cap w fl d) with
    | true => ∀ (t : ByteArray) (l : Int), sz (wrV (bz s) w f cr dr fl fm (zc d k) (bz nu) mi).1 = t → (wrV (bz s) w f cr dr fl fm (zc d k) (bz nu) mi).2 = l → K (.tuple ⟨[.string t, .int .i64 l]⟩) m n
    | false => False
   | _ => False
  | _ => False
 | _ => False
theorem h64_ok : GenOK Tryz.prog 64 h64 := by
 refine gen_sub ok_G36 hmix fn64 lok64 fun args m n K h => ?_
 unfold h64 at h
 split at h
 case h_2 => exact h.elim
 rename_i a nu mi
 split at h
 case h_2 => exact h.elim
 rename_i s nb w dg sc sg y k cap dr f cr fl fm own hm
 split at h
 case h_2 => exact h.elim
 rename_i d own2 hy
 split at h
 case h_2 => exact h.elim
 rename_i hc
 simp only [cnd, w64C, Bool.and_eq_true, decide_eq_true_eq] at hc
 obtain ⟨h1, h2, h3, h4, h5, h6⟩ := hc
 refine ⟨[.pointer (some ⟨0, 0, some 0⟩), .string nu, .bool mi], _, 2, rho2 a y, wrR (wrV (bz s) w f cr dr fl fm (zc d k) (bz nu) mi), sub_F2 (rowIOK_iff.1 h1).plain hm hy, fun ι => by simp [ren, ren1, rho2], Nat.le_of_ble_eq_true (by kernel_rfl), fun v hv j hj => ?_, rfl,
  w_64 s nb w dg sc sg k cap dr f cr fl fm nu mi d h1 h2 h3 h4 h5 h6 (R := fun v => v = wrR (wrV (bz s) w f cr dr fl fm (zc d k) (bz nu) mi)) rfl, h _ _ rfl rfl⟩
 simp at hv
 rcases hv with rfl | rfl | rfl
 ·have : j = 0 := by simpa [ids] using hj
  omega
 ·simp [ids] at hj
 ·simp [ids] at hj
def G37 : Env := G36.addG 64 h64
theorem ok_G37 : EnvOK Tryz.prog G37 := env_addG ok_G36 h64_ok
end Go.Px
end
noncomputable section
namespace Go.Px
open Go Go.Ab Go.Proofs Go.Shelf
theorem en_stop {ze : Bool} {fm : Int} : ∀ (rs : List Int) (ds : List Int) (a : Int), okR rs → 0 ≤ a → (decide (fm > 0) || !ze) = true →
  enGo ze fm rs ds a = endGo (rs.map rmk) ds a ∨ (enGo ze fm rs ds a = -1 ∧ 0 ∉ rs ∧ ∀ c ∈ ds.take (cn1 rs).toNat, c = 48)
 | [], ds, a, _, _, _ => .inr ⟨rfl, by simp, by simp [cn1]⟩
 | r :: rs, ds, a, hok, ha, hz => by
  have hok' : okR rs := fun x hx => hok x (List.mem_cons_of_mem _ hx)
  have h0 := cn1_nn rs
  rw [enGo, List.map_cons, endGo]
  rcases rmk_cases (hok r List.mem_cons_self) with rfl | rfl | rfl | rfl | rfl | rfl
  ·exact .inl rfl
  ·show (bif ds.headD 0 != 48 then a else enGo ze fm rs ds.tail (a + 1)) = (bif ds.headD 0 != 48 then a else endGo (rs.map rmk) ds.tail (a + 1)) ∨ ((bif ds.headD 0 != 48 then a else enGo ze fm rs ds.tail (a + 1)) = -1 ∧ _ ∧ ∀ c ∈ ds.take (1 + cn1 rs).toNat, c = 48)
   cases hd : ds.headD 0 != 48 with
   | true => exact .inl rfl
   | false =>
    simp only [cond_false]
    rcases en_stop rs ds.tail (a + 1) hok' (by omega) hz with h | ⟨h1, h2, h3⟩
    ·exact .inl h
    ·refine .inr ⟨h1, by simpa using h2, fun c hc => ?_⟩
     have e : (1 + cn1 rs).toNat = (cn1 rs).toNat + 1 := by omega
     rw [e] at hc
     cases ds with
     | nil => simp at hc
     | cons x xs =>
      rw [List.take_succ_cons] at hc
      rcases List.mem_cons.1 hc with rfl | hc
      ·simpa using hd
      ·exact h3 c hc
  ·show (bif decide (fm > 0) || !ze then a else enGo ze fm rs ds a) = a ∨ _
   rw [hz]
   exact .inl rfl
  ·rcases en_stop rs ds (a + 1) hok' (by omega) hz with h | ⟨h1, h2, h3⟩
   ·exact .inl h
   ·exact .inr ⟨h1, by simpa using h2, by simpa [cn1] using h3⟩
  ·rcases en_stop rs ds (a + 1) hok' (by omega) hz with h | ⟨h1, h2, h3⟩
   ·exact .inl h
   ·exact .inr ⟨h1, by simpa using h2, by simpa [cn1] using h3⟩
  ·rcases en_stop rs ds (a + 1) hok' (by omega) hz with h | ⟨h1, h2, h3⟩
   ·exact .inl h
   ·exact .inr ⟨h1, by simpa using h2, by simpa [cn1] using h3⟩
theorem en_none {fm : Int} (hf : decide (fm > 0) = false) : ∀ (rs : List Int) (ds : List Int) (a : Int), okR rs → 0 ∉ rs → (∀ c ∈ ds, c = 48) → cn1 rs ≤ ds.length → enGo true fm rs ds a = -1
 | [], _, _, _, _, _, _ => rfl
 | r :: rs, ds, a, hok, hr, hd, hl => by
  have hok' : okR rs := fun x hx => hok x (List.mem_cons_of_mem _ hx)
  have hr' : 0 ∉ rs := fun h => hr (List.mem_cons_of_mem _ h)
  rw [cn1] at hl
  have h0 := cn1_nn rs
  rw [enGo]
  rcases rmk_cases (hok r List.mem_cons_self) with rfl | rfl | rfl | rfl | rfl | rfl
  ·exact absurd List.mem_cons_self hr
  ·have hl : 1 + cn1 rs ≤ ds.length := hl
   cases ds with
   | nil => simp at hl; omega
   | cons x xs =>
    have : x = 48 := hd x List.mem_cons_self
    subst this
    exact en_none hf rs xs (a + 1) hok' hr' (fun c hc => hd c (List.mem_cons_of_mem _ hc)) (by simp at hl; omega)
  ·show (bif decide (fm > 0) || !true then a else enGo true fm rs ds a) = -1
   rw [hf]
   exact en_none hf rs ds a hok' hr' hd (by simpa using hl)
  ·exact en_none hf rs ds (a + 1) hok' hr' hd (by simpa using hl)
  ·exact en_none hf rs ds (a + 1) hok' hr' hd (by simpa using hl)
  ·exact en_none hf rs ds (a + 1) hok' hr' hd (by simpa using hl)
theorem en_on : ∀ (rs : List Int), okR rs → (∀ bh pt dg, (ldGo (rs.map rmk) false bh pt dg).1 = true → enOn rs = hasZ (rs.map rmk) 99)
 | [], _, _, _, _, _ => rfl
 | r :: rs, hok, bh, pt, dg, h => by
  have hok' : okR rs := fun x hx => hok x (List.mem_cons_of_mem _ hx)
  rw [List.map_cons, ldGo] at h
  rw [enOn, List.map_cons, has_cons]
  rcases rmk_cases (hok r List.mem_cons_self) with rfl | rfl | rfl | rfl | rfl | rfl
  ·show false = (false || hasZ (rs.map rmk) 99)
   rw [Bool.false_or]
   cases hq : hasZ (rs.map rmk) 99 with
   | false => rfl
   | true =>
    have h : (ldGo (rs.map rmk) true bh pt (dg + 1)).1 = true := h
    rw [ld_firm _ _ _ _ (hasZ_iff.1 hq)] at h
    cases h
  ·rfl
  ·exact (en_on rs hok' _ _ _ h).trans (Bool.false_or _).symm
  ·exact (en_on rs hok' _ _ _ h).trans (Bool.false_or _).symm
  ·exact (en_on rs hok' _ _ _ h).trans (Bool.false_or _).symm
  ·exact (en_on rs hok' _ _ _ h).trans (Bool.false_or _).symm
theorem cdg_pd : ∀ (rs : List Int), okR rs → cdg rs = pdGo (rs.map rmk)
 | [], _ => rfl
 | r :: rs, hok => by
  have hok' : okR rs := fun x hx => hok x (List.mem_cons_of_mem _ hx)
  rw [cdg, List.map_cons, pdGo, cdg_pd rs hok']
  rcases rmk_cases (hok r List.mem_cons_self) with rfl | rfl | rfl | rfl | rfl | rfl <;> rfl
theorem cn1_cdg_eq : ∀ (rs : List Int), 0 ∉ rs → cn1 rs = cdg rs
 | [], _ => rfl
 | r :: rs, h => by
  have h1 : r ≠ 0 := fun e => h (by rw [e]; exact List.mem_cons_self)
  rw [cn1, cdg, cn1_cdg_eq rs fun q => h (List.mem_cons_of_mem _ q), decide_eq_false h1, Bool.false_or]
  by_cases e : r = 1
  ·subst e; rfl
  ·rw [decide_eq_false e]
   have : (r == 1) = false := by simpa using e
   rw [this]
theorem has_100 : ∀ (rs : List Int), okR rs → hasZ (rs.map rmk) 100 = decide (0 ∈ rs)
 | [], _ => rfl
 | r :: rs, hok => by
  have hok' : okR rs := fun x hx => hok x (List.mem_cons_of_mem _ hx)
  rw [List.map_cons, has_cons, has_100 rs hok']
  rcases rmk_cases (hok r List.mem_cons_self) with rfl | rfl | rfl | rfl | rfl | rfl <;> simp [rmk]
theorem ld_115 : ∀ (a : List Int) (fm bh pt : Bool) (dg : Int), (ldGo (a ++ [115, 115]) fm bh pt dg).1 = (ldGo a fm bh pt dg).1
 | [], _, _, _, _ => rfl
 | m :: r, fm, bh, pt, dg => by
  rw [List.cons_append, ldGo, ldGo]
  cases m == 118
  ·cases m == 100
   ·cases m == 99
    ·exact ld_115 r _ _ _ _
    ·cases fm
     ·exact ld_115 r _ _ _ _
     ·rfl
   ·exact ld_115 r _ _ _ _
  ·exact ld_115 r _ _ _ _
theorem cnt_has {l : List Int} {c : Int} : decide ((cntZ l c : Int) > 0) = hasZ l c := by
 rw [Bool.eq_iff_iff, decide_eq_true_eq, hasZ_iff]
 induction l with
 | nil => simp [cntZ]
 | cons x l ih =>
  rw [cnt_cons]
  by_cases e : x = c
  ·subst e
   simp
   omega
  ·rw [if_neg e, Int.zero_add, ih]
   simp [Ne.symm e]
theorem rep48 : ∀ {l : List Int} {k : Nat}, l.length = k → (l = rep1 48 k ↔ ∀ c ∈ l, c = 48)
 | l, k, h => by
  rw [rep1, List.eq_replicate_iff]
  exact ⟨fun q => q.2, fun q => ⟨h, q⟩⟩
theorem pic_facts {l : List Int} (hl : IsB (pS l) ∧ (pS l).length ≤ 32) (h : pN l = true) : okR (rolF (pS l)) ∧ (rolF (pS l)).map rmk = marksZ (pS l) ∧ cdg (rolF (pS l)) = pD l ∧ enOn (rolF (pS l)) = hasZ (marksZ (pS l)) 99 ∧
  decide ((cntZ (mkGo (drZ (bodyZ (pS l))) false (bodyZ (pS l))) 100 : Int) > 0) = hasZ (marksZ (pS l)) 100 ∧ hasZ (marksZ (pS l)) 100 = decide (0 ∈ rolF (pS l)) ∧ (hasZ (marksZ (pS l)) 99 = true → pW l > 0) := by
 obtain ⟨h1, h2, h3⟩ := rol_marks h
 have hv := pN_vOK h
 have hS : pS l = exZ l := by rw [pS, if_pos hv]
 have hnp := pN_num h
 obtain ⟨_, _, p3, _⟩ := pN_ok hl h 0
 have hW : pW l = (pS l).length - cntZ (pS l) 86 := by rw [pW, if_pos hv, hnp.nch, hS]; rfl
 refine ⟨h2, h3, by rw [cdg_pd _ h2, h3, p3], ?_, ?_, by rw [← h3, has_100 _ h2], fun h9 => ?_⟩
 ·have hld := hnp.ld
  rw [← hS] at hld
  unfold leadsZ at hld
  have hL : (ldGo (mkGo (drZ (bodyZ (pS l))) false (bodyZ (pS l))) false false false 0).1 = true := by
   revert hld
   cases hasZ (bodyZ (pS l)) 90 && hasZ (bodyZ (pS l)) 42
   ·cases (hasZ (bodyZ (pS l)) 90 || hasZ (bodyZ (pS l)) 42) && drZ (bodyZ (pS l)) != 0
    ·intro q
     have q : ((ldGo (mkGo (drZ (bodyZ (pS l))) false (bodyZ (pS l))) false false false 0).1 && _) = true := q
     exact (Bool.and_eq_true_iff.1 q).1
    ·intro q; cases q
   ·intro q; cases q
  have hL2 : (ldGo (marksZ (pS l)) false false false 0).1 = true := by
   unfold marksZ
   split
   ·rw [ld_115]; exact hL
   ·rw [List.append_nil]; exact hL
  rw [← h3] at hL2 ⊢
  exact en_on _ h2 _ _ _ hL2
 ·rw [cnt_has, marksZ]
  have : ∀ a : List Int, hasZ (a ++ (if crZ (pS l) = true then [115, 115] else [])) 100 = hasZ a 100 := fun a => by
   split <;> simp [hasZ]
  rw [this]
 ·have hm := marks_nv (pS l)
  have : 0 < nv (marksZ (pS l)) := by
   have := hasZ_iff.1 h9
   unfold nv
   exact List.length_pos_of_mem (List.mem_filter.2 ⟨this, by decide⟩)
  omega
theorem dig_zero {n : Int} {k : Nat} (hn : (n.natAbs : Int) < tenZ k) : (∀ c ∈ digZ n.natAbs k, c = 48) ↔ n = 0 := by
 have h1 := digZ_dg k n.natAbs
 have h2 := all48 h1
 have h3 := dval_dig k n.natAbs (by omega)
 rw [Int.emod_eq_of_lt (by omega) hn] at h3
 rw [h3] at h2
 have : (∀ c ∈ digZ n.natAbs k, c = 48) ↔ (∀ c ∈ digZ n.natAbs k, hasZ [48] c = true) :=
  ⟨fun q c hc => by rw [q c hc]; rfl, fun q c hc => by have := hasZ_iff.1 (q c hc); simpa using this⟩
 rw [this, h2]
 omega
theorem en_law {l : List Int} (hl : IsB (pS l) ∧ (pS l).length ≤ 32) (h : pN l = true) {n : Int} (hn : (n.natAbs : Int) < tenZ (pD l).toNat) :
  enV (digZ n.natAbs (pD l).toNat) (cntZ (mkGo (drZ (bodyZ (pS l))) false (bodyZ (pS l))) 100) (rolF (pS l)) = (bif fdBl (pS l) (pW l) (pD l).toNat n then -1 else fdLe (pS l) (pW l) (pD l).toNat n) ∧
  (fdBl (pS l) (pW l) (pD l).toNat n = true → fdLe (pS l) (pW l) (pD l).toNat n = pW l) := by
 obtain ⟨f1, f2, f3, f4, f5, f6, f7⟩ := pic_facts hl h
 have hz := dig_zero hn
 have hlen := digZ_len (pD l).toNat n.natAbs
 have hp := pD_rng h
 have hze : (trimZ (digZ n.natAbs (pD l).toNat) [48]).isEmpty = decide (n = 0) := by
  rw [Bool.eq_iff_iff, List.isEmpty_iff, trim_nil, decide_eq_true_eq, ← hz]
  exact ⟨fun q c hc => by have := hasZ_iff.1 (q c hc); simpa using this, fun q c hc => by rw [q c hc]; rfl⟩
 rw [enV, f4, hze, fdBl, fdLe, endZ]
 have hrep : decide (digZ n.natAbs (pD l).toNat = rep1 48 (pD l).toNat) = decide (n = 0) := by
  rw [Bool.eq_iff_iff, decide_eq_true_eq, decide_eq_true_eq, rep48 hlen, hz]
 rw [hrep]
 generalize hds : digZ n.natAbs (pD l).toNat = ds at *
 cases h9 : hasZ (marksZ (pS l)) 99 with
 | false => exact ⟨rfl, fun q => by cases q⟩
 | true =>
  have hW := f7 h9
  have e0 : (n == 0) = decide (n = 0) := by rw [Bool.eq_iff_iff]; simp
  rw [e0]
  simp only [Bool.not_true, cond_false, cond_true]
  cases hq : (!hasZ (marksZ (pS l)) 100 && decide (n = 0)) with
  | true =>
   obtain ⟨q1, q2⟩ := Bool.and_eq_true_iff.1 hq
   rw [q1, q2]
   have q0 : hasZ (marksZ (pS l)) 100 = false := by simpa using q1
   rw [q0] at f5 f6
   have h0 : 0 ∉ rolF (pS l) := of_decide_eq_false f6.symm
   have hcn := cn1_cdg_eq _ h0
   rw [en_none f5 _ _ _ f1 h0 (hz.2 (of_decide_eq_true q2)) (by omega)]
   simp [hW]
  | false =>
   have hst : (decide ((cntZ (mkGo (drZ (bodyZ (pS l))) false (bodyZ (pS l))) 100 : Int) > 0) || !decide (n = 0)) = true := by
    rw [f5]
    cases q1 : hasZ (marksZ (pS l)) 100 with
    | true => rfl
    | false =>
     rw [q1] at hq
     have : decide (n = 0) = false := by simpa using hq
     rw [this]
     rfl
   have hB : (decide ((bif false then pW l else endGo (marksZ (pS l)) ds 0) > 0) && ((bif false then pW l else endGo (marksZ (pS l)) ds 0) == pW l && (decide (n = 0) && !hasZ (marksZ (pS l)) 100))) = false := by
    rw [Bool.and_comm (decide (n = 0)), hq, Bool.and_false, Bool.and_false]
   rw [hB]
   refine ⟨?_, fun q => by cases q⟩
   rcases en_stop (rolF (pS l)) ds 0 f1 (by omega) hst with q | ⟨q1, q2, q3⟩
   ·rw [q, f2]
    rfl
   ·exfalso
    have hcn := cn1_cdg_eq _ q2
    rw [f6, decide_eq_false q2] at f5
    rw [f5, Bool.false_or] at hst
    have hn0 : n ≠ 0 := by simpa using hst
    refine hn0 (hz.1 fun c hc => q3 c ?_)
    rw [hcn, f3, List.take_of_length_le (by omega)]
    exact hc
end Go.Px
end
noncomputable section
namespace Go.Px
open Go Go.Ab Go.Proofs Go.Shelf
theorem ro_cases {b pre r : List Int} {c d f : Int} (h : DrP b d f) (hb : b = pre ++ c :: r) :
  ((pre.length : Int) = f ∧ c = d ∧ d ≠ 0 ∧ (roP d f c pre.length = 4 ∨ roP d f c pre.length = 5)) ∨
  ((pre.length : Int) ≠ f ∧ (roP d f c pre.length = 0 ∨ roP d f c pre.length = 1 ∨ roP d f c pre.length = 2 ∨ roP d f c pre.length = 3 ∨
   (c ≠ d ∧ (roP d f c pre.length = 4 ∧ (c = 83 ∨ c = 43 ∨ c = 45) ∨ roP d f c pre.length = 5 ∧ c = 36)))) := by
 have he := h.eq hb
 have hc0 := h.zero c (by rw [hb]; simp)
 by_cases hf : (pre.length : Int) = f
 ·obtain ⟨h1, h2⟩ := he.2.1 hf
  have hd : d ≠ 0 := by rw [← h1]; exact hc0
  refine .inl ⟨hf, h1, hd, ?_⟩
  have hm : d = 36 ∨ d = 83 ∨ d = 43 ∨ d = 45 := by
   rcases h.at_ with ⟨q, _⟩ | ⟨_, _, _, q⟩
   ·exact absurd q hd
   ·simpa using q
  have hne : ((pre.length : Int) != f) = false := by simpa using hf
  unfold roP
  rw [hne, h1]
  rcases hm with rfl | rfl | rfl | rfl <;> simp [hasZ]
 ·refine .inr ⟨hf, ?_⟩
  have hne : ((pre.length : Int) != f) = true := by simpa using hf
  unfold roP
  rw [hne, Bool.and_true]
  cases q1 : hasZ [57, 89, 84, 73, 82] c with
  | true => exact .inl rfl
  | false =>
   cases q2 : (c == 90 || (c == 42 || c == d)) with
   | true => exact .inr (.inl rfl)
   | false =>
    have hcd : c ≠ d := fun e => by rw [e] at q2; simp at q2
    cases q3 : c == 86 with
    | true => exact .inr (.inr (.inl rfl))
    | false =>
     cases q4 : c == 36 with
     | true => exact .inr (.inr (.inr (.inr ⟨hcd, .inr ⟨rfl, by simpa using q4⟩⟩)))
     | false =>
      cases q5 : (c == 83 || (c == 43 || c == 45)) with
      | true => exact .inr (.inr (.inr (.inr ⟨hcd, .inl ⟨rfl, by simpa using q5⟩⟩)))
      | false => exact .inr (.inr (.inr (.inl rfl)))
theorem sg_eq {c : Int} {m : Bool} (h : c = 83 ∨ c = 43 ∨ c = 45) : sgC c m = sgZ c m := by
 rcases h with rfl | rfl | rfl <;> cases m <;> rfl
theorem wr_body {b t : List Int} {d f n ld fl dr' : Int} {cr mi : Bool} (h : DrP b d f) (hdr : d ≠ 0 → dr' = d ∧ fl = 32) (hdr0 : d = 0 → dr' = 0) (hn : n = b.length + (bif cr then 2 else 0)) :
  ∀ (r pre ds : List Int) (a : Int) (X : List Int → List Int → Int → List Int) (rs' ms' : List Int), b = pre ++ r →
   (∀ ds a, wrGo f cr n mi ld fl rs' t ds b.length a = fdGo ld fl dr' mi ms' t ds a) →
   wrGo f cr n mi ld fl (rolesP d f r pre.length ++ rs') (r ++ t) ds pre.length a = fdGo ld fl dr' mi ((rolesP d f r pre.length).map rmk ++ ms') (r ++ t) ds a
 | [], pre, ds, a, X, rs', ms', hb, ht => by
  rw [List.append_nil] at hb
  rw [← hb]
  exact ht ds a
 | c :: r, pre, ds, a, X, rs', ms', hb, ht => by
  have ih := fun ds a => wr_body h hdr hdr0 hn r (pre ++ [c]) ds a X rs' ms' (by rw [hb]; simp) ht
  have e : ((pre ++ [c]).length : Int) = pre.length + 1 := by simp
  rw [e] at ih
  have hcr : (cr && decide ((pre.length : Int) ≥ n - 2)) = false := by
   cases cr with
   | false => rfl
   | true =>
    have : (b.length : Int) = pre.length + (r.length + 1) := by rw [hb]; simp
    rw [Bool.true_and, decide_eq_false_iff_not]
    simp only [cond_true] at hn
    omega
  rw [rolesP, List.cons_append, List.cons_append, List.map_cons, List.cons_append, wrGo, fdGo]
  simp only [List.headD_cons, List.tail_cons]
  rcases ro_cases h hb with ⟨h1, h2, h3, h4⟩ | ⟨h1, h4⟩
  ·obtain ⟨g1, g2⟩ := hdr h3
   have hf : ((pre.length : Int) == f) = true := by simpa using h1
   have e1 : wrC f cr n mi ld fl (roP d f c pre.length) c (ds.headD 0) pre.length a = 32 := by rw [wrC, hf, cond_true, g2]
   have e2 : wrT f cr n (roP d f c pre.length) pre.length = false := by rw [wrT, hf]; rfl
   have e3 : ssZ c dr' mi = 32 := by
    rw [ssZ, g1, h2]
    have : (d != 0 && d == d) = true := by simp [h3]
    rw [this]; rfl
   rw [e1, e2, e3, ih, ih]
   rcases h4 with h4 | h4 <;> rw [h4] <;> rfl
  ·have hf : ((pre.length : Int) == f) = false := by simpa using h1
   rcases h4 with h4 | h4 | h4 | h4 | ⟨h5, h4⟩
   ·rw [h4]
    have e1 : wrC f cr n mi ld fl 0 c (ds.headD 0) pre.length a = fmZ c (ds.headD 0) mi := by rw [wrC, hf, hcr]; rfl
    have e2 : wrT f cr n 0 pre.length = true := by rw [wrT, hf, hcr]; rfl
    rw [e1, e2, ih, ih]
    rfl
   ·rw [h4]
    have e1 : wrC f cr n mi ld fl 1 c (ds.headD 0) pre.length a = bif decide (a < ld) then fl else ds.headD 0 := by rw [wrC, hf, hcr]; rfl
    have e2 : wrT f cr n 1 pre.length = true := by rw [wrT, hf, hcr]; rfl
    rw [e1, e2, ih, ih]
    rfl
   ·rw [h4, ih]
    rfl
   ·rw [h4]
    have e1 : wrC f cr n mi ld fl 3 c (ds.headD 0) pre.length a = bif c == 66 then 32 else bif decide (a < ld) then fl else c := by rw [wrC, hf, hcr]; rfl
    have e2 : wrT f cr n 3 pre.length = false := by rw [wrT, hf, hcr]; rfl
    rw [e1, e2, ih, ih]
    rfl
   ·have hss : ssZ c dr' mi = bif hasZ [67, 82, 68, 66] c then (bif mi then c else 32) else sgZ c mi := by
     have : (dr' != 0 && c == dr') = false := by
      by_cases hd : d = 0
      ·rw [hdr0 hd]; rfl
      ·rw [(hdr hd).1]
       have : (c == d) = false := by simpa using h5
       rw [this, Bool.and_false]
     rw [ssZ, this]
     rfl
    rcases h4 with ⟨h4, h6⟩ | ⟨h4, h6⟩
    ·rw [h4]
     have e1 : wrC f cr n mi ld fl 4 c (ds.headD 0) pre.length a = sgC c mi := by rw [wrC, hf, hcr]; rfl
     have e2 : wrT f cr n 4 pre.length = false := by rw [wrT, hf, hcr]; rfl
     have e3 : ssZ c dr' mi = sgC c mi := by
      rw [hss, sg_eq h6]
      rcases h6 with rfl | rfl | rfl <;> rfl
     rw [e1, e2, ih, ih, ← e3]
     rfl
    ·rw [h4]
     have e1 : wrC f cr n mi ld fl 5 c (ds.headD 0) pre.length a = c := by rw [wrC, hf, hcr]; rfl
     have e2 : wrT f cr n 5 pre.length = false := by rw [wrT, hf, hcr]; rfl
     have e3 : ssZ c dr' mi = c := by rw [hss, h6]; rfl
     rw [e1, e2, ih, ih]
     show c :: _ = (ssZ c dr' mi :: _)
     rw [e3]
     rfl
theorem mk_99a {d : Int} (hd : d ≠ 0) (h4 : d ∈ [36, 83, 43, (45 : Int)]) : ∀ r : List Int, d ∈ r → 99 ∈ mkGo d true r
 | c :: r, h => by
  rw [mkGo]
  have hs : ∀ y : Bool, mkGo d (true || y) r = mkGo d true r := fun y => by rw [Bool.true_or]
  rw [hs]
  rcases List.mem_cons.1 h with e | h
  ·subst e
   have : mk1 d true d = 99 := by
    have : d = 36 ∨ d = 83 ∨ d = 43 ∨ d = 45 := by simpa using h4
    rcases this with rfl | rfl | rfl | rfl <;> rfl
   rw [this]
   exact List.mem_cons_self
  ·exact List.mem_cons_of_mem _ (mk_99a hd h4 r h)
theorem mk_99 {d : Int} (hd : d ≠ 0) (h4 : d ∈ [36, 83, 43, (45 : Int)]) : ∀ (r : List Int) (seen : Bool), ¬ (cntZ r d : Int) < 2 → 99 ∈ mkGo d seen r
 | [], _, h => by simp [cntZ] at h
 | c :: r, seen, h => by
  rw [mkGo]
  rw [cnt_cons] at h
  by_cases e : c = d
  ·subst e
   rw [if_pos rfl] at h
   have hs : (seen || (c != 0 && c == c)) = true := by
    have : (c != 0) = true := by simpa using hd
    rw [this]; simp
   rw [hs]
   refine List.mem_cons_of_mem _ (mk_99a hd h4 r ?_)
   have : (cntZ r c : Int) > 0 := by omega
   exact hasZ_iff.1 (cnt_has.symm.trans (decide_eq_true this))
  ·rw [if_neg e] at h
   exact List.mem_cons_of_mem _ (mk_99 hd h4 r _ (by omega))
theorem wr_2 (f n : Int) (mi : Bool) (ld fl x y : Int) (ds : List Int) (i a : Int) : ∃ D, wrGo f true n mi ld fl [4, 4] [x, y] ds i a = [wrC f true n mi ld fl 4 x (ds.headD 0) i a, wrC f true n mi ld fl 4 y D (i + 1) (a + 1)] := ⟨_, rfl⟩
theorem fd_2 (le fl dr : Int) (mi : Bool) (x y : Int) (ds : List Int) (a : Int) : fdGo le fl dr mi [115, 115] [x, y] ds a = [ssZ x dr mi, ssZ y dr mi] := rfl
theorem rep_one (c : Int) : ∀ k : Nat, repZ [c] k = rep1 c k
 | 0 => rfl
 | k + 1 => by rw [repZ, rep_one c k]; rfl
theorem dr_facts {s : List Int} (h : NumP s) : (drZ (bodyZ s) ≠ 0 → fdDr s = drZ (bodyZ s) ∧ fdFl s = 32) ∧ (drZ (bodyZ s) = 0 → fdDr s = 0) := by
 have e := dr_body s
 constructor
 ·intro hd
  have hld := h.ld
  unfold leadsZ at hld
  have h1 : ((hasZ (bodyZ s) 90 || hasZ (bodyZ s) 42) && drZ (bodyZ s) != 0) = false := by
   revert hld
   cases hasZ (bodyZ s) 90 && hasZ (bodyZ s) 42
   ·cases (hasZ (bodyZ s) 90 || hasZ (bodyZ s) 42) && drZ (bodyZ s) != 0
    ·exact fun _ => rfl
    ·intro q; cases q
   ·intro q; cases q
  have hdn : (drZ (bodyZ s) != 0) = true := by simpa using hd
  rw [hdn, Bool.and_true, Bool.or_eq_false_iff] at h1
  obtain ⟨t, ht, hc⟩ := body_app s
  have ha : ∀ c : Int, (c = 90 ∨ c = 42) → hasZ (bodyZ s) c = false → hasZ s c = false := fun c h0 h1 => by
   have : hasZ s c = hasZ (bodyZ s ++ t) c := congrArg (hasZ · c) ht
   rw [this]
   unfold hasZ at h1 ⊢
   rw [List.any_append, h1, Bool.false_or]
   rcases hc with ⟨rfl, _⟩ | ⟨rfl | rfl, _⟩ <;> rcases h0 with rfl | rfl <;> rfl
  have a1 := ha 90 (.inl rfl) h1.1
  have a2 := ha 42 (.inr rfl) h1.2
  obtain ⟨f1, f2⟩ := (drGo_spec (bodyZ s) (bodyZ s)).resolve_left hd
  obtain ⟨f3, f4⟩ := flg_mem f1
  have h9 : hasZ (marksZ s) 99 = true := hasZ_iff.2 (by
   unfold marksZ
   exact List.mem_append_left _ (mk_99 hd f3 _ _ f4))
  rw [fdDr, fdFl, a1, a2, h9, e]
  exact ⟨rfl, rfl⟩
 ·intro hd
  rw [fdDr, e, hd]
  cases !hasZ s 90 && (!hasZ s 42 && hasZ (marksZ s) 99) <;> rfl
theorem fdLe_nn {sp : List Int} {w : Int} {k : Nat} {n : Int} (hw : 0 ≤ w) : 0 ≤ fdLe sp w k n := by
 rw [fdLe, endZ]
 have := (end_ge (marksZ sp) (digZ n.natAbs k) 0).1
 cases !hasZ (marksZ sp) 99
 ·cases !hasZ (marksZ sp) 100 && decide (digZ n.natAbs k = rep1 48 k)
  ·exact this
  ·exact hw
 ·exact Int.le_refl 0
theorem out_law {l : List Int} (h : pN l = true) (ds : List Int) (ld : Int) (mi : Bool) :
  wrGo (nD (bodyZ (pS l))).2.2 (crZ (pS l)) (pS l).length mi ld (fdFl (pS l)) (rolF (pS l)) (pS l) ds 0 0 = fdGo ld (fdFl (pS l)) (fdDr (pS l)) mi (marksZ (pS l)) (pS l) ds 0 := by
 obtain ⟨h1, h2, h3⟩ := rol_marks h
 have hv := pN_vOK h
 have hS : pS l = exZ l := by rw [pS, if_pos hv]
 have hnp : NumP (pS l) := by rw [hS]; exact pN_num h
 obtain ⟨d1, d2⟩ := dr_facts hnp
 obtain ⟨t, ht, hc⟩ := body_app (pS l)
 have hP := h1.drP
 have hfl : (nD (bodyZ (pS l))).2.2 < (bodyZ (pS l)).length := by
  rcases hP.at_ with ⟨_, q⟩ | ⟨_, q1, q2, _⟩
  ·rw [q]; omega
  ·rw [q2]; exact (idx_lt _ q1).2
 have hdr' : fdDr (pS l) ≠ 67 ∧ fdDr (pS l) ≠ 82 ∧ fdDr (pS l) ≠ 68 ∧ fdDr (pS l) ≠ 66 := by
  by_cases q : drZ (bodyZ (pS l)) = 0
  ·rw [d2 q]; decide
  ·rw [(d1 q).1]
   rcases hP.at_ with ⟨q1, _⟩ | ⟨_, _, _, q4⟩
   ·exact absurd q1 q
   ·have : drZ (bodyZ (pS l)) = 36 ∨ drZ (bodyZ (pS l)) = 83 ∨ drZ (bodyZ (pS l)) = 43 ∨ drZ (bodyZ (pS l)) = 45 := by simpa using q4
    omega
 have hlen : ((pS l).length : Int) = (bodyZ (pS l)).length + (bif crZ (pS l) then 2 else 0) := by
  have := congrArg List.length ht
  rw [List.length_append] at this
  rcases hc with ⟨rfl, hc⟩ | ⟨rfl | rfl, hc⟩ <;> rw [hc] <;> simp at this ⊢ <;> omega
 have hrol : rolF (pS l) = rolesP (drZ (bodyZ (pS l))) (nD (bodyZ (pS l))).2.2 (bodyZ (pS l)) 0 ++ (bif crZ (pS l) then [4, 4] else []) := by
  rw [rolF, nR, h1.d]
 have hmk : marksZ (pS l) = (rolesP (drZ (bodyZ (pS l))) (nD (bodyZ (pS l))).2.2 (bodyZ (pS l)) 0).map rmk ++ (bif crZ (pS l) then [115, 115] else []) := by
  rw [← h3, hrol, List.map_append]
  congr 1
  cases crZ (pS l) <;> rfl
 have key := wr_body (t := t) (n := (pS l).length) (ld := ld) (mi := mi) hP d1 d2 hlen (bodyZ (pS l)) [] ds 0 (fun _ _ _ => []) (bif crZ (pS l) then [4, 4] else []) (bif crZ (pS l) then [115, 115] else []) rfl
 have key := key fun ds a => by
  rcases hc with ⟨rfl, hc⟩ | ⟨ht', hc⟩
  ·rw [hc]; rfl
  ·rw [hc] at hlen
   simp only [cond_true] at hlen
   have f1 : (((bodyZ (pS l)).length : Int) == (nD (bodyZ (pS l))).2.2) = false := by simp; omega
   have f2 : (((bodyZ (pS l)).length : Int) + 1 == (nD (bodyZ (pS l))).2.2) = false := by simp; omega
   have g1 : (true && decide (((bodyZ (pS l)).length : Int) ≥ ((pS l).length : Int) - 2)) = true := by simp; omega
   have g2 : (true && decide (((bodyZ (pS l)).length : Int) + 1 ≥ ((pS l).length : Int) - 2)) = true := by simp; omega
   have ss : ∀ c : Int, c = 67 ∨ c = 82 ∨ c = 68 ∨ c = 66 → ssZ c (fdDr (pS l)) mi = bif !mi then 32 else c := fun c hcc => by
    have : (fdDr (pS l) != 0 && c == fdDr (pS l)) = false := by
     have : (c == fdDr (pS l)) = false := by simp; omega
     rw [this, Bool.and_false]
    rw [ssZ, this]
    have h5 : hasZ [67, 82, 68, 66] c = true := by rcases hcc with rfl | rfl | rfl | rfl <;> rfl
    rw [h5]
    cases mi <;> rfl
   have wc : ∀ (r c d a : Int) (i : Int), (i == (nD (bodyZ (pS l))).2.2) = false → (true && decide (i ≥ ((pS l).length : Int) - 2)) = true → wrC (nD (bodyZ (pS l))).2.2 true (pS l).length mi ld (fdFl (pS l)) r c d i a = bif !mi then 32 else c := fun r c d a i q1 q2 => by
    rw [wrC, q1, q2]; rfl
   rw [hc]
   simp only [cond_true]
   rcases ht' with rfl | rfl
   ·obtain ⟨D, e⟩ := wr_2 (nD (bodyZ (pS l))).2.2 (pS l).length mi ld (fdFl (pS l)) 67 82 ds (bodyZ (pS l)).length a
    rw [e, fd_2, wc _ _ _ _ _ f1 g1, wc _ _ _ _ _ f2 g2, ss 67 (by decide), ss 82 (by decide)]
   ·obtain ⟨D, e⟩ := wr_2 (nD (bodyZ (pS l))).2.2 (pS l).length mi ld (fdFl (pS l)) 68 66 ds (bodyZ (pS l)).length a
    rw [e, fd_2, wc _ _ _ _ _ f1 g1, wc _ _ _ _ _ f2 g2, ss 68 (by decide), ss 66 (by decide)]
 rw [hrol, hmk]
 have e0 : ((([] : List Int).length : Nat) : Int) = 0 := rfl
 rw [e0, ← ht] at key
 exact key
theorem wr_law {l : List Int} (hl : IsB (pS l) ∧ (pS l).length ≤ 32) (h : pN l = true) {n : Int} (hn : (n.natAbs : Int) < tenZ (pD l).toNat) :
  wrV (pS l) (pW l) (nD (bodyZ (pS l))).2.2 (crZ (pS l)) (drZ (bodyZ (pS l))) (fdFl (pS l)) (cntZ (mkGo (drZ (bodyZ (pS l))) false (bodyZ (pS l))) 100) (rolF (pS l)) (digZ n.natAbs (pD l).toNat) (decide (n < 0)) =
   (fieldZ (pS l) (pW l) (pD l).toNat n, fdLe (pS l) (pW l) (pD l).toNat n) := by
 obtain ⟨e1, e2⟩ := en_law hl h hn
 obtain ⟨_, _, _, p4, _, p6⟩ := pN_ok hl h n
 have hv := pN_vOK h
 have hS : pS l = exZ l := by rw [pS, if_pos hv]
 have hnp : NumP (pS l) := by rw [hS]; exact pN_num h
 obtain ⟨d1, d2⟩ := dr_facts hnp
 have hP := (rol_marks h).1.drP
 rw [wrV, e1, fieldZ]
 cases hb : fdBl (pS l) (pW l) (pD l).toNat n with
 | true =>
  rw [e2 hb, ← rep_one]
  rfl
 | false =>
  simp only [cond_false]
  have h0 : decide (fdLe (pS l) (pW l) (pD l).toNat n < 0) = false := decide_eq_false (by have := @fdLe_nn (pS l) (pW l) (pD l).toNat n p4; omega)
  rw [h0, cond_false, out_law h]
  rw [fdOK, hb, Bool.false_or] at p6
  by_cases q : drZ (bodyZ (pS l)) = 0
  ·have q1 := d2 q
   have hO : fdOut (pS l) (pW l) (pD l).toNat n = fdGo (fdLe (pS l) (pW l) (pD l).toNat n) (fdFl (pS l)) 0 (decide (n < 0)) (marksZ (pS l)) (pS l) (digZ n.natAbs (pD l).toNat) 0 := by rw [fdOut, q1]
   rw [q, q1, hO]
   have z : ((0 : Int) != 0) = false := rfl
   rw [z, Bool.false_and]
   rfl
  ·have q1 := (d1 q).1
   rw [q1] at p6 ⊢
   have hq : (drZ (bodyZ (pS l)) != 0) = true := by simpa using q
   have hq2 : (drZ (bodyZ (pS l)) == 0) = false := by simpa using q
   rw [hq2, Bool.false_or, decide_eq_true_eq] at p6
   have h1 : decide (fdLe (pS l) (pW l) (pD l).toNat n > 0) = true := decide_eq_true (by omega)
   rw [hq, h1]
   have hs : (bif drZ (bodyZ (pS l)) == 36 then 36 else sgC (drZ (bodyZ (pS l))) (decide (n < 0))) = sgZ (drZ (bodyZ (pS l))) (decide (n < 0)) := by
    rcases hP.at_ with ⟨z, _⟩ | ⟨_, _, _, q4⟩
    ·exact absurd z q
    ·have : drZ (bodyZ (pS l)) = 36 ∨ drZ (bodyZ (pS l)) = 83 ∨ drZ (bodyZ (pS l)) = 43 ∨ drZ (bodyZ (pS l)) = 45 := by simpa using q4
     rcases this with e | e | e | e <;> rw [e] <;> cases decide (n < 0) <;> rfl
   rw [hs]
   have : fdOut (pS l) (pW l) (pD l).toNat n = fdGo (fdLe (pS l) (pW l) (pD l).toNat n) (fdFl (pS l)) (drZ (bodyZ (pS l))) (decide (n < 0)) (marksZ (pS l)) (pS l) (digZ n.natAbs (pD l).toNat) 0 := by rw [fdOut, q1]
   rw [this]
   rfl
end Go.Px
end
