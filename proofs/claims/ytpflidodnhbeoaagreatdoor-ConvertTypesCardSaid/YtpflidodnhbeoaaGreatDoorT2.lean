/-
  The run and the laws that serve these rows (part 2)
-/
import Derived.Test.YtpflidodnhbeoaaGreatDoorT1
set_option linter.unusedVariables false
set_option linter.unusedSimpArgs false
section
namespace Go.Px
open Go Go.Ab Go.Proofs
def G12 : Env := (((Env.nil.add 209 (sp1 s29)).add 201 (sp1 s69)).add 143 (sp1 s30)).add 210 (sp2 s66)
theorem ok_G12 : EnvOK Tryz.prog G12 := env_add (env_add (env_add (env_add env_nil ok29) ok69) ok30) ok66
def rdD (c : Int) : Int := bif unK c then unD c else bif decide (c ≥ 48) && decide (c ≤ 57) then c - 48 else 0
def rdGo : List Int → List Int → Int → Int
 | [], _, a => a
 | m :: r, s, a => bif m == 118 then rdGo r s a else rdGo r s.tail (bif m == 100 || m == 99 then a * 10 + rdD (s.headD 0) else a)
theorem rd_rng (c : Int) : 0 ≤ rdD c ∧ rdD c ≤ 9 := by
 unfold rdD
 cases h : unK c with
 | true =>
  have e : unD c = idxZ punchedZ c % 10 := by rw [unD, h, if_pos rfl]
  rw [cond_true, e]
  omega
 | false =>
  rw [cond_false]
  cases h1 : decide (c ≥ 48) <;> cases h2 : decide (c ≤ 57) <;> simp at h1 h2 <;> simp <;> omega
theorem pu_rng (d : Int) (m : Bool) : 0 ≤ puZ d m ∧ puZ d m < 256 := by
 unfold puZ
 split
 ·have : ∀ x ∈ punchedZ, 0 ≤ x ∧ x < 256 := by decide
  rw [List.getD_eq_getElem?_getD]
  cases h : punchedZ[(if m = true then d + 10 else d).toNat]? with
  | none => simp
  | some x => exact this x (List.mem_of_getElem? h)
 ·simp
theorem hd_isB {l : List Int} (h : IsB l) : 0 ≤ l.headD 0 ∧ l.headD 0 < 256 := by
 cases l with
 | nil => simp
 | cons a r => exact h a (List.mem_cons_self ..)
theorem tl_isB {l : List Int} (h : IsB l) : IsB l.tail := fun x hx => h x (List.mem_of_mem_tail hx)
theorem cons_isB {a : Int} {l : List Int} (ha : 0 ≤ a ∧ a < 256) (h : IsB l) : IsB (a :: l) := fun x hx => by
 rcases List.mem_cons.1 hx with rfl | hx
 ·exact ha
 ·exact h x hx
theorem fm_rng {c d : Int} (m : Bool) (h : 0 ≤ d ∧ d < 256) : 0 ≤ fmZ c d m ∧ fmZ c d m < 256 := by
 unfold fmZ
 split
 ·omega
 ·split
  ·exact pu_rng _ _
  ·exact h
theorem sg_rng (c : Int) (m : Bool) : 0 ≤ sgZ c m ∧ sgZ c m < 256 := by
 unfold sgZ
 split
 ·omega
 ·split
  ·split <;> omega
  ·split <;> omega
theorem ss_rng {c : Int} (dr : Int) (m : Bool) (h : 0 ≤ c ∧ c < 256) : 0 ≤ ssZ c dr m ∧ ssZ c dr m < 256 := by
 unfold ssZ
 have := sg_rng c m
 cases (dr != 0 && c == dr) <;> cases hasZ [67, 82, 68, 66] c <;> cases m <;> simp <;> omega
theorem fd_isB {le fill dr : Int} {neg : Bool} (hf : 0 ≤ fill ∧ fill < 256) : ∀ (ms sp ds : List Int) (o : Int), IsB sp → IsB ds → IsB (fdGo le fill dr neg ms sp ds o)
 | [], _, _, _, _, _ => IsB.nil
 | m :: r, sp, ds, o, hs, hd => by
  rw [fdGo]
  have h1 := hd_isB hs
  have h2 := hd_isB hd
  cases m == 100 with
  | true => exact cons_isB (fm_rng _ h2) (fd_isB hf _ _ _ _ (tl_isB hs) (tl_isB hd))
  | false =>
   cases m == 99 with
   | true => exact cons_isB (by cases decide (o < le) <;> simp only [cond_true, cond_false] <;> omega) (fd_isB hf _ _ _ _ (tl_isB hs) (tl_isB hd))
   | false =>
    cases m == 105 with
    | true => exact cons_isB (by cases sp.headD 0 == 66 <;> cases decide (o < le) <;> simp only [cond_true, cond_false] <;> omega) (fd_isB hf _ _ _ _ (tl_isB hs) hd)
    | false =>
     cases m != 118 with
     | true => exact cons_isB (ss_rng _ _ h1) (fd_isB hf _ _ _ _ (tl_isB hs) hd)
     | false => exact fd_isB hf _ _ _ _ (tl_isB hs) hd
theorem fl_rng (sp : List Int) : 0 ≤ fdFl sp ∧ fdFl sp < 256 := by unfold fdFl; split <;> omega
theorem field_isB {sp : List Int} (h : IsB sp) (w : Int) (k : Nat) (n : Int) : IsB (fieldZ sp w k n) := by
 have h1 : IsB (fdOut sp w k n) := fd_isB (fl_rng sp) _ _ _ _ h (dg_isB (digZ_dg _ _))
 unfold fieldZ
 cases fdBl sp w k n with
 | true => exact rep_isB _ _ (fl_rng sp)
 | false =>
  cases fdDr sp != 0 with
  | true =>
   intro x hx
   rcases List.mem_or_eq_of_mem_set hx with hx | rfl
   ·exact h1 x hx
   ·exact sg_rng _ _
  | false => exact h1
theorem rdGo_rng : ∀ (ms s : List Int) (a : Int) (k : Nat), 0 ≤ a → a < tenZ k → (k : Int) + pdGo ms ≤ 9 → 0 ≤ rdGo ms s a ∧ rdGo ms s a < 1000000000
 | [], s, a, k, h0, h1, h2 => by
  have := tenZ_le9 (n := k) (by simp only [pdGo] at h2; omega)
  rw [rdGo]
  omega
 | m :: r, s, a, k, h0, h1, h2 => by
  have nn := pd_nn r
  rw [pdGo] at h2
  rw [rdGo]
  cases h : (m == 118) with
  | true =>
   have q : isP 118 = false := by decide
   rw [eq_of_beq h, q, cond_false, Int.zero_add] at h2
   exact rdGo_rng r s a k h0 h1 h2
  | false =>
   rw [cond_false]
   cases hP : (m == 100 || m == 99) with
   | true =>
    have hP : isP m = true := hP
    rw [hP, cond_true] at h2
    have rr := rd_rng (s.headD 0)
    have tp : tenZ (k + 1) = tenZ k * 10 := by rw [tenZ_add]; rfl
    rw [cond_true]
    exact rdGo_rng r _ _ (k + 1) (by omega) (by omega) (by omega)
   | false =>
    have hP : isP m = false := hP
    rw [hP, cond_false, Int.zero_add] at h2
    exact rdGo_rng r _ a k h0 h1 h2
def rdA (l t : List Int) : Int := rdGo (marksZ (pS l)) t 0
def fdN (l : List Int) (n : Int) : List Int := fieldZ (pS l) (pW l) (pD l).toNat n
def rdV (l t : List Int) : Int × Int := if pN l = true then (if (t.length : Int) = pW l then (if fdN l (rdA l t) = t then (rdA l t, 0) else if pG l = true ∧ rdA l t > 0 ∧ fdN l (0 - rdA l t) = t then (0 - rdA l t, 0) else (0, 31)) else (0, 31)) else (0, 30)
theorem pN_nv {l : List Int} (h : pN l = true) : pW l = nv (marksZ (pS l)) := by
 have h1 := marks_nv (pS l)
 have h2 : pS l = exZ l := by rw [pS, if_pos (pN_vOK h)]
 have hW : pW l = (exZ l).length - cntZ (exZ l) 86 := by rw [pW, if_pos (pN_vOK h), (pN_num h).nch]; rfl
 rw [h2] at h1 ⊢
 rw [hW]
 omega
def onGo : List Int → List Int → Bool
 | _, [] => true
 | [], _ :: _ => false
 | c :: r, b :: s => oneZ c b && onGo r s
def hoZ (l t : List Int) : Bool := if vOK l = true then (if pN l = true then decide ((rdV l t).2 = 0) else (decide ((t.length : Int) = pW l) && onGo (pS l) t)) else false
theorem pCh {l : List Int} (h : vOK l = true) (hn : pN l = false) : pW l = (pS l).length := by
 have hc : charZ (exZ l) = true := by
  simp only [vOK, Bool.and_eq_true, Bool.or_eq_true] at h
  simp only [pN] at hn
  rcases h with ⟨h1, h2 | h2⟩
  ·exact h2
  ·rw [h1, h2] at hn; cases hn
 rw [pW, pS, if_pos h, if_pos h, hc]
 rfl
def V23_0 : ByteArray × ByteArray × Bool × Int × Int × Int × Bool × Int × ByteArray × Int × Int → List Value := fun (s, z, zb, z1, z2, z3, zg, a, ms, o, i) => [S s, .pointer (some ⟨7, 0, some 0⟩), I a, S ms, I o, I i]
def B23_0 : ByteArray × ByteArray × Bool × Int × Int × Int × Bool × Int × ByteArray × Int × Int → List (Option Blk) := fun (s, z, zb, z1, z2, z3, zg, a, ms, o, i) => [some ⟨[S z, B zb, I z1, I z2, I z3, B zg], 131, true⟩]
def S23_0 : LSpec (ByteArray × ByteArray × Bool × Int × Int × Int × Bool × Int × ByteArray × Int × Int) where
 live := [1, 6, 8, 9, 10, 11]
 mid := [7]
 n := 120
 dec vs bs := match vs, bs with | [.string s, .pointer (some ⟨7, 0, some 0⟩), .int .i64 a, .string ms, .int .i64 o, .int .i64 i], [some ⟨[.string z, .bool zb, .int .i64 z1, .int .i64 z2, .int .i64 z3, .bool zg], 131, true⟩] => some (s, z, zb, z1, z2, z3, zg, a, ms, o, i) | _, _ => none
 pre := fun (s, z, zb, z1, z2, z3, zg, a, ms, o, i) => decide (0 ≤ i ∧ i ≤ ms.size ∧ ms.size ≤ 1000 ∧ 0 ≤ o ∧ o + nv ((bz ms).drop i.toNat) ≤ s.size ∧ s.size ≤ 1000 ∧ 0 ≤ a ∧ pdGo ((bz ms).drop i.toNat) ≤ 9 ∧ a < tenZ (9 - pdGo ((bz ms).drop i.toNat)).toNat)
 fin := fun (s, z, zb, z1, z2, z3, zg, a, ms, o, i) Z => ∀ o', Z (.exit 0) [S s, .pointer (some ⟨7, 0, some 0⟩), I (rdGo ((bz ms).drop i.toNat) ((bz s).drop o.toNat) a), S ms, I o', I ms.size] [some ⟨[S z, B zb, I z1, I z2, I z3, B zg], 131, true⟩]
theorem r23_0 (s : ByteArray) (z : ByteArray) (zb : Bool) (z1 : Int) (z2 : Int) (z3 : Int) (zg : Bool) (a : Int) (ms : ByteArray) (o : Int) (i : Int) (jk : Tmps) (R : Exit → List Value → List (Option Blk) → Prop) : (codeQ Tryz.prog G12 noL Tryz.f149.ntmps (loopOf Tryz.f149 0) (tl S23_0.live (V23_0 (s, z, zb, z1, z2, z3, zg, a, ms, o, i)) jk) (ml S23_0.mid (B23_0 (s, z, zb, z1, z2, z3, zg, a, ms, o, i))) S23_0.n fun e t' m' _ => R e (List.map t' S23_0.live) (List.map m' S23_0.mid)) = ( bif decide (i < (↑(ByteArray.size ms) : Int)) then bif decide (0 ≤ i ∧ i < (↑(ByteArray.size ms) : Int)) then bif byteAt ms (Int.toNat i) == 118 then R Exit.normal [S s, .pointer (some (.mk 7 0 (some 0))), I a, S ms, I o, I (IntKind.wrap .i64 (i + 1))] [some (.mk [S z, B zb, I z1, I z2, I z3, B zg] 131 true)] else bif decide (0 ≤ i ∧ i < (↑(ByteArray.size ms) : Int)) && (byteAt ms (Int.toNat i) == 100 || decide (0 ≤ i ∧ i < (↑(ByteArray.size ms) : Int)) && true) then bif byteAt ms (Int.toNat i) == 100 || byteAt ms (Int.toNat i) == 99 then bif decide (0 ≤ o ∧ o < (↑(ByteArray.size s) : Int)) then bif unK (byteAt s (Int.toNat o)) then R Exit.normal [S s, .pointer (some (.mk 7 0 (some 0))), I (IntKind.wrap .i64 (IntKind.wrap .i64 (a * 10) + unD (byteAt s (Int.toNat o)))), S ms, I (IntKind.wrap .i64 (o + 1)), I (IntKind.wrap .i64 (i + 1))] [some (.mk [S z, B zb, I z1, I z2, I z3, B zg] 131 true)] else bif decide (0 ≤ o ∧ o < (↑(ByteArray.size s) : Int)) && bif decide (byteAt s (Int.toNat o) ≥ 48) then decide (0 ≤ o ∧ o < (↑(ByteArray.size s) : Int)) && true else true then bif decide (byteAt s (Int.toNat o) ≥ 48) && decide (byteAt s (Int.toNat o) ≤ 57) then bif decide (0 ≤ o ∧ o < (↑(ByteArray.size s) : Int)) then R Exit.normal [S s, .pointer (some (.mk 7 0 (some 0))), I (IntKind.wrap .i64 (IntKind.wrap .i64 (a * 10) + IntKind.wrap .i64 (IntKind.wrap .u8 (byteAt s (Int.toNat o) - 48)))), S ms, I (IntKind.wrap .i64 (o + 1)), I (IntKind.wrap .i64 (i + 1))] [some (.mk [S z, B zb, I z1, I z2, I z3, B zg] 131 true)] else False else R Exit.normal [S s, .pointer (some (.mk 7 0 (some 0))), I (IntKind.wrap .i64 (a * 10)), S ms, I (IntKind.wrap .i64 (o + 1)), I (IntKind.wrap .i64 (i + 1))] [some (.mk [S z, B zb, I z1, I z2, I z3, B zg] 131 true)] else False else False else R Exit.normal [S s, .pointer (some (.mk 7 0 (some 0))), I a, S ms, I (IntKind.wrap .i64 (o + 1)), I (IntKind.wrap .i64 (i + 1))] [some (.mk [S z, B zb, I z1, I z2, I z3, B zg] 131 true)] else False else False else R (Exit.exit 0) [S s, .pointer (some (.mk 7 0 (some 0))), I a, S ms, I o, I i] [some (.mk [S z, B zb, I z1, I z2, I z3, B zg] 131 true)]) := by kernel_rfl
theorem l23_0 : LOKf Tryz.prog (oneL 0 S23_0.h) Tryz.f149 := by
 refine lokf_one (h := S23_0.h) (by kernel_rfl) (loop_specQ ok_G12 hmix (by kernel_rfl) (lok_none _) S23_0 V23_0 B23_0 (fun (s, z, zb, z1, z2, z3, zg, a, ms, o, i) => (ms.size - i).toNat) ?_ ?_ ?_)
 ·intro vs bs s h
  simp only [S23_0] at h
  split at h
  all_goals first | (cases h; exact ⟨rfl, rfl⟩) | cases h
 ·exact fun _ _ _ h => h
 ·intro ⟨s, z, zb, z1, z2, z3, zg, a, ms, o, i⟩ jk Z hp hf
  rw [r23_0]
  simp only [S23_0] at hp hf
  simp only [decide_eq_true_eq] at hp
  refine cond_intro (fun h => ?_) (fun h => ?_)
  ·have h := of_decide_eq_true h
   obtain ⟨hi0, p2, p3, p4, p5, p6, p7, p8, p9⟩ := hp
   have g1 : decide (0 ≤ i ∧ i < (ms.size : Int)) = true := decide_eq_true (by omega)
   rw [bz_at hi0 h, nv_cons] at p5
   rw [bz_at hi0 h, pdGo] at p8 p9
   rw [bz_at hi0 h, rdGo] at hf
   have nn := pd_nn ((bz ms).drop (i + 1).toNat)
   have eo : o.toNat + 1 = (o + 1).toNat := by omega
   have fin : ∀ (o2 a2 : Int), 0 ≤ o2 → o2 + nv ((bz ms).drop (i + 1).toNat) ≤ s.size → 0 ≤ a2 → a2 < tenZ (9 - pdGo ((bz ms).drop (i + 1).toNat)).toNat → pdGo ((bz ms).drop (i + 1).toNat) ≤ 9 →
     (∀ o' : Int, Z (.exit 0) [S s, .pointer (some ⟨7, 0, some 0⟩), I (rdGo ((bz ms).drop (i + 1).toNat) ((bz s).drop o2.toNat) a2), S ms, I o', I ms.size] [some ⟨[S z, B zb, I z1, I z2, I z3, B zg], 131, true⟩]) →
     S23_0.step V23_0 B23_0 (fun (s, z, zb, z1, z2, z3, zg, a, ms, o, i) => (ms.size - i).toNat) (s, z, zb, z1, z2, z3, zg, a, ms, o, i) Z Exit.normal
      [S s, .pointer (some ⟨7, 0, some 0⟩), I a2, S ms, I o2, I (IntKind.wrap .i64 (i + 1))] [some ⟨[S z, B zb, I z1, I z2, I z3, B zg], 131, true⟩] := by
    intro o2 a2 q1 q2 q3 q4 q5 q6
    rw [w64 (n := i + 1) (by omega)]
    exact ⟨(s, z, zb, z1, z2, z3, zg, a2, ms, o2, i + 1), rfl, rfl, by simp only [S23_0, decide_eq_true_eq]; exact ⟨by omega, by omega, p3, q1, q2, p6, q3, q5, q4⟩, by simp only; omega, q6⟩
   refine c_t g1 (cond_intro (fun b => ?_) (fun b => c_t (by rw [g1]; cases byteAt ms i.toNat == 100 <;> rfl) ?_))
   ·have q : isP 118 = false := by decide
    rw [b, cond_true] at hf
    rw [eq_of_beq b] at p5 p8 p9
    rw [if_pos rfl] at p5
    rw [q, cond_false, Int.zero_add] at p8 p9
    exact fin o a p4 (by omega) p7 p9 p8 hf
   ·have hne : byteAt ms i.toNat ≠ 118 := by simpa using b
    rw [b, cond_false, List.tail_drop, eo] at hf
    rw [if_neg hne] at p5
    have o1 : o < s.size := by omega
    have g3 : decide (0 ≤ o ∧ o < (s.size : Int)) = true := decide_eq_true (by omega)
    rw [w64 (n := o + 1) (by omega)]
    refine cond_intro (fun c => c_t g3 ?_) (fun c => ?_)
    ·have hP : isP (byteAt ms i.toNat) = true := c
     rw [hP, cond_true] at p8 p9
     rw [c, cond_true, bz_at p4 o1, List.headD_cons] at hf
     have rr := rd_rng (byteAt s o.toNat)
     have tp : tenZ (9 - pdGo ((bz ms).drop (i + 1).toNat)).toNat = tenZ (9 - (1 + pdGo ((bz ms).drop (i + 1).toNat))).toNat * 10 := by
      rw [show (9 - pdGo ((bz ms).drop (i + 1).toNat)).toNat = (9 - (1 + pdGo ((bz ms).drop (i + 1).toNat))).toNat + 1 by omega, tenZ_add]
      rfl
     have t9 := tenZ_le9 (n := (9 - (1 + pdGo ((bz ms).drop (i + 1).toNat))).toNat) (by omega)
     have F := fin (o + 1) (a * 10 + rdD (byteAt s o.toNat)) (by omega) (by omega) (by omega) (by omega) (by omega) hf
     rw [w64 (n := a * 10) (by omega)]
     refine cond_intro (fun d => ?_) (fun d => c_t (by rw [g3]; cases decide (byteAt s o.toNat ≥ 48) <;> rfl) (cond_intro (fun e => c_t g3 ?_) (fun e => ?_)))
     ·have er : rdD (byteAt s o.toNat) = unD (byteAt s o.toNat) := by rw [rdD, d, cond_true]
      rw [er] at F rr
      rw [w64 (by omega)]
      exact F
     ·have er : rdD (byteAt s o.toNat) = byteAt s o.toNat - 48 := by rw [rdD, d, cond_false, e, cond_true]
      rw [er] at F rr
      rw [w8 (by omega), w64 (n := byteAt s o.toNat - 48) (by omega), w64 (by omega)]
      exact F
     ·have er : rdD (byteAt s o.toNat) = 0 := by rw [rdD, d, cond_false, e, cond_false]
      rw [er, Int.add_zero] at F
      exact F
    ·have hP : isP (byteAt ms i.toNat) = false := c
     rw [hP, cond_false, Int.zero_add] at p8 p9
     rw [c, cond_false] at hf
     exact fin (o + 1) a (by omega) (by omega) p7 p9 p8 hf
  ·have h := of_decide_eq_false h
   rw [bz_end (s := ms) (by omega), rdGo] at hf
   obtain rfl : i = ms.size := by omega
   exact hf _
def s23 (s : ByteArray) (t : ByteArray) : Bool × Value := (decide (s.size ≤ 9223372036854775807 ∧ t.size ≤ 9223372036854775807), .tuple ⟨[.int .i64 (rdV (bz s) (bz t)).1, .int .i64 (rdV (bz s) (bz t)).2]⟩)
theorem fn23 : Fn1 Tryz.prog 149 Tryz.f149 := ⟨Tryz.func149, by kernel_rfl, by kernel_rfl, by kernel_rfl⟩
theorem v23 (s : ByteArray) (t : ByteArray) (R : Value → Prop) : bodyQ Tryz.prog G12 (oneL 0 S23_0.h) Tryz.f149 [Enc.enc s, Enc.enc t] (fun _ => none) 0 (fun v _ _ => R v) = ( bif decide (ByteArray.size s ≤ 9223372036854775807) then bif pE (bz s) != 0 || true then bif pE (bz s) != 0 || !pN (bz s) then R (.tuple (.mk [I 0, I 30])) else bif (↑(ByteArray.size t) : Int) != pW (bz s) then R (.tuple (.mk [I 0, I 31])) else bif decide (ByteArray.size (sz (pS (bz s))) ≤ 1000) then bif LSpec.pre S23_0 (t, sz (pS (bz s)), pN (bz s), pW (bz s), pD (bz s), pQ (bz s), pG (bz s), 0, sz (marksZ (bz (sz (pS (bz s))))), 0, 0) then ∀ (o' : Int) (x : Tmps), bif decide (ByteArray.size (sz (pS (bz s))) ≤ 900 ∧ 0 ≤ pD (bz s) ∧ pD (bz s) ≤ 900 ∧ pdGo (marksZ (bz (sz (pS (bz s))))) ≤ pD (bz s) ∧ 0 ≤ pW (bz s) ∧ pW (bz s) ≤ 900 ∧ -9223372036854775808 ≤ rdGo (List.drop (Int.toNat 0) (bz (sz (marksZ (bz (sz (pS (bz s)))))))) (List.drop (Int.toNat 0) (bz t)) 0 ∧ rdGo (List.drop (Int.toNat 0) (bz (sz (marksZ (bz (sz (pS (bz s)))))))) (List.drop (Int.toNat 0) (bz t)) (0 : Int) ≤ 9223372036854775807 ∧ fdOK (bz (sz (pS (bz s)))) (pW (bz s)) (Int.toNat (pD (bz s))) (rdGo (List.drop (Int.toNat 0) (bz (sz (marksZ (bz (sz (pS (bz s)))))))) (List.drop (Int.toNat 0) (bz t)) 0) = true) then bif ByteArray.toList (sz (fieldZ (bz (sz (pS (bz s)))) (pW (bz s)) (Int.toNat (pD (bz s))) (rdGo (List.drop (Int.toNat 0) (bz (sz (marksZ (bz (sz (pS (bz s)))))))) (List.drop (Int.toNat 0) (bz t)) 0))) == ByteArray.toList t then R (.tuple (.mk [I (rdGo (List.drop (Int.toNat 0) (bz (sz (marksZ (bz (sz (pS (bz s)))))))) (List.drop (Int.toNat 0) (bz t)) 0), I 0])) else bif bif pG (bz s) then bif decide (rdGo (List.drop (Int.toNat 0) (bz (sz (marksZ (bz (sz (pS (bz s)))))))) (List.drop (Int.toNat 0) (bz t)) 0 > 0) then decide (ByteArray.size (sz (pS (bz s))) ≤ 900 ∧ 0 ≤ pD (bz s) ∧ pD (bz s) ≤ 900 ∧ pdGo (marksZ (bz (sz (pS (bz s))))) ≤ pD (bz s) ∧ 0 ≤ pW (bz s) ∧ pW (bz s) ≤ 900 ∧ -9223372036854775808 ≤ IntKind.wrap .i64 (0 - rdGo (List.drop (Int.toNat 0) (bz (sz (marksZ (bz (sz (pS (bz s)))))))) (List.drop (Int.toNat 0) (bz t)) 0) ∧ IntKind.wrap .i64 (0 - rdGo (List.drop (Int.toNat 0) (bz (sz (marksZ (bz (sz (pS (bz s)))))))) (List.drop (Int.toNat 0) (bz t)) 0) ≤ 9223372036854775807 ∧ fdOK (bz (sz (pS (bz s)))) (pW (bz s)) (Int.toNat (pD (bz s))) (IntKind.wrap .i64 (0 - rdGo (List.drop (Int.toNat 0) (bz (sz (marksZ (bz (sz (pS (bz s)))))))) (List.drop (Int.toNat 0) (bz t)) 0)) = true) && true else true else true then bif pG (bz s) && (decide (rdGo (List.drop (Int.toNat 0) (bz (sz (marksZ (bz (sz (pS (bz s)))))))) (List.drop (Int.toNat 0) (bz t)) 0 > 0) && ByteArray.toList (sz (fieldZ (bz (sz (pS (bz s)))) (pW (bz s)) (Int.toNat (pD (bz s))) (IntKind.wrap .i64 (0 - rdGo (List.drop (Int.toNat 0) (bz (sz (marksZ (bz (sz (pS (bz s)))))))) (List.drop (Int.toNat 0) (bz t)) 0)))) == ByteArray.toList t) then R (.tuple (.mk [I (IntKind.wrap .i64 (0 - rdGo (List.drop (Int.toNat 0) (bz (sz (marksZ (bz (sz (pS (bz s)))))))) (List.drop (Int.toNat 0) (bz t)) 0)), I 0])) else R (.tuple (.mk [I 0, I 31])) else False else False else False else False else False else False) := by kernel_rfl
theorem ok23 : PureOK Tryz.prog 149 (sp2 s23) := by
 refine qure2 ok_G12 hmix fn23 l23_0 (Nat.le_of_ble_eq_true (by kernel_rfl)) fun s t hc => ?_
 rw [DoesQ, v23]
 have hc : (s.size ≤ 9223372036854775807 ∧ t.size ≤ 9223372036854775807) := of_decide_eq_true hc
 try dsimp only [s23]
 rw [pE_ne, pN_or]
 refine c_t (decide_eq_true hc.1) (c_t (by simp) (cond_intro (fun h => ?_) (fun h => ?_)))
 ·have h : pN (bz s) = false := by simpa using h
  simp [rdV, h]
 have h : pN (bz s) = true := by simpa using h
 have hd := pD_rng h
 have hnv := pN_nv h
 refine cond_intro (fun h2 => ?_) (fun h2 => ?_)
 ·have h2 : ¬ (t.size : Int) = pW (bz s) := by simpa using h2
  simp [rdV, h, h2, bz_length]
 have h2 : (t.size : Int) = pW (bz s) := by simpa using h2
 obtain ⟨g1, g2, g3, g4, g5, g6⟩ := pN_ok (pS_len s) h (rdA (bz s) (bz t))
 obtain ⟨-, -, -, -, -, g7⟩ := pN_ok (pS_len s) h (0 - rdA (bz s) (bz t))
 have hmB := marks_isB (pS (bz s))
 have hml := marks_len (pS (bz s))
 have hr : 0 ≤ rdA (bz s) (bz t) ∧ rdA (bz s) (bz t) < 1000000000 := rdGo_rng _ _ 0 0 (by omega) (by decide) (by omega)
 have er : rdGo (marksZ (pS (bz s))) (bz t) 0 = rdA (bz s) (bz t) := rfl
 rw [bz_sz g1, sz_size, bz_sz hmB, drop0, drop0, er, w64 (n := 0 - rdA (bz s) (bz t)) (by omega), toList_beq, toList_beq, bz_sz (field_isB g1 _ _ _), bz_sz (field_isB g1 _ _ _)]
 have eF : ∀ n, fieldZ (pS (bz s)) (pW (bz s)) (pD (bz s)).toNat n = fdN (bz s) n := fun _ => rfl
 rw [eF, eF]
 have e1 : rdV (bz s) (bz t) = if fdN (bz s) (rdA (bz s) (bz t)) = bz t then (rdA (bz s) (bz t), 0) else if pG (bz s) = true ∧ rdA (bz s) (bz t) > 0 ∧ fdN (bz s) (0 - rdA (bz s) (bz t)) = bz t then (0 - rdA (bz s) (bz t), 0) else (0, 31) := by
  rw [rdV, if_pos h, if_pos (by rw [bz_length]; exact h2)]
 refine c_t (decide_eq_true (by omega)) (c_t ?_ (fun o' _ => c_t (decide_eq_true ⟨by omega, by omega, by omega, by omega, by omega, by omega, by omega, by omega, g6⟩) (cond_intro (fun a => ?_) (fun a => c_t ?_ (cond_intro (fun b => ?_) (fun b => ?_))))))
 ·simp only [S23_0, decide_eq_true_eq, sz_size, bz_sz hmB, Int.toNat_zero, List.drop_zero]
  refine ⟨by omega, by omega, by omega, by omega, by omega, by omega, by omega, by omega, ?_⟩
  have := tenZ_le (n := (9 - pdGo (marksZ (pS (bz s)))).toNat) (by omega)
  omega
 ·rw [e1, if_pos (of_decide_eq_true a)]
 ·cases pG (bz s) with
  | false => rfl
  | true =>
   cases decide (rdA (bz s) (bz t) > 0) with
   | false => rfl
   | true =>
    show (decide _ && true) = true
    rw [Bool.and_true]
    exact decide_eq_true ⟨by omega, by omega, by omega, by omega, by omega, by omega, by omega, by omega, g7⟩
 ·simp only [Bool.and_eq_true, decide_eq_true_eq] at b
  rw [e1, if_neg (of_decide_eq_false a), if_pos b]
 ·have b : ¬ (pG (bz s) = true ∧ rdA (bz s) (bz t) > 0 ∧ fdN (bz s) (0 - rdA (bz s) (bz t)) = bz t) := by
   rintro ⟨b1, b2, b3⟩
   rw [b1, decide_eq_true b2, decide_eq_true b3] at b
   cases b
  rw [e1, if_neg (of_decide_eq_false a), if_neg b]
def G13 : Env := ((Env.nil.add 150 (sp2 s72)).add 143 (sp1 s30)).add 149 (sp2 s23)
theorem ok_G13 : EnvOK Tryz.prog G13 := env_add (env_add (env_add env_nil ok72) ok30) ok23
def V25_0 : Bool × ByteArray × ByteArray × Bool × Int × Int × Int × Bool × Int → List Value := fun (r, t, z, zb, z1, z2, z3, zg, i) => [B r, S t, .pointer (some ⟨6, 0, some 0⟩), I i]
def B25_0 : Bool × ByteArray × ByteArray × Bool × Int × Int × Int × Bool × Int → List (Option Blk) := fun (r, t, z, zb, z1, z2, z3, zg, i) => [some ⟨[S z, B zb, I z1, I z2, I z3, B zg], 131, true⟩]
def S25_0 : LSpec (Bool × ByteArray × ByteArray × Bool × Int × Int × Int × Bool × Int) where
 live := [4, 1, 5, 7]
 mid := [6]
 n := 120
 dec vs bs := match vs, bs with | [.bool r, .string t, .pointer (some ⟨6, 0, some 0⟩), .int .i64 i], [some ⟨[.string z, .bool zb, .int .i64 z1, .int .i64 z2, .int .i64 z3, .bool zg], 131, true⟩] => some (r, t, z, zb, z1, z2, z3, zg, i) | _, _ => none
 pre := fun (r, t, z, zb, z1, z2, z3, zg, i) => decide (0 ≤ i ∧ i ≤ t.size ∧ t.size = z.size ∧ t.size ≤ 1000)
 fin := fun (r, t, z, zb, z1, z2, z3, zg, i) Z => (bif onGo ((bz z).drop i.toNat) ((bz t).drop i.toNat) then Z (.exit 0) [B r, S t, .pointer (some ⟨6, 0, some 0⟩), I t.size] [some ⟨[S z, B zb, I z1, I z2, I z3, B zg], 131, true⟩] else (∀ i', Z .ret [B false, S t, .pointer (some ⟨6, 0, some 0⟩), I i'] [some ⟨[S z, B zb, I z1, I z2, I z3, B zg], 131, true⟩]))
theorem r25_0 (r : Bool) (t : ByteArray) (z : ByteArray) (zb : Bool) (z1 : Int) (z2 : Int) (z3 : Int) (zg : Bool) (i : Int) (jk : Tmps) (R : Exit → List Value → List (Option Blk) → Prop) : (codeQ Tryz.prog G13 noL Tryz.f75.ntmps (loopOf Tryz.f75 0) (tl S25_0.live (V25_0 (r, t, z, zb, z1, z2, z3, zg, i)) jk) (ml S25_0.mid (B25_0 (r, t, z, zb, z1, z2, z3, zg, i))) S25_0.n fun e t' m' _ => R e (List.map t' S25_0.live) (List.map m' S25_0.mid)) = ( bif decide (i < (↑(ByteArray.size t) : Int)) then bif decide (0 ≤ i ∧ i < (↑(ByteArray.size z) : Int)) then bif decide (0 ≤ i ∧ i < (↑(ByteArray.size t) : Int)) then bif decide (0 ≤ byteAt t (Int.toNat i) ∧ byteAt t (Int.toNat i) < 256) then bif !oneZ (byteAt z (Int.toNat i)) (byteAt t (Int.toNat i)) then R Exit.ret [B false, S t, .pointer (some (.mk 6 0 (some 0))), I i] [some (.mk [S z, B zb, I z1, I z2, I z3, B zg] 131 true)] else R Exit.normal [B r, S t, .pointer (some (.mk 6 0 (some 0))), I (IntKind.wrap .i64 (i + 1))] [some (.mk [S z, B zb, I z1, I z2, I z3, B zg] 131 true)] else False else False else False else R (Exit.exit 0) [B r, S t, .pointer (some (.mk 6 0 (some 0))), I i] [some (.mk [S z, B zb, I z1, I z2, I z3, B zg] 131 true)]) := by kernel_rfl
theorem l25_0 : LOKf Tryz.prog (oneL 0 S25_0.h) Tryz.f75 := by
 refine lokf_one (h := S25_0.h) (by kernel_rfl) (loop_specQ ok_G13 hmix (by kernel_rfl) (lok_none _) S25_0 V25_0 B25_0 (fun (r, t, z, zb, z1, z2, z3, zg, i) => (t.size - i).toNat) ?_ ?_ ?_)
 ·intro vs bs s h
  simp only [S25_0] at h
  split at h
  all_goals first | (cases h; exact ⟨rfl, rfl⟩) | cases h
 ·exact fun _ _ _ h => h
 ·intro ⟨r, t, z, zb, z1, z2, z3, zg, i⟩ jk Z hp hf
  rw [r25_0]
  simp only [S25_0] at hp hf
  simp only [decide_eq_true_eq] at hp
  refine cond_intro (fun h => ?_) (fun h => ?_)
  ·have h := of_decide_eq_true h
   have hz : i < (z.size : Int) := by omega
   have hb := bz_isB t (byteAt t i.toNat) (List.mem_of_mem_drop (by rw [bz_at hp.1 h]; exact List.mem_cons_self ..))
   rw [bz_at hp.1 h, bz_at hp.1 hz, onGo] at hf
   refine c_t (decide_eq_true (by omega)) (c_t (decide_eq_true (by omega)) (c_t (decide_eq_true hb) (cond_intro (fun a => ?_) (fun a => ?_))))
   ·have a : oneZ (byteAt z i.toNat) (byteAt t i.toNat) = false := by simpa using a
    rw [a, Bool.false_and, cond_false] at hf
    exact hf _
   ·have a : oneZ (byteAt z i.toNat) (byteAt t i.toNat) = true := by simpa using a
    rw [a, Bool.true_and] at hf
    rw [w64 (by omega)]
    exact ⟨(r, t, z, zb, z1, z2, z3, zg, i + 1), rfl, rfl, by simp only [S25_0, decide_eq_true_eq]; omega, by simp only; omega, hf⟩
  ·have h := of_decide_eq_false h
   rw [bz_end (s := t) (by omega), onGo, cond_true] at hf
   obtain rfl : i = t.size := by omega
   exact hf
def s25 (s : ByteArray) (t : ByteArray) : Bool × Value := (decide (s.size ≤ 9223372036854775807 ∧ t.size ≤ 9223372036854775807), .bool (hoZ (bz s) (bz t)))
theorem fn25 : Fn1 Tryz.prog 75 Tryz.f75 := ⟨Tryz.func75, by kernel_rfl, by kernel_rfl, by kernel_rfl⟩
theorem v25 (s : ByteArray) (t : ByteArray) (R : Value → Prop) : bodyQ Tryz.prog G13 (oneL 0 S25_0.h) Tryz.f75 [Enc.enc s, Enc.enc t] (fun _ => none) 0 (fun v _ _ => R v) = ( bif decide (ByteArray.size s ≤ 9223372036854775807) then bif pE (bz s) != 0 then R (B false) else bif pN (bz s) then bif decide (ByteArray.size s ≤ 9223372036854775807 ∧ ByteArray.size t ≤ 9223372036854775807) then R (B (Prod.snd (rdV (bz s) (bz t)) == 0)) else False else bif (↑(ByteArray.size t) : Int) != pW (bz s) then R (B false) else bif LSpec.pre S25_0 (false, t, sz (pS (bz s)), pN (bz s), pW (bz s), pD (bz s), pQ (bz s), pG (bz s), 0) then bif onGo (List.drop (Int.toNat 0) (bz (sz (pS (bz s))))) (List.drop (Int.toNat 0) (bz t)) then ∀ (x : Tmps), R (B true) else ∀ (i' : Int) (x : Tmps), R (B false) else False else False) := by kernel_rfl
theorem ok25 : PureOK Tryz.prog 75 (sp2 s25) := by
 refine qure2 ok_G13 hmix fn25 l25_0 (Nat.le_of_ble_eq_true (by kernel_rfl)) fun s t hc => ?_
 rw [DoesQ, v25]
 have hc : (s.size ≤ 9223372036854775807 ∧ t.size ≤ 9223372036854775807) := of_decide_eq_true hc
 try dsimp only [s25]
 obtain ⟨g1, g2⟩ := pS_len s
 rw [pE_ne, bz_sz g1]
 refine c_t (decide_eq_true hc.1) (cond_intro (fun h => ?_) (fun h => ?_))
 ·have h : vOK (bz s) = false := by simpa using h
  simp [hoZ, h]
 have h : vOK (bz s) = true := by simpa using h
 refine cond_intro (fun hn => c_t (decide_eq_true hc) ?_) (fun hn => ?_)
 ·have e : ((rdV (bz s) (bz t)).2 == 0) = decide ((rdV (bz s) (bz t)).2 = 0) := by rw [Bool.eq_iff_iff]; simp
  rw [e]
  simp [hoZ, h, hn]
 have hw := pCh h hn
 refine cond_intro (fun a => ?_) (fun a => ?_)
 ·have a : ¬ (t.size : Int) = pW (bz s) := by simpa using a
  simp [hoZ, h, hn, bz_length, a]
 have a : (t.size : Int) = pW (bz s) := by simpa using a
 refine c_t ?_ (cond_intro (fun b _ => ?_) (fun b _ _ => ?_))
 ·simp only [S25_0, decide_eq_true_eq, sz_size]
  omega
 ·rw [drop0, drop0] at b
  simp [hoZ, h, hn, bz_length, a, b]
 ·rw [drop0, drop0] at b
  simp [hoZ, h, hn, bz_length, a, b]
end Go.Px
end
noncomputable section
namespace Go.Px
open Go Go.Ab Go.Proofs
inductive Rw where
 | nil
 | own (d : List Value) (m cap : Nat)
def Rw.v (q : Nat) : Rw → Value
 | .nil => .slice none 0 0
 | .own _ m cap => .slice (some ⟨q, 0, some 1⟩) m cap
def Rw.b : Rw → Option Blk
 | .nil => none
 | .own d _ _ => some ⟨d, 5, true⟩
def Rw.z : Rw → List Int
 | .nil => []
 | .own d m _ => zc d m
def Rw.ok : Rw → Bool
 | .nil => true
 | .own d m cap => rowOK d m cap
def Rw.is : Rw → Bool
 | .nil => false
 | .own _ _ _ => true
def G15 : Env := Env.nil
theorem ok_G15 : EnvOK Tryz.prog G15 := env_nil
theorem w32 {n : Int} (h : -2147483648 ≤ n ∧ n ≤ 2147483647) : IntKind.wrap .i32 n = n := by
 rw [IntKind.wrap_i32]
 omega
def rpZ (n c : Int) : Int × Bool := if c < 48 ∨ c > 57 ∨ (n = 0 ∧ c = 48) then (0, false) else (10 * n + (c - 48), decide (10 * n + (c - 48) ≤ 32))
def s113 (n : Int) (c : R32) : Bool × Value := (decide (0 ≤ n ∧ n ≤ 32 ∧ 0 ≤ c.n ∧ c.n ≤ 2147483647), .tuple ⟨[.int .i64 (rpZ n c.n).1, .bool (rpZ n c.n).2]⟩)
theorem fn113 : Fn1 Tryz.prog 234 Tryz.f234 := ⟨Tryz.func234, by kernel_rfl, by kernel_rfl, by kernel_rfl⟩
theorem v113 (n : Int) (c : R32) (R : Value → Prop) : bodyQ Tryz.prog G15 noL Tryz.f234 [Enc.enc n, Enc.enc c] (fun _ => none) 0 (fun v _ _ => R v) = ( bif decide (R32.n c < 48) || (decide (R32.n c > 57) || (n == 0 || true)) then bif decide (R32.n c < 48) || (decide (R32.n c > 57) || n == 0 && R32.n c == 48) then R (.tuple (.mk [I 0, B false])) else R (.tuple (.mk [I (IntKind.wrap .i64 (IntKind.wrap .i64 (10 * n) + IntKind.wrap .i64 (IntKind.wrap .i32 (R32.n c - 48)))), B (decide (IntKind.wrap .i64 (IntKind.wrap .i64 (10 * n) + IntKind.wrap .i64 (IntKind.wrap .i32 (R32.n c - 48))) ≤ 32))])) else False) := by kernel_rfl
theorem ok113 : PureOK Tryz.prog 234 (sp2 s113) := by
 refine qure2 ok_G15 hmix fn113 lokf_none (Nat.le_of_ble_eq_true (by kernel_rfl)) fun n c hc => ?_
 rw [DoesQ, v113]
 have hc : (0 ≤ n ∧ n ≤ 32 ∧ 0 ≤ c.n ∧ c.n ≤ 2147483647) := of_decide_eq_true hc
 try dsimp only [s113]
 obtain ⟨c⟩ := c
 simp only at hc ⊢
 refine c_t (by simp) (cond_intro (fun h => ?_) (fun h => ?_))
 ·have h : c < 48 ∨ c > 57 ∨ (n = 0 ∧ c = 48) := by simpa using h
  simp [rpZ, h]
 ·have h : ¬ (c < 48 ∨ c > 57 ∨ (n = 0 ∧ c = 48)) := by
   intro q
   have : (decide (c < 48) || (decide (c > 57) || n == 0 && c == 48)) = true := by simpa using q
   rw [this] at h
   cases h
  rw [w64 (n := 10 * n) (by omega), w32 (n := c - 48) (by omega), w64 (n := c - 48) (by omega), w64 (by omega)]
  simp [rpZ, h]
def G16 : Env := Env.nil.add 272 (sp2 s141)
theorem ok_G16 : EnvOK Tryz.prog G16 := env_add env_nil ok141
def V114_0 : Blk × Int × Int × Rw × Int → List Value := fun (b, c, n, o, i) => [o.v 400, .int .i32 c, I n, I i]
def B114_0 : Blk × Int × Int × Rw × Int → List (Option Blk) := fun (b, c, n, o, i) => [some b, o.b]
def S114_0 : LSpecA (Blk × Int × Int × Rw × Int) where
 live := [0, 1, 31, 32]
 mid := [7, 400]
 n := 420
 ap := [(.tmp 0, 400)]
 dec vs bs := match vs, bs with
  | [.slice none 0 0, .int .i32 c, .int .i64 n, .int .i64 i], [some b, none] => some (b, c, n, .nil, i)
  | [.slice (some ⟨400, 0, some 1⟩) m cap, .int .i32 c, .int .i64 n, .int .i64 i], [some b, some ⟨d, 5, true⟩] => some (b, c, n, .own d m cap, i)
  | _, _ => none
 pre := fun (b, c, n, o, i) => o.ok && ((o.is || decide (i < n)) && (plainL b.c && decide (0 ≤ i ∧ i ≤ n ∧ n ≤ 32 ∧ 0 ≤ c ∧ c < 128 ∧ o.z.length + (n - i).toNat ≤ 1000)))
 fin := fun (b, c, n, o, i) Z => ∀ d' m' cap', rowOK d' m' cap' = true → zc d' m' = o.z ++ rep1 c (n - i).toNat → Z (.exit 0) [.slice (some ⟨400, 0, some 1⟩) m' cap', .int .i32 c, I n, I n] [some b, some ⟨d', 5, true⟩]
theorem r114_0n (b : Blk) (c : Int) (n : Int) (i : Int) (jk : Tmps) (R : Exit → List Value → List (Option Blk) → Prop) : (codeQ Tryz.prog G16 noL Tryz.f235.ntmps (loopOf Tryz.f235 0) (tl S114_0.live (V114_0 (b, c, n, .nil, i)) jk) (ml S114_0.mid (B114_0 (b, c, n, .nil, i))) S114_0.n fun e t' m' _ => S114_0.out R e t' m') = ( bif decide (i < n) then ∀ (cap : Nat) (tail : List Value), tailOK tail cap 1 1 = true → bif goodL [(425, 400)] b.1 && (goodL [(425, 400)] (.int .u8 (IntKind.wrap .u8 c) :: tail) && true) && true then R Exit.normal [.slice (some (.mk 400 0 (some 1))) 1 cap, .int .i32 c, I n, I (IntKind.wrap .i64 (i + 1))] [some (.mk (rlbL [(425, 400)] b.1) (Blk.ty b) (Blk.own b)), some (.mk (rlbL [(425, 400)] (.int .u8 (IntKind.wrap .u8 c) :: tail)) 5 true)] else False else bif goodL [] b.1 && true && true then R (Exit.exit 0) [.slice none 0 0, .int .i32 c, I n, I i] [some (.mk (rlbL [] b.1) (Blk.ty b) (Blk.own b)), none] else False) := by kernel_rfl
theorem r114_0o (b : Blk) (c : Int) (n : Int) (d : List Value) (m : Nat) (cap : Nat) (i : Int) (jk : Tmps) (R : Exit → List Value → List (Option Blk) → Prop) : (codeQ Tryz.prog G16 noL Tryz.f235.ntmps (loopOf Tryz.f235 0) (tl S114_0.live (V114_0 (b, c, n, .own d m cap, i)) jk) (ml S114_0.mid (B114_0 (b, c, n, .own d m cap, i))) S114_0.n fun e t' m' _ => S114_0.out R e t' m') = ( bif decide (i < n) then bif Nat.beq (List.length d) (cap * 1) && Nat.ble m cap && Nat.ble cap 9223372036854775807 && true && fitsA (m + 1) 1 then ∀ (cap : Nat) (tail : List Value), tailOK tail cap (m + 1) 1 = true → bif goodL [(425, 400)] b.1 && (goodL [(425, 400)] (List.take (m * 1) d ++ [.int .u8 (IntKind.wrap .u8 c)] ++ tail) && true) && true then R Exit.normal [.slice (some (.mk 400 0 (some 1))) (m + 1) cap, .int .i32 c, I n, I (IntKind.wrap .i64 (i + 1))] [some (.mk (rlbL [(425, 400)] b.1) (Blk.ty b) (Blk.own b)), some (.mk (rlbL [(425, 400)] (List.take (m * 1) d ++ [.int .u8 (IntKind.wrap .u8 c)] ++ tail)) 5 true)] else False else False else bif goodL [(400, 400)] b.1 && (goodL [(400, 400)] d && true) && true then R (Exit.exit 0) [.slice (some (.mk 400 0 (some 1))) m cap, .int .i32 c, I n, I i] [some (.mk (rlbL [(400, 400)] b.1) (Blk.ty b) (Blk.own b)), some (.mk (rlbL [(400, 400)] d) 5 true)] else False) := by kernel_rfl
theorem l114_0 : LOKf Tryz.prog (oneL 0 S114_0.hA) Tryz.f235 := by
 refine lokf_one (h := S114_0.hA) (by kernel_rfl) (loop_specA ok_G16 hmix (by kernel_rfl) (lok_none _) S114_0 V114_0 B114_0 (fun (b, c, n, o, i) => (n - i).toNat) ?_ ?_ ?_)
 ·intro vs bs s h
  simp only [S114_0] at h
  split at h
  all_goals first | (cases h; exact ⟨rfl, rfl⟩) | cases h | (split at h <;> first | (rename_i hq; cases h; have hq := Nat.eq_of_beq_eq_true hq; subst hq; exact ⟨rfl, rfl⟩) | cases h)
 ·exact fun ⟨b, c, n, o, i⟩ hp => by
   simp only [S114_0, Bool.and_eq_true] at hp
   cases o with
   | nil => simp [V114_0, B114_0, S114_0, idsLt, idsLtB, idsL, ids, Rw.v, Rw.b, ids_plainL hp.2.2.1]
   | own d m cap => simp [V114_0, B114_0, S114_0, idsLt, idsLtB, idsL, ids, Rw.v, Rw.b, ids_plainL hp.2.2.1, ids_plainL (rowOK_iff.1 hp.1).plain]
 ·intro ⟨b, c, n, o, i⟩ jk Z hp hf
  simp only [S114_0] at hp hf
  cases o with
  | nil =>
   rw [r114_0n]
   simp only [Bool.and_eq_true, decide_eq_true_eq] at hp
   obtain ⟨-, hi, hb, hp⟩ := hp
   have hi : i < n := of_decide_eq_true hi
   simp only [Rw.z, List.length_nil] at hp
   have eb : ∀ ps, rlbL ps b.c = b.c := fun ps => rlbL_plain ps hb
   have gb : ∀ ps, goodL ps b.c = true := fun ps => goodL_plain hb
   refine c_t (decide_eq_true hi) (fun cap1 tail ht => ?_)
   rw [w8 (n := c) (by omega)]
   have hh := row_new [c] ht
   have h1 : RowP (.int .u8 c :: tail) 1 cap1 := hh.1
   have h2 : zc (.int .u8 c :: tail) 1 = [c] := hh.2
   refine c_t (by simp [h1.good, gb]) ?_
   rw [h1.rlb, eb, w64 (by omega)]
   refine ⟨(b, c, n, .own _ 1 cap1, i + 1), rfl, rfl, by simp only [S114_0, Bool.and_eq_true, decide_eq_true_eq]; exact ⟨rowOK_iff.2 h1, rfl, hb, by omega, by omega, by omega, by omega, by omega, by simp only [Rw.z, h2, List.length_cons, List.length_nil]; omega⟩, by simp only; omega, ?_⟩
   intro d' m' cap' g1 g2
   refine hf d' m' cap' g1 ?_
   rw [g2]
   simp only [Rw.z]
   rw [h2, show (n - i).toNat = (n - (i + 1)).toNat + 1 by omega, ← rep1_succ]
   rfl
  | own d m cap =>
   rw [r114_0o]
   simp only [Bool.and_eq_true, decide_eq_true_eq] at hp
   obtain ⟨hr, -, hb, hp⟩ := hp
   simp only [Rw.z] at hp
   have eb : ∀ ps, rlbL ps b.c = b.c := fun ps => rlbL_plain ps hb
   have gb : ∀ ps, goodL ps b.c = true := fun ps => goodL_plain hb
   have hr := rowOK_iff.1 hr
   have hzl := zc_length hr
   refine cond_intro (fun h => ?_) (fun h => ?_)
   ·have h := of_decide_eq_true h
    rw [w8 (n := c) (by omega)]
    refine c_t (hr.ask (k := 1) (by omega)) (fun cap1 tail ht => ?_)
    obtain ⟨h1, h2⟩ := hr.app1 c ht
    refine c_t (by rw [h1.good, gb]; rfl) ?_
    rw [h1.rlb, eb, w64 (by omega)]
    have hl1 : (zc (List.take (m * 1) d ++ [Value.int IntKind.u8 c] ++ tail) (m + 1)).length = m + 1 := zc_length h1
    refine ⟨(b, c, n, .own _ (m + 1) cap1, i + 1), rfl, rfl, by simp only [S114_0, Bool.and_eq_true, decide_eq_true_eq]; exact ⟨rowOK_iff.2 h1, rfl, hb, by omega, by omega, by omega, by omega, by omega, by simp only [Rw.z, hl1]; omega⟩, by simp only; omega, ?_⟩
    intro d' m' cap' g1 g2
    refine hf d' m' cap' g1 ?_
    rw [g2]
    simp only [Rw.z]
    rw [h2, show (n - i).toNat = (n - (i + 1)).toNat + 1 by omega, ← rep1_succ, List.append_assoc]
   ·have h := of_decide_eq_false h
    refine c_t (by rw [hr.good, gb]; rfl) ?_
    rw [hr.rlb, eb]
    obtain rfl : i = n := by omega
    exact hf d m cap (rowOK_iff.2 hr) (by simp [Rw.z, rep1])
theorem fn114 : Fn1 Tryz.prog 235 Tryz.f235 := ⟨Tryz.func235, by kernel_rfl, by kernel_rfl, by kernel_rfl⟩
def G17 : Env := (Env.nil.add 234 (sp2 s113)).addG 235 (inlQ Tryz.prog G16 (oneL 0 S114_0.hA) Tryz.f235)
theorem ok_G17 : EnvOK Tryz.prog G17 := env_addG (env_add env_nil ok113) (gen_inlQ ok_G16 hmix fn114 l114_0)
theorem dec_cases {s : ByteArray} {p : Int} (h0 : 0 ≤ p) (h : p < s.size) : (byteAt s p.toNat < 128 → decO s p.toNat = ((byteAt s p.toNat).toNat, 1)) ∧ (128 ≤ byteAt s p.toNat → 128 ≤ (decO s p.toNat).1 ∧ (decO s p.toNat).1 ≤ 2147483647 ∧ 1 ≤ (decO s p.toNat).2) := by
 rw [decO_eq]
 have hs : p.toNat < s.size := by omega
 have e : byteAt s p.toNat = ((s[p.toNat]'hs).toNat : Int) := by
  have hl : p.toNat < s.data.toList.length := by rw [Array.length_toList]; exact hs
  simp only [byteAt, List.getElem?_eq_getElem hl]
  rfl
 rw [e]
 refine ⟨fun h => ?_, fun h => ?_⟩
 ·rw [decode_ascii s _ hs (by omega)]
  rfl
 ·have := decode_high s _ hs (by omega)
  exact ⟨this.1, decode_le s _, this.2⟩
theorem kL_lt {c : Int} (h : hasZ kL c = true) : 0 ≤ c ∧ c < 128 := by
 have : ∀ x ∈ kL, 0 ≤ x ∧ x < 128 := by decide
 exact this c (hasZ_iff.1 h)
theorem xp_n0 : ∀ (l : List Int) (n m : Int) (out : List Int), xpGo l 0 n out = xpGo l 0 m out
 | [], _, _, _ => rfl
 | c :: r, n, m, out => by
  simp only [xpGo]
  rfl
theorem xp_high {c : Int} (h : 128 ≤ c) (r : List Int) (st n : Int) (out : List Int) : xpGo (c :: r) st n out = ([], false) := by
 have hu : upZ c = c := by unfold upZ; rw [if_neg (by omega)]
 have hk : ¬ hasZ kL c = true := fun q => by have := kL_lt q; omega
 have hd : ¬ isDig c = true := fun q => by have := of_decide_eq_true q; omega
 rw [xpGo]
 split
 ·rw [if_neg (by omega), if_neg (fun q => hd q.1)]
 ·rw [if_neg (by omega), if_neg (by omega), hu, if_neg (fun q => hk q.1)]
theorem dec_step {s : ByteArray} {p : Int} (h0 : 0 ≤ p) (h : p < s.size) : 0 ≤ ((decO s p.toNat).1 : Int) ∧ ((decO s p.toNat).1 : Int) ≤ 2147483647 ∧ 1 ≤ ((decO s p.toNat).2 : Int) ∧
  ∀ st n out, xpGo ((bz s).drop p.toNat) st n out = xpGo (((decO s p.toNat).1 : Int) :: (bz s).drop (p + ((decO s p.toNat).2 : Int)).toNat) st n out := by
 obtain ⟨h1, h2⟩ := dec_cases h0 h
 have hb := byte_rng s p.toNat
 by_cases hc : byteAt s p.toNat < 128
 ·have e := h1 hc
  rw [e]
  simp only
  rw [Int.toNat_of_nonneg hb.1]
  refine ⟨hb.1, by omega, by omega, fun st n out => ?_⟩
  rw [bz_at h0 h]
  rfl
 ·obtain ⟨q1, q2, q3⟩ := h2 (by omega)
  refine ⟨by omega, by omega, by omega, fun st n out => ?_⟩
  rw [bz_at h0 h, xp_high (by omega), xp_high (by omega)]
theorem x1 {c st n : Int} {r out : List Int} (h : st = 1) (hc : c = 41) (hn : 0 < n) : xpGo (c :: r) st n out = xpGo r 2 n out := by rw [xpGo, if_pos h, if_pos hc, if_pos hn]
theorem x2 {c st n : Int} {r out : List Int} (h : st = 1) (hc : c = 41) (hn : ¬ 0 < n) : xpGo (c :: r) st n out = ([], false) := by rw [xpGo, if_pos h, if_pos hc, if_neg hn]
theorem x34 {c st n : Int} {r out : List Int} (h : st = 1) (hc : ¬ c = 41) : xpGo (c :: r) st n out = if (rpZ n c).2 = true then xpGo r 1 (rpZ n c).1 out else ([], false) := by
 rw [xpGo, if_pos h, if_neg hc, rpZ]
 by_cases q : c < 48 ∨ c > 57 ∨ (n = 0 ∧ c = 48)
 ·rw [if_pos q, if_neg, if_neg (by simp)]
  simp only [isDig, decide_eq_true_eq]
  omega
 ·rw [if_neg q]
  simp only [isDig, decide_eq_true_eq]
  by_cases q2 : 10 * n + (c - 48) ≤ 32
  ·rw [if_pos (by omega), if_pos q2]
  ·rw [if_neg (by omega), if_neg q2]
theorem rp_rng {n c : Int} (hn : 0 ≤ n) (h : (rpZ n c).2 = true) : 0 ≤ (rpZ n c).1 ∧ (rpZ n c).1 ≤ 32 := by
 unfold rpZ at h ⊢
 split at h
 ·cases h
 ·rename_i q
  rw [if_neg q]
  simp only [decide_eq_true_eq] at h ⊢
  omega
theorem x5 {c st n : Int} {r out : List Int} (h : ¬ st = 1) (hc : c = 41 ∨ st = 2 ∧ c = 40) : xpGo (c :: r) st n out = ([], false) := by rw [xpGo, if_neg h, if_pos hc]
theorem x6 {c st n : Int} {r out : List Int} (h : ¬ st = 1) (hc : ¬ (c = 41 ∨ st = 2 ∧ c = 40)) (h2 : c = 40) : xpGo (c :: r) st n out = xpGo r 1 0 out := by rw [xpGo, if_neg h, if_neg hc, if_pos h2]
theorem x7 {c st n : Int} {r out : List Int} (h : ¬ st = 1) (hc : ¬ (c = 41 ∨ st = 2 ∧ c = 40)) (h2 : ¬ c = 40) : xpGo (c :: r) st n out = if hasZ kL (upZ c) = true ∧ (out.length : Int) + (if st = 2 then n else 1) ≤ 32 then xpGo r 0 0 (out ++ rep1 (upZ c) (if st = 2 then n else 1).toNat) else ([], false) := by rw [xpGo, if_neg h, if_neg hc, if_neg h2]
theorem put_gate {u k : Int} {L : Nat} (hu : 0 ≤ u ∧ u ≤ 2147483647) (hk : 1 ≤ k ∧ k ≤ 32) (hL : L ≤ 32) :
  (decide (u ≥ 128) || decide (0 ≤ IntKind.wrap IntKind.u8 u ∧ IntKind.wrap IntKind.u8 u < 256) && (decide (idxZ (bz (ByteArray.mk #[57, 86, 90, 42, 89, 84, 73, 82, 83, 43, 45, 36, 44, 46, 47, 66, 67, 68, 65, 88])) (IntKind.wrap IntKind.u8 u) < 0) || true)) = true ∧
  (decide (u ≥ 128) || (decide (idxZ (bz (ByteArray.mk #[57, 86, 90, 42, 89, 84, 73, 82, 83, 43, 45, 36, 44, 46, 47, 66, 67, 68, 65, 88])) (IntKind.wrap IntKind.u8 u) < 0) || decide (IntKind.wrap IntKind.i64 (natO L + k) > 32))) = !(decide (hasZ kL u = true ∧ (L : Int) + k ≤ 32)) := by
 have eb : bz (ByteArray.mk #[57, 86, 90, 42, 89, 84, 73, 82, 83, 43, 45, 36, 44, 46, 47, 66, 67, 68, 65, 88]) = kL := by kernel_rfl
 rw [eb, natO_eq, w64 (by omega)]
 by_cases h : u ≥ 128
 ·have hh : ¬ (hasZ kL u = true ∧ (L : Int) + k ≤ 32) := fun q => by have := kL_lt q.1; omega
  rw [decide_eq_true h, decide_eq_false hh]
  exact ⟨rfl, rfl⟩
 ·rw [w8 (by omega), decide_eq_false h, decide_eq_true (show 0 ≤ u ∧ u < 256 by omega)]
  refine ⟨by simp, ?_⟩
  have hi := idx_has u kL
  rw [← hasZ_iff] at hi
  by_cases h1 : hasZ kL u = true
  ·rw [h1] at hi ⊢
   have hi := hi.2.2 rfl
   rw [decide_eq_false (show ¬ idxZ kL u < 0 by omega)]
   by_cases h2 : (L : Int) + k ≤ 32
   ·rw [decide_eq_false (show ¬ (L : Int) + k > 32 by omega), decide_eq_true ⟨rfl, h2⟩]; rfl
   ·rw [decide_eq_true (show (L : Int) + k > 32 by omega), decide_eq_false (fun q => h2 q.2)]; rfl
  ·have hn : idxZ kL u < 0 := by
    have : ¬ 0 ≤ idxZ kL u := fun q => h1 (hi.2.1 q)
    omega
   rw [decide_eq_true hn, decide_eq_false (show ¬ (hasZ kL u = true ∧ (L : Int) + k ≤ 32) from fun q => h1 q.1)]; rfl
theorem put_nil {u k : Int} {p : Int} {s : ByteArray} (hu : 0 ≤ u ∧ u ≤ 2147483647) (hk : 1 ≤ k ∧ k ≤ 32) {A : Prop} {Q : Nat → Nat → List Value → Prop}
  (h1 : ¬ (hasZ kL u = true ∧ ((([] : List Int).length : Nat) : Int) + k ≤ 32) → A)
  (h2 : hasZ kL u = true ∧ ((([] : List Int).length : Nat) : Int) + k ≤ 32 → ∀ d' m' cap', RowP d' m' cap' → zc d' m' = [] ++ rep1 u k.toNat → Q m' cap' d') :
  bif decide (u ≥ 128) || decide (0 ≤ IntKind.wrap IntKind.u8 u ∧ IntKind.wrap IntKind.u8 u < 256) && (decide (idxZ (bz (ByteArray.mk #[57, 86, 90, 42, 89, 84, 73, 82, 83, 43, 45, 36, 44, 46, 47, 66, 67, 68, 65, 88])) (IntKind.wrap IntKind.u8 u) < 0) || true) then
   bif decide (u ≥ 128) || (decide (idxZ (bz (ByteArray.mk #[57, 86, 90, 42, 89, 84, 73, 82, 83, 43, 45, 36, 44, 46, 47, 66, 67, 68, 65, 88])) (IntKind.wrap IntKind.u8 u) < 0) || decide (IntKind.wrap IntKind.i64 (natO 0 + k) > 32)) then A
   else
    bif LSpec.pre (LSpecA.toLSpec S114_0) (Blk.mk [Value.string s, Value.int IntKind.i64 p] 4611686018427387904 true, u, k, Rw.nil, 0) then
     ∀ (d' : List Value) (m' cap' : Nat), rowOK d' m' cap' = true → zc d' m' = Rw.z Rw.nil ++ rep1 u (Int.toNat (k - 0)) →
      bif idsLt 420 d' && true then ∀ (_ : Tmps), bif goodL [(400, 200)] d' && true && true then Q m' cap' d' else False else False
    else False
  else False := by
 obtain ⟨g1, g2⟩ := put_gate (L := 0) hu hk (by omega)
 refine c_t g1 ?_
 rw [g2]
 by_cases hq : hasZ kL u = true ∧ ((0 : Nat) : Int) + k ≤ 32
 ·rw [decide_eq_true hq]
  have hkl := kL_lt hq.1
  refine c_f rfl (c_t ?_ fun d' m' cap' r1 r2 => ?_)
  ·simp only [S114_0, Bool.and_eq_true, decide_eq_true_eq, Rw.ok, Rw.is, Rw.z, List.length_nil, Bool.false_or, true_and, plainL, plain]
   exact ⟨by omega, decide_eq_true (by omega)⟩
  ·have r1 := rowOK_iff.1 r1
   refine c_t (by rw [ids_plainB r1.plain]; rfl) fun x => c_t (by rw [r1.good]; rfl) ?_
   exact h2 hq d' m' cap' r1 (by rw [r2, Int.sub_zero]; rfl)
 ·rw [decide_eq_false hq]
  exact c_t rfl (h1 hq)
theorem put_own {u k : Int} {p : Int} {s : ByteArray} {d : List Value} {m cap : Nat} (hr : RowP d m cap) (hm : m ≤ 32) (hu : 0 ≤ u ∧ u ≤ 2147483647) (hk : 1 ≤ k ∧ k ≤ 32) {A : Prop} {Q : Nat → Nat → List Value → Prop}
  (h1 : ¬ (hasZ kL u = true ∧ ((zc d m).length : Int) + k ≤ 32) → A)
  (h2 : hasZ kL u = true ∧ ((zc d m).length : Int) + k ≤ 32 → ∀ d' m' cap', RowP d' m' cap' → zc d' m' = zc d m ++ rep1 u k.toNat → Q m' cap' d') :
  bif decide (u ≥ 128) || decide (0 ≤ IntKind.wrap IntKind.u8 u ∧ IntKind.wrap IntKind.u8 u < 256) && (decide (idxZ (bz (ByteArray.mk #[57, 86, 90, 42, 89, 84, 73, 82, 83, 43, 45, 36, 44, 46, 47, 66, 67, 68, 65, 88])) (IntKind.wrap IntKind.u8 u) < 0) || true) then
   bif decide (u ≥ 128) || (decide (idxZ (bz (ByteArray.mk #[57, 86, 90, 42, 89, 84, 73, 82, 83, 43, 45, 36, 44, 46, 47, 66, 67, 68, 65, 88])) (IntKind.wrap IntKind.u8 u) < 0) || decide (IntKind.wrap IntKind.i64 (natO m + k) > 32)) then
    bif goodL [] d && true && true then A else False
   else
    bif goodL [(200, 400)] d && true && true && (idsLt 420 d && true) then
     bif LSpec.pre (LSpecA.toLSpec S114_0) (Blk.mk [Value.string s, Value.int IntKind.i64 p] 4611686018427387904 true, u, k, Rw.own d m cap, 0) then
      ∀ (d' : List Value) (m' cap' : Nat), rowOK d' m' cap' = true → zc d' m' = Rw.z (Rw.own d m cap) ++ rep1 u (Int.toNat (k - 0)) →
       bif idsLt 420 d' && true then ∀ (_ : Tmps), bif goodL [(400, 200)] d' && true && true then Q m' cap' d' else False else False
     else False
    else False
  else False := by
 obtain ⟨g1, g2⟩ := put_gate (L := m) hu hk (by omega)
 rw [zc_length hr] at h1 h2
 have hzl := zc_length hr
 refine c_t g1 ?_
 rw [g2, hr.good, hr.good, ids_plainB hr.plain]
 by_cases hq : hasZ kL u = true ∧ (m : Int) + k ≤ 32
 ·rw [decide_eq_true hq]
  have hkl := kL_lt hq.1
  refine c_f rfl (c_t rfl (c_t ?_ fun d' m' cap' r1 r2 => ?_))
  ·simp only [S114_0, Bool.and_eq_true, decide_eq_true_eq, Rw.ok, Rw.is, Rw.z, Bool.true_or, true_and, plainL, plain]
   exact ⟨rowOK_iff.2 hr, decide_eq_true (by omega)⟩
  ·have r1 := rowOK_iff.1 r1
   refine c_t (by rw [ids_plainB r1.plain]; rfl) fun x => c_t (by rw [r1.good]; rfl) ?_
   exact h2 hq d' m' cap' r1 (by rw [r2, Int.sub_zero]; rfl)
 ·rw [decide_eq_false hq]
  exact c_t rfl (c_t rfl (h1 hq))
def V80_0 : ByteArray × Bool × Rw × Int × Int × Bool × ByteArray × Int → List Value := fun (r, rb, o, st, n, f, s, p) => [.string r, .bool rb, o.v 200, .int .i64 st, .int .i64 n, .bool f, .pointer (some ⟨7, 0, some 0⟩)]
def B80_0 : ByteArray × Bool × Rw × Int × Int × Bool × ByteArray × Int → List (Option Blk) := fun (r, rb, o, st, n, f, s, p) => [some ⟨[.string s, .int .i64 p], itTy, true⟩, o.b]
def S80_0 : LSpecA (ByteArray × Bool × Rw × Int × Int × Bool × ByteArray × Int) where
 live := [2, 3, 4, 5, 6, 7, 11]
 mid := [7, 200]
 n := 210
 ap := [(.tmp 4, 200)]
 dec vs bs := match vs, bs with
  | [.string r, .bool rb, .slice none 0 0, .int .i64 st, .int .i64 n, .bool f, .pointer (some ⟨7, 0, some 0⟩)], [some ⟨[.string s, .int .i64 p], ty, true⟩, none] => match Nat.beq ty itTy with | true => some (r, rb, .nil, st, n, f, s, p) | false => none
  | [.string r, .bool rb, .slice (some ⟨200, 0, some 1⟩) m cap, .int .i64 st, .int .i64 n, .bool f, .pointer (some ⟨7, 0, some 0⟩)], [some ⟨[.string s, .int .i64 p], ty, true⟩, some ⟨d, 5, true⟩] => match Nat.beq ty itTy with | true => some (r, rb, .own d m cap, st, n, f, s, p) | false => none
  | _, _ => none
 pre := fun (r, rb, o, st, n, f, s, p) => o.ok && (f && decide (0 ≤ p ∧ s.size ≤ 9223372036854775807 ∧ (st = 0 ∨ st = 1 ∨ (st = 2 ∧ 0 < n)) ∧ 0 ≤ n ∧ n ≤ 32 ∧ o.z.length ≤ 32))
 fin := fun (r, rb, o, st, n, f, s, p) Z => (xpGo ((bz s).drop p.toNat) st n o.z = ([], false) → (∀ st' n' f' p', Z .ret [.string ⟨#[]⟩, .bool false, .slice none 0 0, .int .i64 st', .int .i64 n', .bool f', .pointer (some ⟨7, 0, some 0⟩)] [some ⟨[.string s, .int .i64 p'], itTy, true⟩, none]) ∧ (∀ d' m' cap' st' n' f' p', rowOK d' m' cap' = true → Z .ret [.string ⟨#[]⟩, .bool false, .slice (some ⟨200, 0, some 1⟩) m' cap', .int .i64 st', .int .i64 n', .bool f', .pointer (some ⟨7, 0, some 0⟩)] [some ⟨[.string s, .int .i64 p'], itTy, true⟩, some ⟨d', 5, true⟩]) ∧ (∀ d' st' n' f' p', plainL d' = true → Z .ret [.string ⟨#[]⟩, .bool false, .slice none 0 0, .int .i64 st', .int .i64 n', .bool f', .pointer (some ⟨7, 0, some 0⟩)] [some ⟨[.string s, .int .i64 p'], itTy, true⟩, some ⟨d', 5, true⟩])) ∧ (∀ st' n' f' p', xpGo ((bz s).drop p.toNat) st n o.z = ([], decide (st' = 0)) → Z (.exit 0) [.string r, .bool rb, .slice none 0 0, .int .i64 st', .int .i64 n', .bool f', .pointer (some ⟨7, 0, some 0⟩)] [some ⟨[.string s, .int .i64 p'], itTy, true⟩, none]) ∧ (∀ d' m' cap' st' n' f' p', rowOK d' m' cap' = true → xpGo ((bz s).drop p.toNat) st n o.z = (zc d' m', decide (st' = 0)) → Z (.exit 0) [.string r, .bool rb, .slice (some ⟨200, 0, some 1⟩) m' cap', .int .i64 st', .int .i64 n', .bool f', .pointer (some ⟨7, 0, some 0⟩)] [some ⟨[.string s, .int .i64 p'], itTy, true⟩, some ⟨d', 5, true⟩])
theorem r80_0n (r : ByteArray) (rb : Bool) (st : Int) (n : Int) (f : Bool) (s : ByteArray) (p : Int) (jk : Tmps) (R : Exit → List Value → List (Option Blk) → Prop) : (codeQ Tryz.prog G17 noL Tryz.f188.ntmps (loopOf Tryz.f188 0) (tl S80_0.live (V80_0 (r, rb, .nil, st, n, f, s, p)) jk) (ml S80_0.mid (B80_0 (r, rb, .nil, st, n, f, s, p))) S80_0.n fun e t' m' _ => S80_0.out R e t' m') = ( bif decide (0 ≤ p) then bif decide (p < (↑(ByteArray.size s) : Int)) then bif st == 1 || true then bif st == 1 && (↑(Prod.fst (decO s (Int.toNat p))) : Int) == 41 then bif !decide (n > 0) then R Exit.ret [S (ByteArray.mk #[]), B false, .slice none 0 0, I 2, I n, B (decide (n > 0)), .pointer (some (.mk 7 0 (some 0)))] [some (.mk [S s, I (p + (↑(Prod.snd (decO s (Int.toNat p))) : Int))] 4611686018427387904 true), none] else R Exit.normal [S r, B rb, .slice none 0 0, I 2, I n, B (decide (n > 0)), .pointer (some (.mk 7 0 (some 0)))] [some (.mk [S s, I (p + (↑(Prod.snd (decO s (Int.toNat p))) : Int))] 4611686018427387904 true), none] else bif st == 1 then bif decide (0 ≤ n ∧ n ≤ 32 ∧ 0 ≤ (↑(Prod.fst (decO s (Int.toNat p))) : Int) ∧ (↑(Prod.fst (decO s (Int.toNat p))) : Int) ≤ 2147483647) then bif !Prod.snd (rpZ n (↑(Prod.fst (decO s (Int.toNat p))) : Int)) then R Exit.ret [S (ByteArray.mk #[]), B false, .slice none 0 0, I st, I (Prod.fst (rpZ n (↑(Prod.fst (decO s (Int.toNat p))) : Int))), B (Prod.snd (rpZ n (↑(Prod.fst (decO s (Int.toNat p))) : Int))), .pointer (some (.mk 7 0 (some 0)))] [some (.mk [S s, I (p + (↑(Prod.snd (decO s (Int.toNat p))) : Int))] 4611686018427387904 true), none] else R Exit.normal [S r, B rb, .slice none 0 0, I st, I (Prod.fst (rpZ n (↑(Prod.fst (decO s (Int.toNat p))) : Int))), B (Prod.snd (rpZ n (↑(Prod.fst (decO s (Int.toNat p))) : Int))), .pointer (some (.mk 7 0 (some 0)))] [some (.mk [S s, I (p + (↑(Prod.snd (decO s (Int.toNat p))) : Int))] 4611686018427387904 true), none] else False else bif (↑(Prod.fst (decO s (Int.toNat p))) : Int) == 41 || (st == 2 || true) then bif (↑(Prod.fst (decO s (Int.toNat p))) : Int) == 41 || st == 2 && (↑(Prod.fst (decO s (Int.toNat p))) : Int) == 40 then R Exit.ret [S (ByteArray.mk #[]), B false, .slice none 0 0, I st, I n, B false, .pointer (some (.mk 7 0 (some 0)))] [some (.mk [S s, I (p + (↑(Prod.snd (decO s (Int.toNat p))) : Int))] 4611686018427387904 true), none] else bif (↑(Prod.fst (decO s (Int.toNat p))) : Int) == 40 then bif !f then R Exit.ret [S (ByteArray.mk #[]), B false, .slice none 0 0, I 1, I 0, B f, .pointer (some (.mk 7 0 (some 0)))] [some (.mk [S s, I (p + (↑(Prod.snd (decO s (Int.toNat p))) : Int))] 4611686018427387904 true), none] else R Exit.normal [S r, B rb, .slice none 0 0, I 1, I 0, B f, .pointer (some (.mk 7 0 (some 0)))] [some (.mk [S s, I (p + (↑(Prod.snd (decO s (Int.toNat p))) : Int))] 4611686018427387904 true), none] else bif st == 2 then bif decide ((↑(Prod.fst (decO s (Int.toNat p))) : Int) ≥ 97) || true then bif decide ((↑(Prod.fst (decO s (Int.toNat p))) : Int) ≥ 97) && decide ((↑(Prod.fst (decO s (Int.toNat p))) : Int) ≤ 122) then bif decide (IntKind.wrap .i32 ((↑(Prod.fst (decO s (Int.toNat p))) : Int) - 32) ≥ 128) || decide (0 ≤ IntKind.wrap .u8 (IntKind.wrap .i32 ((↑(Prod.fst (decO s (Int.toNat p))) : Int) - 32)) ∧ IntKind.wrap .u8 (IntKind.wrap .i32 ((↑(Prod.fst (decO s (Int.toNat p))) : Int) - 32)) < 256) && (decide (idxZ (bz (ByteArray.mk #[57, 86, 90, 42, 89, 84, 73, 82, 83, 43, 45, 36, 44, 46, 47, 66, 67, 68, 65, 88])) (IntKind.wrap .u8 (IntKind.wrap .i32 ((↑(Prod.fst (decO s (Int.toNat p))) : Int) - 32))) < 0) || true) then bif decide (IntKind.wrap .i32 ((↑(Prod.fst (decO s (Int.toNat p))) : Int) - 32) ≥ 128) || (decide (idxZ (bz (ByteArray.mk #[57, 86, 90, 42, 89, 84, 73, 82, 83, 43, 45, 36, 44, 46, 47, 66, 67, 68, 65, 88])) (IntKind.wrap .u8 (IntKind.wrap .i32 ((↑(Prod.fst (decO s (Int.toNat p))) : Int) - 32))) < 0) || decide (IntKind.wrap .i64 (natO 0 + n) > 32)) then R Exit.ret [S (ByteArray.mk #[]), B false, .slice none 0 0, I 0, I n, B false, .pointer (some (.mk 7 0 (some 0)))] [some (.mk [S s, I (p + (↑(Prod.snd (decO s (Int.toNat p))) : Int))] 4611686018427387904 true), none] else bif LSpec.pre (LSpecA.toLSpec S114_0) (.mk [S s, I (p + (↑(Prod.snd (decO s (Int.toNat p))) : Int))] 4611686018427387904 true, IntKind.wrap .i32 ((↑(Prod.fst (decO s (Int.toNat p))) : Int) - 32), n, Rw.nil, 0) then ∀ (d' : List Value) (m' cap' : Nat), rowOK d' m' cap' = true → zc d' m' = Rw.z Rw.nil ++ rep1 (IntKind.wrap .i32 ((↑(Prod.fst (decO s (Int.toNat p))) : Int) - 32)) (Int.toNat (n - 0)) → bif idsLt 420 d' && true then ∀ (x : Tmps), bif goodL [(400, 200)] d' && true && true then R Exit.normal [S r, B rb, .slice (some (.mk 200 0 (some 1))) m' cap', I 0, I n, B true, .pointer (some (.mk 7 0 (some 0)))] [some (.mk [S s, I (p + (↑(Prod.snd (decO s (Int.toNat p))) : Int))] 4611686018427387904 true), some (.mk (rlbL [(400, 200)] d') 5 true)] else False else False else False else False else bif decide ((↑(Prod.fst (decO s (Int.toNat p))) : Int) ≥ 128) || decide (0 ≤ IntKind.wrap .u8 (↑(Prod.fst (decO s (Int.toNat p))) : Int) ∧ IntKind.wrap .u8 (↑(Prod.fst (decO s (Int.toNat p))) : Int) < 256) && (decide (idxZ (bz (ByteArray.mk #[57, 86, 90, 42, 89, 84, 73, 82, 83, 43, 45, 36, 44, 46, 47, 66, 67, 68, 65, 88])) (IntKind.wrap .u8 (↑(Prod.fst (decO s (Int.toNat p))) : Int)) < 0) || true) then bif decide ((↑(Prod.fst (decO s (Int.toNat p))) : Int) ≥ 128) || (decide (idxZ (bz (ByteArray.mk #[57, 86, 90, 42, 89, 84, 73, 82, 83, 43, 45, 36, 44, 46, 47, 66, 67, 68, 65, 88])) (IntKind.wrap .u8 (↑(Prod.fst (decO s (Int.toNat p))) : Int)) < 0) || decide (IntKind.wrap .i64 (natO 0 + n) > 32)) then R Exit.ret [S (ByteArray.mk #[]), B false, .slice none 0 0, I 0, I n, B false, .pointer (some (.mk 7 0 (some 0)))] [some (.mk [S s, I (p + (↑(Prod.snd (decO s (Int.toNat p))) : Int))] 4611686018427387904 true), none] else bif LSpec.pre (LSpecA.toLSpec S114_0) (.mk [S s, I (p + (↑(Prod.snd (decO s (Int.toNat p))) : Int))] 4611686018427387904 true, (↑(Prod.fst (decO s (Int.toNat p))) : Int), n, Rw.nil, 0) then ∀ (d' : List Value) (m' cap' : Nat), rowOK d' m' cap' = true → zc d' m' = Rw.z Rw.nil ++ rep1 (↑(Prod.fst (decO s (Int.toNat p))) : Int) (Int.toNat (n - 0)) → bif idsLt 420 d' && true then ∀ (x : Tmps), bif goodL [(400, 200)] d' && true && true then R Exit.normal [S r, B rb, .slice (some (.mk 200 0 (some 1))) m' cap', I 0, I n, B true, .pointer (some (.mk 7 0 (some 0)))] [some (.mk [S s, I (p + (↑(Prod.snd (decO s (Int.toNat p))) : Int))] 4611686018427387904 true), some (.mk (rlbL [(400, 200)] d') 5 true)] else False else False else False else False else False else bif decide ((↑(Prod.fst (decO s (Int.toNat p))) : Int) ≥ 97) || true then bif decide ((↑(Prod.fst (decO s (Int.toNat p))) : Int) ≥ 97) && decide ((↑(Prod.fst (decO s (Int.toNat p))) : Int) ≤ 122) then bif decide (IntKind.wrap .i32 ((↑(Prod.fst (decO s (Int.toNat p))) : Int) - 32) ≥ 128) || decide (0 ≤ IntKind.wrap .u8 (IntKind.wrap .i32 ((↑(Prod.fst (decO s (Int.toNat p))) : Int) - 32)) ∧ IntKind.wrap .u8 (IntKind.wrap .i32 ((↑(Prod.fst (decO s (Int.toNat p))) : Int) - 32)) < 256) && (decide (idxZ (bz (ByteArray.mk #[57, 86, 90, 42, 89, 84, 73, 82, 83, 43, 45, 36, 44, 46, 47, 66, 67, 68, 65, 88])) (IntKind.wrap .u8 (IntKind.wrap .i32 ((↑(Prod.fst (decO s (Int.toNat p))) : Int) - 32))) < 0) || true) then bif decide (IntKind.wrap .i32 ((↑(Prod.fst (decO s (Int.toNat p))) : Int) - 32) ≥ 128) || (decide (idxZ (bz (ByteArray.mk #[57, 86, 90, 42, 89, 84, 73, 82, 83, 43, 45, 36, 44, 46, 47, 66, 67, 68, 65, 88])) (IntKind.wrap .u8 (IntKind.wrap .i32 ((↑(Prod.fst (decO s (Int.toNat p))) : Int) - 32))) < 0) || decide (IntKind.wrap .i64 (natO 0 + 1) > 32)) then R Exit.ret [S (ByteArray.mk #[]), B false, .slice none 0 0, I st, I n, B false, .pointer (some (.mk 7 0 (some 0)))] [some (.mk [S s, I (p + (↑(Prod.snd (decO s (Int.toNat p))) : Int))] 4611686018427387904 true), none] else bif LSpec.pre (LSpecA.toLSpec S114_0) (.mk [S s, I (p + (↑(Prod.snd (decO s (Int.toNat p))) : Int))] 4611686018427387904 true, IntKind.wrap .i32 ((↑(Prod.fst (decO s (Int.toNat p))) : Int) - 32), 1, Rw.nil, 0) then ∀ (d' : List Value) (m' cap' : Nat), rowOK d' m' cap' = true → zc d' m' = Rw.z Rw.nil ++ rep1 (IntKind.wrap .i32 ((↑(Prod.fst (decO s (Int.toNat p))) : Int) - 32)) (Int.toNat (1 - 0)) → bif idsLt 420 d' && true then ∀ (x : Tmps), bif goodL [(400, 200)] d' && true && true then R Exit.normal [S r, B rb, .slice (some (.mk 200 0 (some 1))) m' cap', I st, I n, B true, .pointer (some (.mk 7 0 (some 0)))] [some (.mk [S s, I (p + (↑(Prod.snd (decO s (Int.toNat p))) : Int))] 4611686018427387904 true), some (.mk (rlbL [(400, 200)] d') 5 true)] else False else False else False else False else bif decide ((↑(Prod.fst (decO s (Int.toNat p))) : Int) ≥ 128) || decide (0 ≤ IntKind.wrap .u8 (↑(Prod.fst (decO s (Int.toNat p))) : Int) ∧ IntKind.wrap .u8 (↑(Prod.fst (decO s (Int.toNat p))) : Int) < 256) && (decide (idxZ (bz (ByteArray.mk #[57, 86, 90, 42, 89, 84, 73, 82, 83, 43, 45, 36, 44, 46, 47, 66, 67, 68, 65, 88])) (IntKind.wrap .u8 (↑(Prod.fst (decO s (Int.toNat p))) : Int)) < 0) || true) then bif decide ((↑(Prod.fst (decO s (Int.toNat p))) : Int) ≥ 128) || (decide (idxZ (bz (ByteArray.mk #[57, 86, 90, 42, 89, 84, 73, 82, 83, 43, 45, 36, 44, 46, 47, 66, 67, 68, 65, 88])) (IntKind.wrap .u8 (↑(Prod.fst (decO s (Int.toNat p))) : Int)) < 0) || decide (IntKind.wrap .i64 (natO 0 + 1) > 32)) then R Exit.ret [S (ByteArray.mk #[]), B false, .slice none 0 0, I st, I n, B false, .pointer (some (.mk 7 0 (some 0)))] [some (.mk [S s, I (p + (↑(Prod.snd (decO s (Int.toNat p))) : Int))] 4611686018427387904 true), none] else bif LSpec.pre (LSpecA.toLSpec S114_0) (.mk [S s, I (p + (↑(Prod.snd (decO s (Int.toNat p))) : Int))] 4611686018427387904 true, (↑(Prod.fst (decO s (Int.toNat p))) : Int), 1, Rw.nil, 0) then ∀ (d' : List Value) (m' cap' : Nat), rowOK d' m' cap' = true → zc d' m' = Rw.z Rw.nil ++ rep1 (↑(Prod.fst (decO s (Int.toNat p))) : Int) (Int.toNat (1 - 0)) → bif idsLt 420 d' && true then ∀ (x : Tmps), bif goodL [(400, 200)] d' && true && true then R Exit.normal [S r, B rb, .slice (some (.mk 200 0 (some 1))) m' cap', I st, I n, B true, .pointer (some (.mk 7 0 (some 0)))] [some (.mk [S s, I (p + (↑(Prod.snd (decO s (Int.toNat p))) : Int))] 4611686018427387904 true), some (.mk (rlbL [(400, 200)] d') 5 true)] else False else False else False else False else False else False else False else R (Exit.exit 0) [S r, B rb, .slice none 0 0, I st, I n, B f, .pointer (some (.mk 7 0 (some 0)))] [some (.mk [S s, I p] 4611686018427387904 true), none] else False) := by kernel_rfl
theorem r80_0o (r : ByteArray) (rb : Bool) (d : List Value) (m : Nat) (cap : Nat) (st : Int) (n : Int) (f : Bool) (s : ByteArray) (p : Int) (jk : Tmps) (R : Exit → List Value → List (Option Blk) → Prop) : (codeQ Tryz.prog G17 noL Tryz.f188.ntmps (loopOf Tryz.f188 0) (tl S80_0.live (V80_0 (r, rb, .own d m cap, st, n, f, s, p)) jk) (ml S80_0.mid (B80_0 (r, rb, .own d m cap, st, n, f, s, p))) S80_0.n fun e t' m' _ => S80_0.out R e t' m') = ( bif decide (0 ≤ p) then bif decide (p < (↑(ByteArray.size s) : Int)) then bif st == 1 || true then bif st == 1 && (↑(Prod.fst (decO s (Int.toNat p))) : Int) == 41 then bif !decide (n > 0) then bif goodL [(200, 200)] d && true && true then R Exit.ret [S (ByteArray.mk #[]), B false, .slice (some (.mk 200 0 (some 1))) m cap, I 2, I n, B (decide (n > 0)), .pointer (some (.mk 7 0 (some 0)))] [some (.mk [S s, I (p + (↑(Prod.snd (decO s (Int.toNat p))) : Int))] 4611686018427387904 true), some (.mk (rlbL [(200, 200)] d) 5 true)] else False else bif goodL [(200, 200)] d && true && true then R Exit.normal [S r, B rb, .slice (some (.mk 200 0 (some 1))) m cap, I 2, I n, B (decide (n > 0)), .pointer (some (.mk 7 0 (some 0)))] [some (.mk [S s, I (p + (↑(Prod.snd (decO s (Int.toNat p))) : Int))] 4611686018427387904 true), some (.mk (rlbL [(200, 200)] d) 5 true)] else False else bif st == 1 then bif decide (0 ≤ n ∧ n ≤ 32 ∧ 0 ≤ (↑(Prod.fst (decO s (Int.toNat p))) : Int) ∧ (↑(Prod.fst (decO s (Int.toNat p))) : Int) ≤ 2147483647) then bif !Prod.snd (rpZ n (↑(Prod.fst (decO s (Int.toNat p))) : Int)) then bif goodL [(200, 200)] d && true && true then R Exit.ret [S (ByteArray.mk #[]), B false, .slice (some (.mk 200 0 (some 1))) m cap, I st, I (Prod.fst (rpZ n (↑(Prod.fst (decO s (Int.toNat p))) : Int))), B (Prod.snd (rpZ n (↑(Prod.fst (decO s (Int.toNat p))) : Int))), .pointer (some (.mk 7 0 (some 0)))] [some (.mk [S s, I (p + (↑(Prod.snd (decO s (Int.toNat p))) : Int))] 4611686018427387904 true), some (.mk (rlbL [(200, 200)] d) 5 true)] else False else bif goodL [(200, 200)] d && true && true then R Exit.normal [S r, B rb, .slice (some (.mk 200 0 (some 1))) m cap, I st, I (Prod.fst (rpZ n (↑(Prod.fst (decO s (Int.toNat p))) : Int))), B (Prod.snd (rpZ n (↑(Prod.fst (decO s (Int.toNat p))) : Int))), .pointer (some (.mk 7 0 (some 0)))] [some (.mk [S s, I (p + (↑(Prod.snd (decO s (Int.toNat p))) : Int))] 4611686018427387904 true), some (.mk (rlbL [(200, 200)] d) 5 true)] else False else False else bif (↑(Prod.fst (decO s (Int.toNat p))) : Int) == 41 || (st == 2 || true) then bif (↑(Prod.fst (decO s (Int.toNat p))) : Int) == 41 || st == 2 && (↑(Prod.fst (decO s (Int.toNat p))) : Int) == 40 then bif goodL [(200, 200)] d && true && true then R Exit.ret [S (ByteArray.mk #[]), B false, .slice (some (.mk 200 0 (some 1))) m cap, I st, I n, B false, .pointer (some (.mk 7 0 (some 0)))] [some (.mk [S s, I (p + (↑(Prod.snd (decO s (Int.toNat p))) : Int))] 4611686018427387904 true), some (.mk (rlbL [(200, 200)] d) 5 true)] else False else bif (↑(Prod.fst (decO s (Int.toNat p))) : Int) == 40 then bif !f then bif goodL [(200, 200)] d && true && true then R Exit.ret [S (ByteArray.mk #[]), B false, .slice (some (.mk 200 0 (some 1))) m cap, I 1, I 0, B f, .pointer (some (.mk 7 0 (some 0)))] [some (.mk [S s, I (p + (↑(Prod.snd (decO s (Int.toNat p))) : Int))] 4611686018427387904 true), some (.mk (rlbL [(200, 200)] d) 5 true)] else False else bif goodL [(200, 200)] d && true && true then R Exit.normal [S r, B rb, .slice (some (.mk 200 0 (some 1))) m cap, I 1, I 0, B f, .pointer (some (.mk 7 0 (some 0)))] [some (.mk [S s, I (p + (↑(Prod.snd (decO s (Int.toNat p))) : Int))] 4611686018427387904 true), some (.mk (rlbL [(200, 200)] d) 5 true)] else False else bif st == 2 then bif decide ((↑(Prod.fst (decO s (Int.toNat p))) : Int) ≥ 97) || true then bif decide ((↑(Prod.fst (decO s (Int.toNat p))) : Int) ≥ 97) && decide ((↑(Prod.fst (decO s (Int.toNat p))) : Int) ≤ 122) then bif decide (IntKind.wrap .i32 ((↑(Prod.fst (decO s (Int.toNat p))) : Int) - 32) ≥ 128) || decide (0 ≤ IntKind.wrap .u8 (IntKind.wrap .i32 ((↑(Prod.fst (decO s (Int.toNat p))) : Int) - 32)) ∧ IntKind.wrap .u8 (IntKind.wrap .i32 ((↑(Prod.fst (decO s (Int.toNat p))) : Int) - 32)) < 256) && (decide (idxZ (bz (ByteArray.mk #[57, 86, 90, 42, 89, 84, 73, 82, 83, 43, 45, 36, 44, 46, 47, 66, 67, 68, 65, 88])) (IntKind.wrap .u8 (IntKind.wrap .i32 ((↑(Prod.fst (decO s (Int.toNat p))) : Int) - 32))) < 0) || true) then bif decide (IntKind.wrap .i32 ((↑(Prod.fst (decO s (Int.toNat p))) : Int) - 32) ≥ 128) || (decide (idxZ (bz (ByteArray.mk #[57, 86, 90, 42, 89, 84, 73, 82, 83, 43, 45, 36, 44, 46, 47, 66, 67, 68, 65, 88])) (IntKind.wrap .u8 (IntKind.wrap .i32 ((↑(Prod.fst (decO s (Int.toNat p))) : Int) - 32))) < 0) || decide (IntKind.wrap .i64 (natO m + n) > 32)) then bif goodL [] d && true && true then R Exit.ret [S (ByteArray.mk #[]), B false, .slice none 0 0, I 0, I n, B false, .pointer (some (.mk 7 0 (some 0)))] [some (.mk [S s, I (p + (↑(Prod.snd (decO s (Int.toNat p))) : Int))] 4611686018427387904 true), some (.mk (rlbL [] d) 5 true)] else False else bif goodL [(200, 400)] d && true && true && (idsLt 420 (rlbL [(200, 400)] d) && true) then bif LSpec.pre (LSpecA.toLSpec S114_0) (.mk [S s, I (p + (↑(Prod.snd (decO s (Int.toNat p))) : Int))] 4611686018427387904 true, IntKind.wrap .i32 ((↑(Prod.fst (decO s (Int.toNat p))) : Int) - 32), n, Rw.own (rlbL [(200, 400)] d) m cap, 0) then ∀ (d' : List Value) (m' cap' : Nat), rowOK d' m' cap' = true → zc d' m' = Rw.z (Rw.own (rlbL [(200, 400)] d) m cap) ++ rep1 (IntKind.wrap .i32 ((↑(Prod.fst (decO s (Int.toNat p))) : Int) - 32)) (Int.toNat (n - 0)) → bif idsLt 420 d' && true then ∀ (x : Tmps), bif goodL [(400, 200)] d' && true && true then R Exit.normal [S r, B rb, .slice (some (.mk 200 0 (some 1))) m' cap', I 0, I n, B true, .pointer (some (.mk 7 0 (some 0)))] [some (.mk [S s, I (p + (↑(Prod.snd (decO s (Int.toNat p))) : Int))] 4611686018427387904 true), some (.mk (rlbL [(400, 200)] d') 5 true)] else False else False else False else False else False else bif decide ((↑(Prod.fst (decO s (Int.toNat p))) : Int) ≥ 128) || decide (0 ≤ IntKind.wrap .u8 (↑(Prod.fst (decO s (Int.toNat p))) : Int) ∧ IntKind.wrap .u8 (↑(Prod.fst (decO s (Int.toNat p))) : Int) < 256) && (decide (idxZ (bz (ByteArray.mk #[57, 86, 90, 42, 89, 84, 73, 82, 83, 43, 45, 36, 44, 46, 47, 66, 67, 68, 65, 88])) (IntKind.wrap .u8 (↑(Prod.fst (decO s (Int.toNat p))) : Int)) < 0) || true) then bif decide ((↑(Prod.fst (decO s (Int.toNat p))) : Int) ≥ 128) || (decide (idxZ (bz (ByteArray.mk #[57, 86, 90, 42, 89, 84, 73, 82, 83, 43, 45, 36, 44, 46, 47, 66, 67, 68, 65, 88])) (IntKind.wrap .u8 (↑(Prod.fst (decO s (Int.toNat p))) : Int)) < 0) || decide (IntKind.wrap .i64 (natO m + n) > 32)) then bif goodL [] d && true && true then R Exit.ret [S (ByteArray.mk #[]), B false, .slice none 0 0, I 0, I n, B false, .pointer (some (.mk 7 0 (some 0)))] [some (.mk [S s, I (p + (↑(Prod.snd (decO s (Int.toNat p))) : Int))] 4611686018427387904 true), some (.mk (rlbL [] d) 5 true)] else False else bif goodL [(200, 400)] d && true && true && (idsLt 420 (rlbL [(200, 400)] d) && true) then bif LSpec.pre (LSpecA.toLSpec S114_0) (.mk [S s, I (p + (↑(Prod.snd (decO s (Int.toNat p))) : Int))] 4611686018427387904 true, (↑(Prod.fst (decO s (Int.toNat p))) : Int), n, Rw.own (rlbL [(200, 400)] d) m cap, 0) then ∀ (d' : List Value) (m' cap' : Nat), rowOK d' m' cap' = true → zc d' m' = Rw.z (Rw.own (rlbL [(200, 400)] d) m cap) ++ rep1 (↑(Prod.fst (decO s (Int.toNat p))) : Int) (Int.toNat (n - 0)) → bif idsLt 420 d' && true then ∀ (x : Tmps), bif goodL [(400, 200)] d' && true && true then R Exit.normal [S r, B rb, .slice (some (.mk 200 0 (some 1))) m' cap', I 0, I n, B true, .pointer (some (.mk 7 0 (some 0)))] [some (.mk [S s, I (p + (↑(Prod.snd (decO s (Int.toNat p))) : Int))] 4611686018427387904 true), some (.mk (rlbL [(400, 200)] d') 5 true)] else False else False else False else False else False else False else bif decide ((↑(Prod.fst (decO s (Int.toNat p))) : Int) ≥ 97) || true then bif decide ((↑(Prod.fst (decO s (Int.toNat p))) : Int) ≥ 97) && decide ((↑(Prod.fst (decO s (Int.toNat p))) : Int) ≤ 122) then bif decide (IntKind.wrap .i32 ((↑(Prod.fst (decO s (Int.toNat p))) : Int) - 32) ≥ 128) || decide (0 ≤ IntKind.wrap .u8 (IntKind.wrap .i32 ((↑(Prod.fst (decO s (Int.toNat p))) : Int) - 32)) ∧ IntKind.wrap .u8 (IntKind.wrap .i32 ((↑(Prod.fst (decO s (Int.toNat p))) : Int) - 32)) < 256) && (decide (idxZ (bz (ByteArray.mk #[57, 86, 90, 42, 89, 84, 73, 82, 83, 43, 45, 36, 44, 46, 47, 66, 67, 68, 65, 88])) (IntKind.wrap .u8 (IntKind.wrap .i32 ((↑(Prod.fst (decO s (Int.toNat p))) : Int) - 32))) < 0) || true) then bif decide (IntKind.wrap .i32 ((↑(Prod.fst (decO s (Int.toNat p))) : Int) - 32) ≥ 128) || (decide (idxZ (bz (ByteArray.mk #[57, 86, 90, 42, 89, 84, 73, 82, 83, 43, 45, 36, 44, 46, 47, 66, 67, 68, 65, 88])) (IntKind.wrap .u8 (IntKind.wrap .i32 ((↑(Prod.fst (decO s (Int.toNat p))) : Int) - 32))) < 0) || decide (IntKind.wrap .i64 (natO m + 1) > 32)) then bif goodL [] d && true && true then R Exit.ret [S (ByteArray.mk #[]), B false, .slice none 0 0, I st, I n, B false, .pointer (some (.mk 7 0 (some 0)))] [some (.mk [S s, I (p + (↑(Prod.snd (decO s (Int.toNat p))) : Int))] 4611686018427387904 true), some (.mk (rlbL [] d) 5 true)] else False else bif goodL [(200, 400)] d && true && true && (idsLt 420 (rlbL [(200, 400)] d) && true) then bif LSpec.pre (LSpecA.toLSpec S114_0) (.mk [S s, I (p + (↑(Prod.snd (decO s (Int.toNat p))) : Int))] 4611686018427387904 true, IntKind.wrap .i32 ((↑(Prod.fst (decO s (Int.toNat p))) : Int) - 32), 1, Rw.own (rlbL [(200, 400)] d) m cap, 0) then ∀ (d' : List Value) (m' cap' : Nat), rowOK d' m' cap' = true → zc d' m' = Rw.z (Rw.own (rlbL [(200, 400)] d) m cap) ++ rep1 (IntKind.wrap .i32 ((↑(Prod.fst (decO s (Int.toNat p))) : Int) - 32)) (Int.toNat (1 - 0)) → bif idsLt 420 d' && true then ∀ (x : Tmps), bif goodL [(400, 200)] d' && true && true then R Exit.normal [S r, B rb, .slice (some (.mk 200 0 (some 1))) m' cap', I st, I n, B true, .pointer (some (.mk 7 0 (some 0)))] [some (.mk [S s, I (p + (↑(Prod.snd (decO s (Int.toNat p))) : Int))] 4611686018427387904 true), some (.mk (rlbL [(400, 200)] d') 5 true)] else False else False else False else False else False else bif decide ((↑(Prod.fst (decO s (Int.toNat p))) : Int) ≥ 128) || decide (0 ≤ IntKind.wrap .u8 (↑(Prod.fst (decO s (Int.toNat p))) : Int) ∧ IntKind.wrap .u8 (↑(Prod.fst (decO s (Int.toNat p))) : Int) < 256) && (decide (idxZ (bz (ByteArray.mk #[57, 86, 90, 42, 89, 84, 73, 82, 83, 43, 45, 36, 44, 46, 47, 66, 67, 68, 65, 88])) (IntKind.wrap .u8 (↑(Prod.fst (decO s (Int.toNat p))) : Int)) < 0) || true) then bif decide ((↑(Prod.fst (decO s (Int.toNat p))) : Int) ≥ 128) || (decide (idxZ (bz (ByteArray.mk #[57, 86, 90, 42, 89, 84, 73, 82, 83, 43, 45, 36, 44, 46, 47, 66, 67, 68, 65, 88])) (IntKind.wrap .u8 (↑(Prod.fst (decO s (Int.toNat p))) : Int)) < 0) || decide (IntKind.wrap .i64 (natO m + 1) > 32)) then bif goodL [] d && true && true then R Exit.ret [S (ByteArray.mk #[]), B false, .slice none 0 0, I st, I n, B false, .pointer (some (.mk 7 0 (some 0)))] [some (.mk [S s, I (p + (↑(Prod.snd (decO s (Int.toNat p))) : Int))] 4611686018427387904 true), some (.mk (rlbL [] d) 5 true)] else False else bif goodL [(200, 400)] d && true && true && (idsLt 420 (rlbL [(200, 400)] d) && true) then bif LSpec.pre (LSpecA.toLSpec S114_0) (.mk [S s, I (p + (↑(Prod.snd (decO s (Int.toNat p))) : Int))] 4611686018427387904 true, (↑(Prod.fst (decO s (Int.toNat p))) : Int), 1, Rw.own (rlbL [(200, 400)] d) m cap, 0) then ∀ (d' : List Value) (m' cap' : Nat), rowOK d' m' cap' = true → zc d' m' = Rw.z (Rw.own (rlbL [(200, 400)] d) m cap) ++ rep1 (↑(Prod.fst (decO s (Int.toNat p))) : Int) (Int.toNat (1 - 0)) → bif idsLt 420 d' && true then ∀ (x : Tmps), bif goodL [(400, 200)] d' && true && true then R Exit.normal [S r, B rb, .slice (some (.mk 200 0 (some 1))) m' cap', I st, I n, B true, .pointer (some (.mk 7 0 (some 0)))] [some (.mk [S s, I (p + (↑(Prod.snd (decO s (Int.toNat p))) : Int))] 4611686018427387904 true), some (.mk (rlbL [(400, 200)] d') 5 true)] else False else False else False else False else False else False else False else False else bif goodL [(200, 200)] d && true && true then R (Exit.exit 0) [S r, B rb, .slice (some (.mk 200 0 (some 1))) m cap, I st, I n, B f, .pointer (some (.mk 7 0 (some 0)))] [some (.mk [S s, I p] 4611686018427387904 true), some (.mk (rlbL [(200, 200)] d) 5 true)] else False else False) := by kernel_rfl
theorem l80_0 : LOKf Tryz.prog (oneL 0 S80_0.hA) Tryz.f188 := by
 refine lokf_one (h := S80_0.hA) (by kernel_rfl) (loop_specA ok_G17 hmix (by kernel_rfl) (lok_none _) S80_0 V80_0 B80_0 (fun (r, rb, o, st, n, f, s, p) => (s.size - p).toNat) ?_ ?_ ?_)
 ·intro vs bs s h
  simp only [S80_0] at h
  split at h
  all_goals first | (cases h; exact ⟨rfl, rfl⟩) | cases h | (split at h <;> first | (rename_i hq; cases h; have hq := Nat.eq_of_beq_eq_true hq; subst hq; exact ⟨rfl, rfl⟩) | cases h)
 ·exact fun ⟨r, rb, o, st, n, f, s, p⟩ hp => by
   simp only [S80_0, Bool.and_eq_true] at hp
   cases o with
   | nil => simp [V80_0, B80_0, S80_0, idsLt, idsLtB, idsL, ids, Rw.v, Rw.b]
   | own d m cap => simp [V80_0, B80_0, S80_0, idsLt, idsLtB, idsL, ids, Rw.v, Rw.b, ids_plainL (rowOK_iff.1 hp.1).plain]
 ·intro ⟨r, rb, o, st, n, f, s, p⟩ jk Z hp hf
  simp only [S80_0] at hp hf
  cases o with
  | nil =>
   rw [r80_0n]
   simp only [Bool.and_eq_true, decide_eq_true_eq] at hp
   obtain ⟨-, rfl, hp⟩ := hp
   simp only [Rw.z] at hp hf
   refine c_t (decide_eq_true hp.1) (cond_intro (fun h => ?_) (fun h => ?_))
   ·have h := of_decide_eq_true h
    obtain ⟨k1, k2, k3, k4⟩ := dec_step hp.1 h
    simp only [k4] at hf
    clear k4
    generalize ((decO s p.toNat).1 : Int) = c at k1 k2 hf ⊢
    generalize ((decO s p.toNat).2 : Int) = k at k3 hf ⊢
    have mu : (s.size - (p + k)).toNat < (s.size - p).toNat := by omega
    refine c_t (by simp) (cond_intro (fun a => ?_) (fun a => ?_))
    ·have a : st = 1 ∧ c = 41 := by simpa using a
     refine cond_intro (fun b => ?_) (fun b => ?_)
     ·have b : ¬ 0 < n := by simpa using b
      exact (hf.1 (x2 a.1 a.2 b)).1 _ _ _ _
     ·have b : 0 < n := by simpa using b
      rw [x1 a.1 a.2 b] at hf
      rw [decide_eq_true b]
      exact ⟨(r, rb, .nil, 2, n, true, s, p + k), rfl, rfl, by simp only [S80_0, Bool.and_eq_true, decide_eq_true_eq]; exact ⟨rfl, trivial, by omega, hp.2.1, .inr (.inr ⟨trivial, b⟩), by omega, by omega, Nat.zero_le _⟩, mu, hf⟩
    ·refine cond_intro (fun b => c_t (decide_eq_true ⟨by omega, by omega, k1, k2⟩) ?_) (fun b => ?_)
     ·have b : st = 1 := by simpa using b
      have a : ¬ c = 41 := fun q => by rw [b, q] at a; cases a
      rw [x34 b a] at hf
      refine cond_intro (fun g => ?_) (fun g => ?_)
      ·have g : (rpZ n c).2 = false := by simpa using g
       rw [if_neg (by rw [g]; simp)] at hf
       exact (hf.1 rfl).1 _ _ _ _
      ·have g : (rpZ n c).2 = true := by simpa using g
       have gr := rp_rng hp.2.2.2.1 g
       rw [if_pos g] at hf
       rw [g, b]
       exact ⟨(r, rb, .nil, 1, (rpZ n c).1, true, s, p + k), rfl, rfl, by simp only [S80_0, Bool.and_eq_true, decide_eq_true_eq]; exact ⟨rfl, trivial, by omega, hp.2.1, .inr (.inl trivial), by omega, by omega, Nat.zero_le _⟩, mu, hf⟩
     ·have b : ¬ st = 1 := by simpa using b
      have hst : st = 0 ∨ st = 2 ∧ 0 < n := by omega
      refine c_t (by simp) (cond_intro (fun g => ?_) (fun g => ?_))
      ·have g : c = 41 ∨ st = 2 ∧ c = 40 := by simpa using g
       exact (hf.1 (x5 b g)).1 _ _ _ _
      ·have g : ¬ (c = 41 ∨ st = 2 ∧ c = 40) := by
        intro q
        have : (c == 41 || st == 2 && c == 40) = true := by simpa using q
        rw [this] at g
        cases g
       refine cond_intro (fun q => c_f rfl (?_)) (fun q => ?_)
       ·have q : c = 40 := by simpa using q
        rw [x6 b g q] at hf
        exact ⟨(r, rb, .nil, 1, 0, true, s, p + k), rfl, rfl, by simp only [S80_0, Bool.and_eq_true, decide_eq_true_eq]; exact ⟨rfl, trivial, by omega, hp.2.1, .inr (.inl trivial), by omega, by omega, Nat.zero_le _⟩, mu, hf⟩
       ·have q : ¬ c = 40 := by simpa using q
        rw [x7 b g q] at hf
        refine cond_intro (fun v => ?_) (fun v => ?_)
        ·have v : st = 2 := by simpa using v
         rw [if_pos v] at hf
         refine c_t (by simp) (cond_intro (fun y => ?_) (fun y => ?_))
         ·have y : 97 ≤ c ∧ c ≤ 122 := by simpa using y
          have hu : upZ c = c - 32 := by unfold upZ; rw [if_pos y]
          rw [hu] at hf
          rw [w32 (by omega)]
          refine put_nil ?_ ?_ (fun e => ?_) (fun e d' m' cap' r1 r2 => ?_)
          ·omega
          ·omega
          ·rw [if_neg e] at hf
           exact (hf.1 rfl).1 _ _ _ _
          ·rw [r1.rlb]
           rw [if_pos e, ← r2, xp_n0 _ 0 n] at hf
           have hl := zc_length r1
           have hl2 := congrArg List.length r2
           simp only [List.length_append, rep1, List.length_replicate] at hl2
           simp only [List.length_nil] at e hl2
           exact ⟨(r, rb, .own d' m' cap', 0, n, true, s, p + k), rfl, rfl, by simp only [S80_0, Bool.and_eq_true, decide_eq_true_eq]; exact ⟨rowOK_iff.2 r1, trivial, by omega, hp.2.1, .inl trivial, hp.2.2.2.1, hp.2.2.2.2.1, by simp only [Rw.z, hl]; omega⟩, mu, hf⟩
         ·have y : ¬ (97 ≤ c ∧ c ≤ 122) := by
           intro q
           have : (decide (c ≥ 97) && decide (c ≤ 122)) = true := by simpa using q
           rw [this] at y
           cases y
          have hu : upZ c = c := by unfold upZ; rw [if_neg y]
          rw [hu] at hf
          refine put_nil ?_ ?_ (fun e => ?_) (fun e d' m' cap' r1 r2 => ?_)
          ·omega
          ·omega
          ·rw [if_neg e] at hf
           exact (hf.1 rfl).1 _ _ _ _
          ·rw [r1.rlb]
           rw [if_pos e, ← r2, xp_n0 _ 0 n] at hf
           have hl := zc_length r1
           have hl2 := congrArg List.length r2
           simp only [List.length_append, rep1, List.length_replicate] at hl2
           simp only [List.length_nil] at e hl2
           exact ⟨(r, rb, .own d' m' cap', 0, n, true, s, p + k), rfl, rfl, by simp only [S80_0, Bool.and_eq_true, decide_eq_true_eq]; exact ⟨rowOK_iff.2 r1, trivial, by omega, hp.2.1, .inl trivial, hp.2.2.2.1, hp.2.2.2.2.1, by simp only [Rw.z, hl]; omega⟩, mu, hf⟩
        ·have v : ¬ st = 2 := by simpa using v
         have v0 : st = 0 := by omega
         rw [if_neg v] at hf
         refine c_t (by simp) (cond_intro (fun y => ?_) (fun y => ?_))
         ·have y : 97 ≤ c ∧ c ≤ 122 := by simpa using y
          have hu : upZ c = c - 32 := by unfold upZ; rw [if_pos y]
          rw [hu] at hf
          rw [w32 (by omega), v0]
          refine put_nil ?_ ?_ (fun e => ?_) (fun e d' m' cap' r1 r2 => ?_)
          ·omega
          ·omega
          ·rw [if_neg e] at hf
           exact (hf.1 rfl).1 _ _ _ _
          ·rw [r1.rlb]
           rw [if_pos e, ← r2, xp_n0 _ 0 n] at hf
           have hl := zc_length r1
           have hl2 := congrArg List.length r2
           simp only [List.length_append, rep1, List.length_replicate] at hl2
           simp only [List.length_nil] at e hl2
           exact ⟨(r, rb, .own d' m' cap', 0, n, true, s, p + k), rfl, rfl, by simp only [S80_0, Bool.and_eq_true, decide_eq_true_eq]; exact ⟨rowOK_iff.2 r1, trivial, by omega, hp.2.1, .inl trivial, hp.2.2.2.1, hp.2.2.2.2.1, by simp only [Rw.z, hl]; omega⟩, mu, hf⟩
         ·have y : ¬ (97 ≤ c ∧ c ≤ 122) := by
           intro q
           have : (decide (c ≥ 97) && decide (c ≤ 122)) = true := by simpa using q
           rw [this] at y
           cases y
          have hu : upZ c = c := by unfold upZ; rw [if_neg y]
          rw [hu] at hf
          rw [v0]
          refine put_nil ?_ ?_ (fun e => ?_) (fun e d' m' cap' r1 r2 => ?_)
          ·omega
          ·omega
          ·rw [if_neg e] at hf
           exact (hf.1 rfl).1 _ _ _ _
          ·rw [r1.rlb]
           rw [if_pos e, ← r2, xp_n0 _ 0 n] at hf
           have hl := zc_length r1
           have hl2 := congrArg List.length r2
           simp only [List.length_append, rep1, List.length_replicate] at hl2
           simp only [List.length_nil] at e hl2
           exact ⟨(r, rb, .own d' m' cap', 0, n, true, s, p + k), rfl, rfl, by simp only [S80_0, Bool.and_eq_true, decide_eq_true_eq]; exact ⟨rowOK_iff.2 r1, trivial, by omega, hp.2.1, .inl trivial, hp.2.2.2.1, hp.2.2.2.2.1, by simp only [Rw.z, hl]; omega⟩, mu, hf⟩
   ·have h := of_decide_eq_false h
    rw [bz_end (by omega)] at hf
    exact hf.2.1 st n _ p rfl
  | own d m cap =>
   rw [r80_0o]
   simp only [Bool.and_eq_true, decide_eq_true_eq] at hp
   obtain ⟨hR, rfl, hp⟩ := hp
   have hr := rowOK_iff.1 hR
   have hzl := zc_length hr
   simp only [Rw.z] at hp hf
   have hL : (Rw.own d m cap).z.length ≤ 32 := by simp only [Rw.z]; exact hp.2.2.2.2.2
   have hm : m ≤ 32 := by have := hp.2.2.2.2.2; omega
   simp only [hr.rlb]
   have hg : ∀ ps, (goodL ps d && true && true) = true := fun ps => by rw [hr.good]; rfl
   refine c_t (decide_eq_true hp.1) (cond_intro (fun h => ?_) (fun h => ?_))
   ·have h := of_decide_eq_true h
    obtain ⟨k1, k2, k3, k4⟩ := dec_step hp.1 h
    simp only [k4] at hf
    clear k4
    generalize ((decO s p.toNat).1 : Int) = c at k1 k2 hf ⊢
    generalize ((decO s p.toNat).2 : Int) = k at k3 hf ⊢
    have mu : (s.size - (p + k)).toNat < (s.size - p).toNat := by omega
    refine c_t (by simp) (cond_intro (fun a => ?_) (fun a => ?_))
    ·have a : st = 1 ∧ c = 41 := by simpa using a
     refine cond_intro (fun b => c_t (hg _) ?_) (fun b => c_t (hg _) ?_)
     ·have b : ¬ 0 < n := by simpa using b
      exact (hf.1 (x2 a.1 a.2 b)).2.1 d m cap _ _ _ _ hR
     ·have b : 0 < n := by simpa using b
      rw [x1 a.1 a.2 b] at hf
      rw [decide_eq_true b]
      exact ⟨(r, rb, .own d m cap, 2, n, true, s, p + k), rfl, rfl, by simp only [S80_0, Bool.and_eq_true, decide_eq_true_eq]; exact ⟨hR, trivial, by omega, hp.2.1, .inr (.inr ⟨trivial, b⟩), by omega, by omega, hL⟩, mu, hf⟩
    ·refine cond_intro (fun b => c_t (decide_eq_true ⟨by omega, by omega, k1, k2⟩) ?_) (fun b => ?_)
     ·have b : st = 1 := by simpa using b
      have a : ¬ c = 41 := fun q => by rw [b, q] at a; cases a
      rw [x34 b a] at hf
      refine cond_intro (fun g => c_t (hg _) ?_) (fun g => c_t (hg _) ?_)
      ·have g : (rpZ n c).2 = false := by simpa using g
       rw [if_neg (by rw [g]; simp)] at hf
       exact (hf.1 rfl).2.1 d m cap _ _ _ _ hR
      ·have g : (rpZ n c).2 = true := by simpa using g
       have gr := rp_rng hp.2.2.2.1 g
       rw [if_pos g] at hf
       rw [g, b]
       exact ⟨(r, rb, .own d m cap, 1, (rpZ n c).1, true, s, p + k), rfl, rfl, by simp only [S80_0, Bool.and_eq_true, decide_eq_true_eq]; exact ⟨hR, trivial, by omega, hp.2.1, .inr (.inl trivial), by omega, by omega, hL⟩, mu, hf⟩
     ·have b : ¬ st = 1 := by simpa using b
      have hst : st = 0 ∨ st = 2 ∧ 0 < n := by omega
      refine c_t (by simp) (cond_intro (fun g => c_t (hg _) ?_) (fun g => ?_))
      ·have g : c = 41 ∨ st = 2 ∧ c = 40 := by simpa using g
       exact (hf.1 (x5 b g)).2.1 d m cap _ _ _ _ hR
      ·have g : ¬ (c = 41 ∨ st = 2 ∧ c = 40) := by
        intro q
        have : (c == 41 || st == 2 && c == 40) = true := by simpa using q
        rw [this] at g
        cases g
       refine cond_intro (fun q => c_f rfl (c_t (hg _) ?_)) (fun q => ?_)
       ·have q : c = 40 := by simpa using q
        rw [x6 b g q] at hf
        exact ⟨(r, rb, .own d m cap, 1, 0, true, s, p + k), rfl, rfl, by simp only [S80_0, Bool.and_eq_true, decide_eq_true_eq]; exact ⟨hR, trivial, by omega, hp.2.1, .inr (.inl trivial), by omega, by omega, hL⟩, mu, hf⟩
       ·have q : ¬ c = 40 := by simpa using q
        rw [x7 b g q] at hf
        refine cond_intro (fun v => ?_) (fun v => ?_)
        ·have v : st = 2 := by simpa using v
         rw [if_pos v] at hf
         refine c_t (by simp) (cond_intro (fun y => ?_) (fun y => ?_))
         ·have y : 97 ≤ c ∧ c ≤ 122 := by simpa using y
          have hu : upZ c = c - 32 := by unfold upZ; rw [if_pos y]
          rw [hu] at hf
          rw [w32 (by omega)]
          refine put_own hr hm ?_ ?_ (fun e => ?_) (fun e d' m' cap' r1 r2 => ?_)
          ·omega
          ·omega
          ·rw [if_neg e] at hf
           exact (hf.1 rfl).2.2 d _ _ _ _ hr.plain
          ·rw [r1.rlb]
           rw [if_pos e, ← r2, xp_n0 _ 0 n] at hf
           have hl := zc_length r1
           have hl2 := congrArg List.length r2
           simp only [List.length_append, rep1, List.length_replicate] at hl2
           simp only [hzl] at e hl2
           exact ⟨(r, rb, .own d' m' cap', 0, n, true, s, p + k), rfl, rfl, by simp only [S80_0, Bool.and_eq_true, decide_eq_true_eq]; exact ⟨rowOK_iff.2 r1, trivial, by omega, hp.2.1, .inl trivial, hp.2.2.2.1, hp.2.2.2.2.1, by simp only [Rw.z, hl]; omega⟩, mu, hf⟩
         ·have y : ¬ (97 ≤ c ∧ c ≤ 122) := by
           intro q
           have : (decide (c ≥ 97) && decide (c ≤ 122)) = true := by simpa using q
           rw [this] at y
           cases y
          have hu : upZ c = c := by unfold upZ; rw [if_neg y]
          rw [hu] at hf
          refine put_own hr hm ?_ ?_ (fun e => ?_) (fun e d' m' cap' r1 r2 => ?_)
          ·omega
          ·omega
          ·rw [if_neg e] at hf
           exact (hf.1 rfl).2.2 d _ _ _ _ hr.plain
          ·rw [r1.rlb]
           rw [if_pos e, ← r2, xp_n0 _ 0 n] at hf
           have hl := zc_length r1
           have hl2 := congrArg List.length r2
           simp only [List.length_append, rep1, List.length_replicate] at hl2
           simp only [hzl] at e hl2
           exact ⟨(r, rb, .own d' m' cap', 0, n, true, s, p + k), rfl, rfl, by simp only [S80_0, Bool.and_eq_true, decide_eq_true_eq]; exact ⟨rowOK_iff.2 r1, trivial, by omega, hp.2.1, .inl trivial, hp.2.2.2.1, hp.2.2.2.2.1, by simp only [Rw.z, hl]; omega⟩, mu, hf⟩
        ·have v : ¬ st = 2 := by simpa using v
         have v0 : st = 0 := by omega
         rw [if_neg v] at hf
         refine c_t (by simp) (cond_intro (fun y => ?_) (fun y => ?_))
         ·have y : 97 ≤ c ∧ c ≤ 122 := by simpa using y
          have hu : upZ c = c - 32 := by unfold upZ; rw [if_pos y]
          rw [hu] at hf
          rw [w32 (by omega), v0]
          refine put_own hr hm ?_ ?_ (fun e => ?_) (fun e d' m' cap' r1 r2 => ?_)
          ·omega
          ·omega
          ·rw [if_neg e] at hf
           exact (hf.1 rfl).2.2 d _ _ _ _ hr.plain
          ·rw [r1.rlb]
           rw [if_pos e, ← r2, xp_n0 _ 0 n] at hf
           have hl := zc_length r1
           have hl2 := congrArg List.length r2
           simp only [List.length_append, rep1, List.length_replicate] at hl2
           simp only [hzl] at e hl2
           exact ⟨(r, rb, .own d' m' cap', 0, n, true, s, p + k), rfl, rfl, by simp only [S80_0, Bool.and_eq_true, decide_eq_true_eq]; exact ⟨rowOK_iff.2 r1, trivial, by omega, hp.2.1, .inl trivial, hp.2.2.2.1, hp.2.2.2.2.1, by simp only [Rw.z, hl]; omega⟩, mu, hf⟩
         ·have y : ¬ (97 ≤ c ∧ c ≤ 122) := by
           intro q
           have : (decide (c ≥ 97) && decide (c ≤ 122)) = true := by simpa using q
           rw [this] at y
           cases y
          have hu : upZ c = c := by unfold upZ; rw [if_neg y]
          rw [hu] at hf
          rw [v0]
          refine put_own hr hm ?_ ?_ (fun e => ?_) (fun e d' m' cap' r1 r2 => ?_)
          ·omega
          ·omega
          ·rw [if_neg e] at hf
           exact (hf.1 rfl).2.2 d _ _ _ _ hr.plain
          ·rw [r1.rlb]
           rw [if_pos e, ← r2, xp_n0 _ 0 n] at hf
           have hl := zc_length r1
           have hl2 := congrArg List.length r2
           simp only [List.length_append, rep1, List.length_replicate] at hl2
           simp only [hzl] at e hl2
           exact ⟨(r, rb, .own d' m' cap', 0, n, true, s, p + k), rfl, rfl, by simp only [S80_0, Bool.and_eq_true, decide_eq_true_eq]; exact ⟨rowOK_iff.2 r1, trivial, by omega, hp.2.1, .inl trivial, hp.2.2.2.1, hp.2.2.2.2.1, by simp only [Rw.z, hl]; omega⟩, mu, hf⟩
   ·have h := of_decide_eq_false h
    rw [bz_end (by omega)] at hf
    exact c_t (hg _) (hf.2.2 d m cap st n _ p hR rfl)
def s80 (s : ByteArray) : Bool × Value := (decide (s.size ≤ 9223372036854775807), .tuple ⟨[.string (sz (xpGo (bz s) 0 0 []).1), .bool (exOK (bz s))]⟩)
theorem fn80 : Fn1 Tryz.prog 188 Tryz.f188 := ⟨Tryz.func188, by kernel_rfl, by kernel_rfl, by kernel_rfl⟩
theorem v80 (s : ByteArray) (R : Value → Prop) : bodyQ Tryz.prog G17 (oneL 0 S80_0.hA) Tryz.f188 [Enc.enc s] (fun _ => none) 0 (fun v _ _ => R v) = ( bif LSpec.pre (LSpecA.toLSpec S80_0) (ByteArray.mk #[], false, Rw.nil, 0, 0, true, s, 0) then (xpGo (List.drop (Int.toNat 0) (bz s)) 0 0 (Rw.z Rw.nil) = ([], false) → (∀ (st' n' : Int) (f' : Bool) (p' : Int) (x : Tmps), R (.tuple (.mk [S (ByteArray.mk #[]), B false]))) ∧ (∀ (d' : List Value) (m' cap' : Nat) (st' n' : Int) (f' : Bool) (p' : Int), rowOK d' m' cap' = true → bif idsLt 210 d' && true then ∀ (x : Tmps), R (.tuple (.mk [S (ByteArray.mk #[]), B false])) else False) ∧ ∀ (d' : List Value) (st' n' : Int) (f' : Bool) (p' : Int), plainL d' = true → bif idsLt 210 d' && true then ∀ (x : Tmps), R (.tuple (.mk [S (ByteArray.mk #[]), B false])) else False) ∧ (∀ (st' n' : Int) (f' : Bool) (p' : Int), xpGo (List.drop (Int.toNat 0) (bz s)) 0 0 (Rw.z Rw.nil) = ([], decide (st' = 0)) → ∀ (x : Tmps), bif st' == 0 || true then R (.tuple (.mk [S (bif st' == 0 then ByteArray.empty else ByteArray.empty), B (st' == 0 && decide (natO 0 > 0))])) else False) ∧ ∀ (d' : List Value) (m' cap' : Nat) (st' n' : Int) (f' : Bool) (p' : Int), rowOK d' m' cap' = true → xpGo (List.drop (Int.toNat 0) (bz s)) 0 0 (Rw.z Rw.nil) = (zc d' m', decide (st' = 0)) → bif idsLt 210 d' && true then ∀ (x : Tmps), bif bytesOK d' 0 m' && (st' == 0 || true) then R (.tuple (.mk [S (bif st' == 0 then bytesOf d' 0 m' else bytesOf d' 0 m'), B (st' == 0 && decide (natO m' > 0))])) else False else False else False) := by kernel_rfl
theorem ok80 : PureOK Tryz.prog 188 (sp1 s80) := by
 refine qure1 ok_G17 hmix fn80 l80_0 (Nat.le_of_ble_eq_true (by kernel_rfl)) fun s hc => ?_
 rw [DoesQ, v80]
 have hc : (s.size ≤ 9223372036854775807) := of_decide_eq_true hc
 try dsimp only [s80]
 refine c_t ?_ ⟨fun h => ?_, fun st' n' f' p' h x => ?_, fun d' m' cap' st' n' f' p' hr h => ?_⟩
 ·simp only [S80_0, Rw.ok, Rw.z, Bool.true_and]
  exact decide_eq_true ⟨by omega, by omega, .inl trivial, by omega, by omega, by simp⟩
 ·have h : xpGo (bz s) 0 0 [] = ([], false) := h
  have e : exOK (bz s) = false := by simp [exOK, h]
  rw [h, e]
  exact ⟨fun _ _ _ _ _ => rfl, fun d' m' cap' _ _ _ _ hr => c_t (by rw [ids_plainB (rowOK_iff.1 hr).plain]; rfl) fun _ => rfl, fun d' _ _ _ _ hp => c_t (by rw [ids_plainB hp]; rfl) fun _ => rfl⟩
 ·have h : xpGo (bz s) 0 0 [] = ([], decide (st' = 0)) := h
  have e : exOK (bz s) = false := by simp [exOK, h]
  rw [h, e]
  refine c_t (by simp) ?_
  rw [natO_eq]
  have e1 : (bif st' == 0 then ByteArray.empty else ByteArray.empty) = sz [] := by cases st' == 0 <;> rfl
  have e2 : (st' == 0 && decide (((0 : Nat) : Int) > 0)) = false := by simp
  rw [e1, e2]
 ·have h : xpGo (bz s) 0 0 [] = (zc d' m', decide (st' = 0)) := h
  have hr := rowOK_iff.1 hr
  have hl := zc_length hr
  refine c_t (by rw [ids_plainB hr.plain]; rfl) fun x => c_t (by rw [hr.str.1]; simp) ?_
  rw [hr.str.2, natO_eq]
  have e1 : (bif st' == 0 then sz (zc d' m') else sz (zc d' m')) = sz (zc d' m') := by cases st' == 0 <;> rfl
  have e2 : exOK (bz s) = (st' == 0 && decide ((m' : Int) > 0)) := by
   rw [exOK, h]
   simp only
   rw [Bool.eq_iff_iff]
   simp only [Bool.and_eq_true, decide_eq_true_eq, beq_iff_eq, Bool.not_eq_true', List.isEmpty_eq_false_iff]
   constructor
   ·rintro ⟨a, b⟩
    have := List.length_pos_iff.2 b
    exact ⟨a, by omega⟩
   ·rintro ⟨a, b⟩
    exact ⟨a, fun q => by rw [q] at hl; simp at hl; omega⟩
  rw [e1, e2, h]
end Go.Px
end
noncomputable section
namespace Go.Px
open Go Go.Ab Go.Proofs Go.Shelf
theorem c280 : Callable Tryz.prog 280 := cal Tryz.func280 (by kernel_rfl) (by kernel_rfl)
def lastZ : List Int → Int → Int
 | [], _ => -1
 | b :: l, c => if lastZ l c = -1 then (if b = c then 0 else -1) else lastZ l c + 1
theorem lastZ_spec (c : Int) : ∀ l : List Int, (lastZ l c = -1 ∧ ∀ j, j < l.length → l.getD j 0 ≠ c) ∨ (∃ i : Nat, i < l.length ∧ lastZ l c = i ∧ l.getD i 0 = c ∧ ∀ j, i < j → j < l.length → l.getD j 0 ≠ c)
 | [] => .inl ⟨rfl, fun j h => by simp at h⟩
 | b :: l => by
  rcases lastZ_spec c l with ⟨e, h⟩ | ⟨i, hi, e, hc, h⟩
  ·simp only [lastZ, e, if_true]
   by_cases hb : b = c
   ·rw [if_pos hb]
    refine .inr ⟨0, by simp, rfl, by simpa using hb, fun j h1 h2 => ?_⟩
    obtain ⟨j, rfl⟩ : ∃ k, j = k + 1 := ⟨j - 1, by omega⟩
    simpa using h j (by simpa using h2)
   ·rw [if_neg hb]
    refine .inl ⟨rfl, fun j h1 => ?_⟩
    cases j with
    | zero => simpa using hb
    | succ j => simpa using h j (by simpa using h1)
  ·simp only [lastZ]
   rw [if_neg (by omega), e]
   refine .inr ⟨i + 1, by simpa using hi, by omega, by simpa using hc, fun j h1 h2 => ?_⟩
   obtain ⟨j, rfl⟩ : ∃ k, j = k + 1 := ⟨j - 1, by omega⟩
   simpa using h j (by omega) (by simpa using h2)
theorem last_zl (s : ByteArray) (c : Int) : Lib.lastIndexByte s c = lastZ (bz s) c := by
 have hd : ∀ j, j < s.size → ((s.data[j]!).toNat : Int) = (bz s).getD j 0 := fun j hj => by
  have hj' : j < s.data.size := hj
  rw [getElem!_pos s.data j hj']
  simp only [bz, List.getD_eq_getElem?_getD, List.getElem?_map, Array.getElem?_toList]
  rw [Array.getElem?_eq_getElem hj']
  rfl
 rcases Lib.lastIndexByte_spec s c with ⟨e, h⟩ | ⟨i, hi, e, hc, h⟩ <;> rcases lastZ_spec c (bz s) with ⟨e', h'⟩ | ⟨i', hi', e', hc', h'⟩
 ·rw [e, e']
 ·rw [bz_length] at hi'
  exact absurd hc' (by rw [← hd i' hi']; exact h i' hi')
 ·rw [hd i hi] at hc
  exact absurd hc (h' i (by rw [bz_length]; exact hi))
 ·rw [bz_length] at hi' h'
  rw [hd i hi] at hc
  rw [e, e']
  rcases Nat.lt_trichotomy i i' with q | q | q
  ·exact absurd hc' (by rw [← hd i' hi']; exact h i' q hi')
  ·rw [q]
  ·exact absurd hc (h' i q hi)
theorem last_rng (l : List Int) (c : Int) : -1 ≤ lastZ l c ∧ lastZ l c < l.length := by
 rcases lastZ_spec c l with ⟨e, _⟩ | ⟨i, hi, e, _⟩ <;> omega
def s280 (s : ByteArray) (c : U8) : Bool × Value := (decide (s.size ≤ 1000), .int .i64 (lastZ (bz s) c.n))
theorem ok280 : PureOK Tryz.prog 280 (sp2 s280) := shelf2 c280 fun s c hc w _ => by
 refine (Any.strings_LastIndexByte Tryz.lays149 s c.n (by have : s.size ≤ 1000 := of_decide_eq_true hc; omega) w).mono fun e w' ⟨h1, h2⟩ => ⟨?_, below_of_eq h2⟩
 rw [h1, last_zl]
 rfl
structure VwP (d : List Value) (m : Nat) : Prop where
 bytes : isBytes d = true
 len : d.length = m
 rng : IsB (d.map iv)
def vwOK (d : List Value) (m : Nat) : Bool := isBytes d && (Nat.beq d.length m && (d.map iv).all fun c => decide (0 ≤ c ∧ c < 256))
theorem vwOK_iff {d : List Value} {m : Nat} : vwOK d m = true ↔ VwP d m := by
 simp only [vwOK, Bool.and_eq_true, Nat.beq_eq, List.all_eq_true, decide_eq_true_eq]
 exact ⟨fun ⟨a, b, c⟩ => ⟨a, b, c⟩, fun ⟨a, b, c⟩ => ⟨a, b, c⟩⟩
theorem isBytes_plain {d : List Value} (h : isBytes d = true) : plainL d = true := by
 rw [← cz_of h]
 exact cz_plain _
theorem VwP.plain {d : List Value} {m : Nat} (h : VwP d m) : plainL d = true := isBytes_plain h.bytes
theorem vw_str (s : ByteArray) : VwP (Lib.strCells s) s.size ∧ zc (Lib.strCells s) s.size = bz s := by
 rw [strCells_eq]
 have e : (cz (bz s)).map iv = bz s := by
  rw [cz, List.map_map]
  have : (iv ∘ fun n : Int => Value.int .u8 n) = id := by funext n; rfl
  rw [this, List.map_id]
 refine ⟨⟨cz_isBytes _, by simp, by rw [e]; exact bz_isB s⟩, ?_⟩
 rw [zc, List.take_of_length_le (by simp), e]
theorem VwP.zlen {d : List Value} {m : Nat} (h : VwP d m) : (zc d m).length = m := by
 simp only [zc, List.length_map, List.length_take, h.len]
 omega
theorem at_bytes : ∀ {d : List Value} {j : Nat}, isBytes d = true → j < d.length → isIntAt .u8 d j = true ∧ intAt d j = (d.map iv).getD j 0
 | .int .u8 n :: r, 0, _, _ => ⟨rfl, rfl⟩
 | .int .u8 n :: r, j + 1, h, hj => by
  have := at_bytes (d := r) (j := j) (by simpa [isBytes] using h) (by simpa using hj)
  simpa [isIntAt, intAt] using this
theorem VwP.at {d : List Value} {m : Nat} (h : VwP d m) {j : Int} (h0 : 0 ≤ j) (hj : j < m) : isIntAt .u8 d j.toNat = true ∧ (0 ≤ intAt d j.toNat ∧ intAt d j.toNat < 256) ∧ (zc d m).drop j.toNat = intAt d j.toNat :: (zc d m).drop (j + 1).toNat := by
 have hl := h.len
 obtain ⟨q1, q2⟩ := at_bytes h.bytes (j := j.toNat) (by omega)
 refine ⟨q1, ?_, ?_⟩
 ·rw [q2, List.getD_eq_getElem?_getD]
  cases hh : (d.map iv)[j.toNat]? with
  | none => simp
  | some c => exact h.rng c (List.mem_of_getElem? hh)
 have e : zc d m = d.map iv := by rw [zc, List.take_of_length_le (by omega)]
 rw [e, q2, getD_drop _ _ (by rw [List.length_map]; omega), show (j + 1).toNat = j.toNat + 1 by omega]
theorem VwP.good {d : List Value} {m : Nat} (h : VwP d m) (ps : List (Nat × Nat)) : (goodL ps d && true && true) = true := by rw [goodL_plain h.plain]; rfl
theorem VwP.rlb {d : List Value} {m : Nat} (h : VwP d m) (ps : List (Nat × Nat)) : rlbL ps d = d := rlbL_plain ps h.plain
theorem VwP.end {d : List Value} {m : Nat} (h : VwP d m) {j : Int} (hj : (m : Int) ≤ j) : (zc d m).drop j.toNat = [] := List.drop_eq_nil_of_le (by rw [h.zlen]; omega)
def k5 : List Int := [44, 46, 47, 66, 86]
theorem idx_neg (l : List Int) (c : Int) : decide (idxZ l c < 0) = !hasZ l c := by
 have := idx_has c l
 rw [← hasZ_iff] at this
 cases h : hasZ l c with
 | true => rw [h] at this; have := this.2.2 rfl; simp; omega
 | false =>
  rw [h] at this
  have : ¬ 0 ≤ idxZ l c := fun q => by have := this.2.1 q; cases this
  simp
  omega
theorem ch_at {i : Int} (h0 : 0 ≤ i) (h : i < 4) : ∃ c, intAt [Value.int IntKind.u8 36, Value.int IntKind.u8 83, Value.int IntKind.u8 43, Value.int IntKind.u8 45] (0 + i.toNat * 1) = c ∧
  isIntAt IntKind.u8 [Value.int IntKind.u8 36, Value.int IntKind.u8 83, Value.int IntKind.u8 43, Value.int IntKind.u8 45] (0 + i.toNat * 1) = true ∧
  oneB (Utf8.encode c) = true ∧ (bz (Utf8.encode c)).getD 0 0 = c ∧ (0 < c ∧ c < 128) ∧ List.drop i.toNat [36, 83, 43, 45] = c :: List.drop (i + 1).toNat [36, 83, 43, 45] := by
 have : i = 0 ∨ i = 1 ∨ i = 2 ∨ i = 3 := by omega
 rcases this with rfl | rfl | rfl | rfl
 ·exact ⟨36, rfl, rfl, by kernel_rfl, by kernel_rfl, by omega, rfl⟩
 ·exact ⟨83, rfl, rfl, by kernel_rfl, by kernel_rfl, by omega, rfl⟩
 ·exact ⟨43, rfl, rfl, by kernel_rfl, by kernel_rfl, by omega, rfl⟩
 ·exact ⟨45, rfl, rfl, by kernel_rfl, by kernel_rfl, by omega, rfl⟩
theorem idx_lt (c : Int) : ∀ {l : List Int}, c ∈ l → 0 ≤ idxZ l c ∧ idxZ l c < l.length
 | b :: l, h => by
  simp only [idxZ]
  by_cases hb : b = c
  ·rw [if_pos hb]; simp only [List.length_cons]; omega
  ·rw [if_neg hb]
   have := idx_lt c (l := l) (by rcases List.mem_cons.1 h with q | q; exact absurd q.symm hb; exact q)
   rw [if_neg (by omega)]
   simp only [List.length_cons]
   omega
theorem idx_last (c : Int) : ∀ {l : List Int}, c ∈ l → idxZ l c ≤ lastZ l c
 | b :: l, h => by
  simp only [idxZ, lastZ]
  have := last_rng l c
  by_cases hl : c ∈ l
  ·have ih := idx_last c hl
   have i1 := idx_lt c hl
   rw [if_neg (show ¬ lastZ l c = -1 by omega)]
   split
   ·omega
   ·split <;> omega
  ·have hb : b = c := by rcases List.mem_cons.1 h with q | q; exact q.symm; exact absurd q hl
   rw [if_pos hb, if_pos hb]
   split <;> omega
theorem cnt_mem {l : List Int} {c : Int} (h : ¬ (cntZ l c : Int) < 2) : c ∈ l := by
 have : 0 < cntZ l c := by omega
 unfold cntZ at this
 obtain ⟨x, hx⟩ := List.exists_mem_of_length_pos this
 obtain ⟨h1, h2⟩ := List.mem_filter.1 hx
 exact eq_of_beq h2 ▸ h1
def drP (c : Int) (l : List Int) : Bool := l.all fun x => x == c || hasZ k5 x
def drC (b : List Int) (c : Int) : Bool := !hasZ (b.take (idxZ b c).toNat) 86 && drP c ((b.take (lastZ b c + 1).toNat).drop (idxZ b c).toNat)
def drfGo : List Int → List Int → Int → Int → Bool × Int × Int
 | [], _, d, f => (true, d, f)
 | c :: r, b, d, f => bif decide ((cntZ b c : Int) < 2) then drfGo r b d f else bif d != 0 then (false, 0, 0) else bif drC b c then drfGo r b c (idxZ b c) else (false, 0, 0)
def G20 : Env := (((Env.nil.add 272 (sp2 s141)).add 279 (sp2 s157)).add 129 (sp2 s132)).add 280 (sp2 s280)
theorem ok_G20 : EnvOK Tryz.prog G20 := env_add (env_add (env_add (env_add env_nil ok141) ok157) ok132) ok280
def V131_2 : ByteArray × Bool × Int × Int × Int × ByteArray × Int × Int × Bool × List Value × Nat × Nat × Int × Int → List Value := fun (b, r, c, L4, i, s, dr, f, cr, d, m, cap, L, j) => [.pointer (some ⟨3, 0, some 0⟩), S b, B r, C8 c, .slice (some ⟨300, 0, some 1⟩) 4 4, I L4, I i, .slice (some ⟨390, 0, some 1⟩) m cap, I L, I j]
def B131_2 : ByteArray × Bool × Int × Int × Int × ByteArray × Int × Int × Bool × List Value × Nat × Nat × Int × Int → List (Option Blk) := fun (b, r, c, L4, i, s, dr, f, cr, d, m, cap, L, j) => [some ⟨[S s, B true, I 0, I 0, I 0, B false, .slice none 0 0, C8 dr, I f, B cr, C8 32, I 0], 156, true⟩, some ⟨[C8 36, C8 83, C8 43, C8 45], 5, false⟩, some ⟨d, 5, false⟩]
def S131_2 : LSpecA (ByteArray × Bool × Int × Int × Int × ByteArray × Int × Int × Bool × List Value × Nat × Nat × Int × Int) where
 live := [0, 1, 4, 6, 14, 15, 16, 58, 59, 60]
 mid := [3, 300, 390]
 n := 400
 ap := [(.tmp 58, 390)]
 dec vs bs := match vs, bs with | [.pointer (some ⟨3, 0, some 0⟩), .string b, .bool r, .int .u8 c, .slice (some ⟨300, 0, some 1⟩) 4 4, .int .i64 L4, .int .i64 i, .slice (some ⟨390, 0, some 1⟩) m cap, .int .i64 L, .int .i64 j], [some ⟨[.string s, .bool true, .int .i64 0, .int .i64 0, .int .i64 0, .bool false, .slice none 0 0, .int .u8 dr, .int .i64 f, .bool cr, .int .u8 32, .int .i64 0], 156, true⟩, some ⟨[.int .u8 36, .int .u8 83, .int .u8 43, .int .u8 45], 5, false⟩, some ⟨d, 5, false⟩] => some (b, r, c, L4, i, s, dr, f, cr, d, m, cap, L, j) | _, _ => none
 pre := fun (b, r, c, L4, i, s, dr, f, cr, d, m, cap, L, j) => vwOK d m && decide (0 ≤ j ∧ j ≤ m ∧ m ≤ 100 ∧ L = m)
 fin := fun (b, r, c, L4, i, s, dr, f, cr, d, m, cap, L, j) Z => (bif drP c ((zc d m).drop j.toNat) then Z (.exit 2) [.pointer (some ⟨3, 0, some 0⟩), S b, B r, C8 c, .slice (some ⟨300, 0, some 1⟩) 4 4, I L4, I i, .slice (some ⟨390, 0, some 1⟩) m cap, I L, I m] [some ⟨[S s, B true, I 0, I 0, I 0, B false, .slice none 0 0, C8 dr, I f, B cr, C8 32, I 0], 156, true⟩, some ⟨[C8 36, C8 83, C8 43, C8 45], 5, false⟩, some ⟨d, 5, false⟩] else ∀ j', Z .ret [.pointer (some ⟨3, 0, some 0⟩), S b, B false, C8 c, .slice (some ⟨300, 0, some 1⟩) 4 4, I L4, I i, .slice (some ⟨390, 0, some 1⟩) m cap, I L, I j'] [some ⟨[S s, B true, I 0, I 0, I 0, B false, .slice none 0 0, C8 dr, I f, B cr, C8 32, I 0], 156, true⟩, some ⟨[C8 36, C8 83, C8 43, C8 45], 5, false⟩, some ⟨d, 5, false⟩])
theorem r131_2 (b : ByteArray) (r : Bool) (c : Int) (L4 : Int) (i : Int) (s : ByteArray) (dr : Int) (f : Int) (cr : Bool) (d : List Value) (m : Nat) (cap : Nat) (L : Int) (j : Int) (jk : Tmps) (R : Exit → List Value → List (Option Blk) → Prop) : (codeQ Tryz.prog G20 noL Tryz.f244.ntmps (loopOf Tryz.f244 2) (tl S131_2.live (V131_2 (b, r, c, L4, i, s, dr, f, cr, d, m, cap, L, j)) jk) (ml S131_2.mid (B131_2 (b, r, c, L4, i, s, dr, f, cr, d, m, cap, L, j))) S131_2.n fun e t' m' _ => S131_2.out R e t' m') = ( bif decide (j < L) then bif decide (0 ≤ j ∧ j < (↑m : Int)) then bif isIntAt IntKind.u8 d (0 + Int.toNat j * 1) then bif bif intAt d (0 + Int.toNat j * 1) != c then decide (0 ≤ intAt d (0 + Int.toNat j * 1) ∧ intAt d (0 + Int.toNat j * 1) < 256) && true else true then bif intAt d (0 + Int.toNat j * 1) != c && decide (idxZ (bz (ByteArray.mk #[44, 46, 47, 66, 86])) (intAt d (0 + Int.toNat j * 1)) < 0) then bif goodL [(390, 390)] d && true && true then R Exit.ret [.pointer (some (.mk 3 0 (some 0))), S b, B false, .int .u8 c, .slice (some (.mk 300 0 (some 1))) 4 4, I L4, I i, .slice (some (.mk 390 0 (some 1))) m cap, I L, I j] [some (.mk [S s, B true, I 0, I 0, I 0, B false, .slice none 0 0, .int .u8 dr, I f, B cr, .int .u8 32, I 0] 156 true), some (.mk [.int .u8 36, .int .u8 83, .int .u8 43, .int .u8 45] 5 false), some (.mk (rlbL [(390, 390)] d) 5 false)] else False else bif goodL [(390, 390)] d && true && true then R Exit.normal [.pointer (some (.mk 3 0 (some 0))), S b, B r, .int .u8 c, .slice (some (.mk 300 0 (some 1))) 4 4, I L4, I i, .slice (some (.mk 390 0 (some 1))) m cap, I L, I (IntKind.wrap .i64 (j + 1))] [some (.mk [S s, B true, I 0, I 0, I 0, B false, .slice none 0 0, .int .u8 dr, I f, B cr, .int .u8 32, I 0] 156 true), some (.mk [.int .u8 36, .int .u8 83, .int .u8 43, .int .u8 45] 5 false), some (.mk (rlbL [(390, 390)] d) 5 false)] else False else False else False else False else bif goodL [(390, 390)] d && true && true then R (Exit.exit 2) [.pointer (some (.mk 3 0 (some 0))), S b, B r, .int .u8 c, .slice (some (.mk 300 0 (some 1))) 4 4, I L4, I i, .slice (some (.mk 390 0 (some 1))) m cap, I L, I j] [some (.mk [S s, B true, I 0, I 0, I 0, B false, .slice none 0 0, .int .u8 dr, I f, B cr, .int .u8 32, I 0] 156 true), some (.mk [.int .u8 36, .int .u8 83, .int .u8 43, .int .u8 45] 5 false), some (.mk (rlbL [(390, 390)] d) 5 false)] else False) := by kernel_rfl
theorem l131_2 : ∀ t m n K, S131_2.hA t m n K → Ab.Sem Tryz.prog Tryz.f244.ntmps (.loop (loopOf Tryz.f244 2)) t m n K := by
 refine loop_specA ok_G20 hmix (by kernel_rfl) (lok_none _) S131_2 V131_2 B131_2 (fun (b, r, c, L4, i, s, dr, f, cr, d, m, cap, L, j) => (m - j).toNat) ?_ ?_ ?_
 ·intro vs bs s h
  simp only [S131_2] at h
  split at h
  all_goals first | (cases h; exact ⟨rfl, rfl⟩) | cases h | (split at h <;> first | (rename_i hq; cases h; have hq := Nat.eq_of_beq_eq_true hq; subst hq; exact ⟨rfl, rfl⟩) | cases h)
 ·exact fun ⟨b, r, c, L4, i, s, dr, f, cr, d, m, cap, L, j⟩ hp => by
   simp only [S131_2, Bool.and_eq_true] at hp
   simp [V131_2, B131_2, S131_2, idsLt, idsLtB, idsL, ids, ids_plainL (vwOK_iff.1 hp.1).plain]
 ·intro ⟨b, r, c, L4, i, s, dr, f, cr, d, m, cap, L, j⟩ jk Z hp hf
  rw [r131_2]
  simp only [S131_2] at hp hf
  simp only [Bool.and_eq_true, decide_eq_true_eq] at hp
  obtain ⟨hv, hp⟩ := hp
  have hV := hv
  have hv := vwOK_iff.1 hv
  have k : bz ⟨#[44, 46, 47, 66, 86]⟩ = k5 := rfl
  rw [k, Nat.mul_one, Nat.zero_add]
  simp only [hv.rlb]
  refine cond_intro (fun h => ?_) (fun h => ?_)
  ·have h := of_decide_eq_true h
   obtain ⟨a1, a2, a3⟩ := hv.at hp.1 (by omega)
   rw [a3] at hf
   rw [decide_eq_true a2, idx_neg]
   have e : drP c (intAt d j.toNat :: List.drop (j + 1).toNat (zc d m)) = ((intAt d j.toNat == c || hasZ k5 (intAt d j.toNat)) && drP c (List.drop (j + 1).toNat (zc d m))) := rfl
   rw [e] at hf
   refine c_t (decide_eq_true (by omega)) (c_t a1 (c_t (by cases (intAt d j.toNat != c) <;> rfl) (cond_intro (fun q => c_t (hv.good _) ?_) (fun q => c_t (hv.good _) ?_))))
   ·have q' : (intAt d j.toNat == c || hasZ k5 (intAt d j.toNat)) = false := by
     simp only [Bool.and_eq_true, bne_iff_ne, Bool.not_eq_true'] at q
     rw [q.2, Bool.or_false]
     simpa using q.1
    rw [q', Bool.false_and, cond_false] at hf
    exact hf j
   ·have q' : (intAt d j.toNat == c || hasZ k5 (intAt d j.toNat)) = true := by
     cases h1 : (intAt d j.toNat == c) with
     | true => rfl
     | false =>
      have h2 : (intAt d j.toNat != c) = true := by rw [bne, h1]; rfl
      rw [h2, Bool.true_and, Bool.not_eq_false'] at q
      rw [q]
      rfl
    rw [q', Bool.true_and] at hf
    rw [w64 (by omega)]
    exact ⟨(b, r, c, L4, i, s, dr, f, cr, d, m, cap, L, j + 1), rfl, rfl, by simp only [S131_2, Bool.and_eq_true, decide_eq_true_eq]; exact ⟨hV, by omega⟩, by simp only; omega, hf⟩
  ·have h := of_decide_eq_false h
   rw [hv.end (by omega), drP, List.all_nil, cond_true] at hf
   obtain rfl : j = m := by omega
   exact c_t (hv.good _) hf
theorem lk131 : LOK Tryz.prog (oneL 2 S131_2.hA) Tryz.f244.ntmps (loopOf Tryz.f244 0) := lok_one (by kernel_rfl) l131_2
def V131_0 : ByteArray × Bool × Int × Int × ByteArray × Int × Int × Bool → List Value := fun (b, r, L4, i, s, dr, f, cr) => [.pointer (some ⟨3, 0, some 0⟩), S b, B r, .slice (some ⟨300, 0, some 1⟩) 4 4, I L4, I i]
def B131_0 : ByteArray × Bool × Int × Int × ByteArray × Int × Int × Bool → List (Option Blk) := fun (b, r, L4, i, s, dr, f, cr) => [some ⟨[S s, B true, I 0, I 0, I 0, B false, .slice none 0 0, C8 dr, I f, B cr, C8 32, I 0], 156, true⟩, some ⟨[C8 36, C8 83, C8 43, C8 45], 5, false⟩]
def S131_0 : LSpecA (ByteArray × Bool × Int × Int × ByteArray × Int × Int × Bool) where
 live := [0, 1, 4, 14, 15, 16]
 mid := [3, 300]
 n := 310
 ap := [(.tmp 14, 300)]
 dec vs bs := match vs, bs with | [.pointer (some ⟨3, 0, some 0⟩), .string b, .bool r, .slice (some ⟨300, 0, some 1⟩) 4 4, .int .i64 L4, .int .i64 i], [some ⟨[.string s, .bool true, .int .i64 0, .int .i64 0, .int .i64 0, .bool false, .slice none 0 0, .int .u8 dr, .int .i64 f, .bool cr, .int .u8 32, .int .i64 0], 156, true⟩, some ⟨[.int .u8 36, .int .u8 83, .int .u8 43, .int .u8 45], 5, false⟩] => some (b, r, L4, i, s, dr, f, cr) | _, _ => none
 pre := fun (b, r, L4, i, s, dr, f, cr) => decide (L4 = 4 ∧ 0 ≤ i ∧ i ≤ 4 ∧ b.size ≤ 100 ∧ 0 ≤ dr ∧ dr < 256)
 fin := fun (b, r, L4, i, s, dr, f, cr) Z => (bif (drfGo (List.drop i.toNat [36, 83, 43, 45]) (bz b) dr f).1 then ∀ dr' f', drfGo (List.drop i.toNat [36, 83, 43, 45]) (bz b) dr f = (true, dr', f') → Z (.exit 0) [.pointer (some ⟨3, 0, some 0⟩), S b, B r, .slice (some ⟨300, 0, some 1⟩) 4 4, I L4, I 4] [some ⟨[S s, B true, I 0, I 0, I 0, B false, .slice none 0 0, C8 (dr'), I (f'), B cr, C8 32, I 0], 156, true⟩, some ⟨[C8 36, C8 83, C8 43, C8 45], 5, false⟩] else ∀ i' dr' f', Z .ret [.pointer (some ⟨3, 0, some 0⟩), S b, B false, .slice (some ⟨300, 0, some 1⟩) 4 4, I L4, I i'] [some ⟨[S s, B true, I 0, I 0, I 0, B false, .slice none 0 0, C8 (dr'), I (f'), B cr, C8 32, I 0], 156, true⟩, some ⟨[C8 36, C8 83, C8 43, C8 45], 5, false⟩])
theorem r131_0 (b : ByteArray) (r : Bool) (L4 : Int) (i : Int) (s : ByteArray) (dr : Int) (f : Int) (cr : Bool) (jk : Tmps) (R : Exit → List Value → List (Option Blk) → Prop) : (codeQ Tryz.prog G20 (oneL 2 S131_2.hA) Tryz.f244.ntmps (loopOf Tryz.f244 0) (tl S131_0.live (V131_0 (b, r, L4, i, s, dr, f, cr)) jk) (ml S131_0.mid (B131_0 (b, r, L4, i, s, dr, f, cr))) S131_0.n fun e t' m' _ => S131_0.out R e t' m') = ( bif decide (i < L4) then bif decide (0 ≤ i ∧ i < 4) then bif isIntAt IntKind.u8 [.int .u8 36, .int .u8 83, .int .u8 43, .int .u8 45] (0 + Int.toNat i * 1) then bif oneB (Utf8.encode (intAt [.int .u8 36, .int .u8 83, .int .u8 43, .int .u8 45] (0 + Int.toNat i * 1))) then bif decide ((↑(cntZ (bz b) (List.getD (bz (Utf8.encode (intAt [.int .u8 36, .int .u8 83, .int .u8 43, .int .u8 45] (0 + Int.toNat i * 1)))) 0 0)) : Int) < 2) then R Exit.normal [.pointer (some (.mk 3 0 (some 0))), S b, B r, .slice (some (.mk 300 0 (some 1))) 4 4, I L4, I (IntKind.wrap .i64 (i + 1))] [some (.mk [S s, B true, I 0, I 0, I 0, B false, .slice none 0 0, .int .u8 dr, I f, B cr, .int .u8 32, I 0] 156 true), some (.mk [.int .u8 36, .int .u8 83, .int .u8 43, .int .u8 45] 5 false)] else bif dr != 0 then R Exit.ret [.pointer (some (.mk 3 0 (some 0))), S b, B false, .slice (some (.mk 300 0 (some 1))) 4 4, I L4, I i] [some (.mk [S s, B true, I 0, I 0, I 0, B false, .slice none 0 0, .int .u8 dr, I f, B cr, .int .u8 32, I 0] 156 true), some (.mk [.int .u8 36, .int .u8 83, .int .u8 43, .int .u8 45] 5 false)] else bif decide (0 ≤ intAt [.int .u8 36, .int .u8 83, .int .u8 43, .int .u8 45] (0 + Int.toNat i * 1) ∧ intAt [.int .u8 36, .int .u8 83, .int .u8 43, .int .u8 45] (0 + Int.toNat i * 1) < 256) then bif decide (ByteArray.size b ≤ 1000) then bif decide ((0 : Int) ≤ 0 ∧ 0 ≤ idxZ (bz b) (intAt [.int .u8 36, .int .u8 83, .int .u8 43, .int .u8 45] (0 + Int.toNat i * 1)) ∧ idxZ (bz b) (intAt [.int .u8 36, .int .u8 83, .int .u8 43, .int .u8 45] (0 + Int.toNat i * 1)) ≤ (↑(ByteArray.size b) : Int)) then bif hasZ (bz (ByteArray.extract b 0 (Int.toNat (idxZ (bz b) (intAt [.int .u8 36, .int .u8 83, .int .u8 43, .int .u8 45] (0 + Int.toNat i * 1)))))) (List.getD (bz (ByteArray.mk #[86])) 0 0) then R Exit.ret [.pointer (some (.mk 3 0 (some 0))), S b, B false, .slice (some (.mk 300 0 (some 1))) 4 4, I L4, I i] [some (.mk [S s, B true, I 0, I 0, I 0, B false, .slice none 0 0, .int .u8 (intAt [.int .u8 36, .int .u8 83, .int .u8 43, .int .u8 45] (0 + Int.toNat i * 1)), I (idxZ (bz b) (intAt [.int .u8 36, .int .u8 83, .int .u8 43, .int .u8 45] (0 + Int.toNat i * 1))), B cr, .int .u8 32, I 0] 156 true), some (.mk [.int .u8 36, .int .u8 83, .int .u8 43, .int .u8 45] 5 false)] else bif decide (0 ≤ idxZ (bz b) (intAt [.int .u8 36, .int .u8 83, .int .u8 43, .int .u8 45] (0 + Int.toNat i * 1)) ∧ idxZ (bz b) (intAt [.int .u8 36, .int .u8 83, .int .u8 43, .int .u8 45] (0 + Int.toNat i * 1)) ≤ IntKind.wrap .i64 (lastZ (bz b) (intAt [.int .u8 36, .int .u8 83, .int .u8 43, .int .u8 45] (0 + Int.toNat i * 1)) + 1) ∧ IntKind.wrap .i64 (lastZ (bz b) (intAt [.int .u8 36, .int .u8 83, .int .u8 43, .int .u8 45] (0 + Int.toNat i * 1)) + 1) ≤ (↑(ByteArray.size b) : Int)) then ∀ (cap : Nat), Nat.ble (ByteArray.size (ByteArray.extract b (Int.toNat (idxZ (bz b) (intAt [.int .u8 36, .int .u8 83, .int .u8 43, .int .u8 45] (0 + Int.toNat i * 1)))) (Int.toNat (IntKind.wrap .i64 (lastZ (bz b) (intAt [.int .u8 36, .int .u8 83, .int .u8 43, .int .u8 45] (0 + Int.toNat i * 1)) + 1))))) cap = true → bif goodL [(355, 390)] (Lib.strCells (ByteArray.extract b (Int.toNat (idxZ (bz b) (intAt [.int .u8 36, .int .u8 83, .int .u8 43, .int .u8 45] (0 + Int.toNat i * 1)))) (Int.toNat (IntKind.wrap .i64 (lastZ (bz b) (intAt [.int .u8 36, .int .u8 83, .int .u8 43, .int .u8 45] (0 + Int.toNat i * 1)) + 1))))) && true && true && (idsLt 400 (rlbL [(355, 390)] (Lib.strCells (ByteArray.extract b (Int.toNat (idxZ (bz b) (intAt [.int .u8 36, .int .u8 83, .int .u8 43, .int .u8 45] (0 + Int.toNat i * 1)))) (Int.toNat (IntKind.wrap .i64 (lastZ (bz b) (intAt [.int .u8 36, .int .u8 83, .int .u8 43, .int .u8 45] (0 + Int.toNat i * 1)) + 1)))))) && true) then bif LSpec.pre (LSpecA.toLSpec S131_2) (b, r, intAt [.int .u8 36, .int .u8 83, .int .u8 43, .int .u8 45] (0 + Int.toNat i * 1), L4, i, s, intAt [.int .u8 36, .int .u8 83, .int .u8 43, .int .u8 45] (0 + Int.toNat i * 1), idxZ (bz b) (intAt [.int .u8 36, .int .u8 83, .int .u8 43, .int .u8 45] (0 + Int.toNat i * 1)), cr, rlbL [(355, 390)] (Lib.strCells (ByteArray.extract b (Int.toNat (idxZ (bz b) (intAt [.int .u8 36, .int .u8 83, .int .u8 43, .int .u8 45] (0 + Int.toNat i * 1)))) (Int.toNat (IntKind.wrap .i64 (lastZ (bz b) (intAt [.int .u8 36, .int .u8 83, .int .u8 43, .int .u8 45] (0 + Int.toNat i * 1)) + 1))))), ByteArray.size (ByteArray.extract b (Int.toNat (idxZ (bz b) (intAt [.int .u8 36, .int .u8 83, .int .u8 43, .int .u8 45] (0 + Int.toNat i * 1)))) (Int.toNat (IntKind.wrap .i64 (lastZ (bz b) (intAt [.int .u8 36, .int .u8 83, .int .u8 43, .int .u8 45] (0 + Int.toNat i * 1)) + 1)))), cap, natO (ByteArray.size (ByteArray.extract b (Int.toNat (idxZ (bz b) (intAt [.int .u8 36, .int .u8 83, .int .u8 43, .int .u8 45] (0 + Int.toNat i * 1)))) (Int.toNat (IntKind.wrap .i64 (lastZ (bz b) (intAt [.int .u8 36, .int .u8 83, .int .u8 43, .int .u8 45] (0 + Int.toNat i * 1)) + 1))))), 0) then bif drP (intAt [.int .u8 36, .int .u8 83, .int .u8 43, .int .u8 45] (0 + Int.toNat i * 1)) (List.drop (Int.toNat 0) (zc (rlbL [(355, 390)] (Lib.strCells (ByteArray.extract b (Int.toNat (idxZ (bz b) (intAt [.int .u8 36, .int .u8 83, .int .u8 43, .int .u8 45] (0 + Int.toNat i * 1)))) (Int.toNat (IntKind.wrap .i64 (lastZ (bz b) (intAt [.int .u8 36, .int .u8 83, .int .u8 43, .int .u8 45] (0 + Int.toNat i * 1)) + 1)))))) (ByteArray.size (ByteArray.extract b (Int.toNat (idxZ (bz b) (intAt [.int .u8 36, .int .u8 83, .int .u8 43, .int .u8 45] (0 + Int.toNat i * 1)))) (Int.toNat (IntKind.wrap .i64 (lastZ (bz b) (intAt [.int .u8 36, .int .u8 83, .int .u8 43, .int .u8 45] (0 + Int.toNat i * 1)) + 1))))))) then bif idsLt 400 (rlbL [(355, 390)] (Lib.strCells (ByteArray.extract b (Int.toNat (idxZ (bz b) (intAt [.int .u8 36, .int .u8 83, .int .u8 43, .int .u8 45] (0 + Int.toNat i * 1)))) (Int.toNat (IntKind.wrap .i64 (lastZ (bz b) (intAt [.int .u8 36, .int .u8 83, .int .u8 43, .int .u8 45] (0 + Int.toNat i * 1)) + 1)))))) && true then ∀ (x : Tmps), R Exit.normal [.pointer (some (.mk 3 0 (some 0))), S b, B r, .slice (some (.mk 300 0 (some 1))) 4 4, I L4, I (IntKind.wrap .i64 (i + 1))] [some (.mk [S s, B true, I 0, I 0, I 0, B false, .slice none 0 0, .int .u8 (intAt [.int .u8 36, .int .u8 83, .int .u8 43, .int .u8 45] (0 + Int.toNat i * 1)), I (idxZ (bz b) (intAt [.int .u8 36, .int .u8 83, .int .u8 43, .int .u8 45] (0 + Int.toNat i * 1))), B cr, .int .u8 32, I 0] 156 true), some (.mk [.int .u8 36, .int .u8 83, .int .u8 43, .int .u8 45] 5 false)] else False else ∀ (j' : Int), bif idsLt 400 (rlbL [(355, 390)] (Lib.strCells (ByteArray.extract b (Int.toNat (idxZ (bz b) (intAt [.int .u8 36, .int .u8 83, .int .u8 43, .int .u8 45] (0 + Int.toNat i * 1)))) (Int.toNat (IntKind.wrap .i64 (lastZ (bz b) (intAt [.int .u8 36, .int .u8 83, .int .u8 43, .int .u8 45] (0 + Int.toNat i * 1)) + 1)))))) && true then ∀ (x : Tmps), R Exit.ret [.pointer (some (.mk 3 0 (some 0))), S b, B false, .slice (some (.mk 300 0 (some 1))) 4 4, I L4, I i] [some (.mk [S s, B true, I 0, I 0, I 0, B false, .slice none 0 0, .int .u8 (intAt [.int .u8 36, .int .u8 83, .int .u8 43, .int .u8 45] (0 + Int.toNat i * 1)), I (idxZ (bz b) (intAt [.int .u8 36, .int .u8 83, .int .u8 43, .int .u8 45] (0 + Int.toNat i * 1))), B cr, .int .u8 32, I 0] 156 true), some (.mk [.int .u8 36, .int .u8 83, .int .u8 43, .int .u8 45] 5 false)] else False else False else False else False else False else False else False else False else False else False else R (Exit.exit 0) [.pointer (some (.mk 3 0 (some 0))), S b, B r, .slice (some (.mk 300 0 (some 1))) 4 4, I L4, I i] [some (.mk [S s, B true, I 0, I 0, I 0, B false, .slice none 0 0, .int .u8 dr, I f, B cr, .int .u8 32, I 0] 156 true), some (.mk [.int .u8 36, .int .u8 83, .int .u8 43, .int .u8 45] 5 false)]) := by kernel_rfl
theorem l131_0 : ∀ t m n K, S131_0.hA t m n K → Ab.Sem Tryz.prog Tryz.f244.ntmps (.loop (loopOf Tryz.f244 0)) t m n K := by
 refine loop_specA ok_G20 hmix (by kernel_rfl) lk131 S131_0 V131_0 B131_0 (fun (b, r, L4, i, s, dr, f, cr) => (4 - i).toNat) ?_ ?_ ?_
 ·intro vs bs s h
  simp only [S131_0] at h
  split at h
  all_goals first | (cases h; exact ⟨rfl, rfl⟩) | cases h | (split at h <;> first | (rename_i hq; cases h; have hq := Nat.eq_of_beq_eq_true hq; subst hq; exact ⟨rfl, rfl⟩) | cases h)
 ·exact fun ⟨b, r, L4, i, s, dr, f, cr⟩ hp => by
   simp [V131_0, B131_0, S131_0, idsLt, idsLtB, idsL, ids]
 ·intro ⟨b, r, L4, i, s, dr, f, cr⟩ jk Z hp hf
  rw [r131_0]
  simp only [S131_0] at hp hf
  simp only [decide_eq_true_eq] at hp
  have hL4 := hp.1
  refine cond_intro (fun h => ?_) (fun h => ?_)
  ·have h := of_decide_eq_true h
   obtain ⟨c, c1, c2, c3, c4, c5, c6⟩ := ch_at hp.2.1 (by omega)
   rw [c1, c2, c4, c3, w64 (n := i + 1) (by omega)]
   rw [c6, drfGo] at hf
   clear c1 c2 c3 c4 c6
   refine c_t (decide_eq_true (by omega)) (c_t rfl (c_t rfl (cond_intro (fun q => ?_) (fun q => ?_))))
   ·rw [q, cond_true] at hf
    exact ⟨(b, r, L4, i + 1, s, dr, f, cr), rfl, rfl, by simp only [S131_0, decide_eq_true_eq]; omega, by simp only; omega, hf⟩
   ·rw [q, cond_false] at hf
    have q := of_decide_eq_false q
    have hm := cnt_mem q
    have i1 := idx_lt c hm
    have i2 := idx_last c hm
    have i3 := last_rng (bz b) c
    rw [bz_length] at i1 i3
    refine cond_intro (fun e => ?_) (fun e => c_t (decide_eq_true (by omega)) (c_t (decide_eq_true (by omega)) (c_t (decide_eq_true (by omega)) ?_)))
    ·rw [e] at hf
     exact hf i dr f
    ·rw [e, cond_false] at hf
     have k6 : (bz ⟨#[86]⟩).getD 0 0 = 86 := rfl
     have ex : bz (b.extract 0 (idxZ (bz b) c).toNat) = (bz b).take (idxZ (bz b) c).toNat := by rw [bz_extract]; simp
     have ex2 : bz (b.extract (idxZ (bz b) c).toNat (lastZ (bz b) c + 1).toNat) = ((bz b).take (lastZ (bz b) c + 1).toNat).drop (idxZ (bz b) c).toNat := bz_extract _ _ _
     rw [k6, ex, w64 (n := lastZ (bz b) c + 1) (by omega)]
     refine cond_intro (fun e => ?_) (fun e => c_t (decide_eq_true (by omega)) (fun cap hcap => ?_))
     ·rw [drC, e] at hf
      exact hf i _ _
     ·obtain ⟨v1, v2⟩ := vw_str (b.extract (idxZ (bz b) c).toNat (lastZ (bz b) c + 1).toNat)
      have v3 := vwOK_iff.2 v1
      have hsz : (b.extract (idxZ (bz b) c).toNat (lastZ (bz b) c + 1).toNat).size ≤ 100 := by
       rw [← bz_length, ex2, List.length_drop, List.length_take, bz_length]
       omega
      have g1 := v1.good
      have g2 := v1.rlb
      have g3 := ids_plainB v1.plain
      rw [ex2] at v2
      rw [drC, e, Bool.not_false, Bool.true_and, ← v2] at hf
      simp only [g2]
      clear ex2
      generalize b.extract (idxZ (bz b) c).toNat (lastZ (bz b) c + 1).toNat = y at *
      generalize Lib.strCells y = d at *
      refine c_t (by rw [g1, g3]; rfl) (c_t ?_ (cond_intro (fun a => c_t (by rw [g3]; rfl) fun x => ?_) (fun a j' => c_t (by rw [g3]; rfl) fun x => ?_)))
      ·simp only [S131_2, Bool.and_eq_true, decide_eq_true_eq]
       exact ⟨v3, by omega, by omega, hsz, natO_eq _⟩
      ·have a : drP c (zc d y.size) = true := a
       rw [a, cond_true] at hf
       exact ⟨(b, r, L4, i + 1, s, c, idxZ (bz b) c, cr), rfl, rfl, by simp only [S131_0, decide_eq_true_eq]; omega, by simp only; omega, hf⟩
      ·have a : drP c (zc d y.size) = false := a
       rw [a] at hf
       exact hf i _ _
  ·have h := of_decide_eq_false h
   obtain rfl : i = 4 := by omega
   subst hL4
   exact hf dr f rfl
theorem fn131 : Fn1 Tryz.prog 244 Tryz.f244 := ⟨Tryz.func244, by kernel_rfl, by kernel_rfl, by kernel_rfl⟩
theorem lok131 : LOKf Tryz.prog (oneL 0 S131_0.hA) Tryz.f244 := lokf_one (by kernel_rfl) l131_0
theorem fn160 : Fn1 Tryz.prog 281 Tryz.f281 := ⟨Tryz.func281, by kernel_rfl, by kernel_rfl, by kernel_rfl⟩
def G21 : Env := Env.nil.add 272 (sp2 s141)
theorem ok_G21 : EnvOK Tryz.prog G21 := env_add env_nil ok141
def G22 : Env := Env.nil.addG 281 (inlQ Tryz.prog G21 noL Tryz.f281)
theorem ok_G22 : EnvOK Tryz.prog G22 := env_addG env_nil (gen_inlQ ok_G21 hmix fn160 lokf_none)
def ci (l : List Int) : List Value := l.map fun n => .int .i64 n
@[simp] theorem ci_length (l : List Int) : (ci l).length = l.length := by simp [ci]
theorem ci_append (a b : List Int) : ci (a ++ b) = ci a ++ ci b := by simp [ci]
theorem ci_plain : ∀ l : List Int, plainL (ci l) = true
 | [] => rfl
 | c :: r => by simpa [ci, plainL, plain] using ci_plain r
def isInts : List Value → Bool
 | [] => true
 | .int .i64 _ :: r => isInts r
 | _ => false
theorem ci_isInts : ∀ l : List Int, isInts (ci l) = true
 | [] => rfl
 | c :: r => by simpa [ci, isInts] using ci_isInts r
theorem ci_of : ∀ {l : List Value}, isInts l = true → ci (l.map iv) = l
 | [], _ => rfl
 | .int .i64 n :: r, h => by
  have := ci_of (l := r) (by simpa [isInts] using h)
  simp only [ci] at this
  simp only [List.map_cons, ci, iv, this]
def rowIOK (c : List Value) (n cap : Nat) : Bool := isInts (c.take n) && (plainL c && (Nat.beq c.length cap && (Nat.ble n cap && Nat.ble cap 9223372036854775807)))
structure RowI (c : List Value) (n cap : Nat) : Prop where
 bytes : isInts (c.take n) = true
 plain : plainL c = true
 len : c.length = cap
 le : n ≤ cap
 cap : cap ≤ 9223372036854775807
theorem rowIOK_iff {c : List Value} {n cap : Nat} : rowIOK c n cap = true ↔ RowI c n cap := by
 simp only [rowIOK, Bool.and_eq_true, Nat.ble_eq, Nat.beq_eq]
 exact ⟨fun ⟨h1, h2, h3, h4, h5⟩ => ⟨h1, h2, h3, h4, h5⟩, fun ⟨h1, h2, h3, h4, h5⟩ => ⟨h1, h2, h3, h4, h5⟩⟩
theorem zi_length {c : List Value} {n cap : Nat} (h : RowI c n cap) : (zc c n).length = n := by
 have h1 := h.len
 have h2 := h.le
 simp only [zc, List.length_map, List.length_take]
 omega
theorem RowI.eq {c : List Value} {n cap : Nat} (h : RowI c n cap) : c = ci (zc c n) ++ c.drop n := by
 rw [zc, ci_of h.bytes, List.take_append_drop]
theorem RowI.take {c : List Value} {n cap : Nat} (h : RowI c n cap) : c.take n = ci (zc c n) := (ci_of h.bytes).symm
theorem rowI_mk (L : List Int) {tail : List Value} {cap : Nat} (ht : plainL tail = true) (hl : L.length + tail.length = cap) (hc : cap ≤ 9223372036854775807) : RowI (ci L ++ tail) L.length cap ∧ zc (ci L ++ tail) L.length = L := by
 have e : (ci L ++ tail).take L.length = ci L := by rw [List.take_append_of_le_length (by simp), List.take_of_length_le (by simp)]
 refine ⟨⟨by rw [e]; exact ci_isInts L, plainL_append.2 ⟨ci_plain L, ht⟩, by simp [hl], by omega, hc⟩, ?_⟩
 show List.map iv ((ci L ++ tail).take L.length) = L
 rw [e]
 simp only [ci, List.map_map]
 have : (iv ∘ fun n : Int => Value.int .i64 n) = id := by funext n; rfl
 rw [this, List.map_id]
theorem RowI.app {c : List Value} {n cap : Nat} (h : RowI c n cap) (M : List Int) {tail : List Value} {cap' : Nat} (ht : tailOK tail cap' (n + M.length) 1 = true) :
  RowI (c.take n ++ ci M ++ tail) (n + M.length) cap' ∧ zc (c.take n ++ ci M ++ tail) (n + M.length) = zc c n ++ M := by
 obtain ⟨t1, t2, t3, t4⟩ := tail_spec ht
 have hz := zi_length h
 have := rowI_mk (zc c n ++ M) (tail := tail) (cap := cap') t1 (by simp only [List.length_append, hz]; omega) t4
 simp only [List.length_append, hz, ci_append] at this
 rw [h.take]
 exact this
theorem RowI.app1 {c : List Value} {n cap : Nat} (h : RowI c n cap) (x : Int) {tail : List Value} {cap' : Nat} (ht : tailOK tail cap' (n + 1) 1 = true) :
  RowI (c.take (n * 1) ++ [.int .i64 x] ++ tail) (n + 1) cap' ∧ zc (c.take (n * 1) ++ [.int .i64 x] ++ tail) (n + 1) = zc c n ++ [x] := by
 rw [Nat.mul_one]
 exact h.app [x] ht
theorem RowI.ask {c : List Value} {n cap : Nat} (h : RowI c n cap) {k : Nat} (hk : n + k ≤ 1000000) :
  (Nat.beq c.length (cap * 1) && Nat.ble n cap && Nat.ble cap 9223372036854775807 && true && fitsA (n + k) 8) = true := by
 have h1 := h.len
 have h2 := h.le
 have h3 := h.cap
 simp only [fitsA, Bool.and_eq_true, Nat.ble_eq, Nat.beq_eq, Nat.mul_one]
 exact ⟨⟨⟨⟨h1, h2⟩, h3⟩, trivial⟩, by omega, by omega⟩
theorem rowI_new (M : List Int) {tail : List Value} {cap' : Nat} (ht : tailOK tail cap' M.length 1 = true) : RowI (ci M ++ tail) M.length cap' ∧ zc (ci M ++ tail) M.length = M := by
 obtain ⟨t1, t2, t3, t4⟩ := tail_spec ht
 exact rowI_mk M t1 (by omega) t4
theorem RowI.good {c : List Value} {n cap : Nat} (h : RowI c n cap) (ps : List (Nat × Nat)) : goodL ps c = true := goodL_plain h.plain
theorem RowI.rlb {c : List Value} {n cap : Nat} (h : RowI c n cap) (ps : List (Nat × Nat)) : rlbL ps c = c := rlbL_plain ps h.plain
def Rw.bi : Rw → Option Blk
 | .nil => none
 | .own d _ _ => some ⟨d, 251, true⟩
def Rw.oki : Rw → Bool
 | .nil => true
 | .own d m cap => rowIOK d m cap
theorem c_imp {b : Bool} {P Q P' Q' : Prop} (h : bif b then P else Q) (h1 : P → P') (h2 : Q → Q') : bif b then P' else Q' := by
 cases b
 ·exact h2 h
 ·exact h1 h
theorem idx_pos (l : List Int) (c : Int) : decide (idxZ l c ≥ 0) = hasZ l c := by
 have := idx_neg l c
 rw [Bool.eq_iff_iff, decide_eq_true_eq] at *
 cases h : hasZ l c with
 | true =>
  rw [h] at this
  have h2 : ¬ idxZ l c < 0 := fun q => by have := this.1 q; cases this
  simp
  omega
 | false =>
  rw [h] at this
  have h2 : idxZ l c < 0 := this.2 rfl
  simp
  omega
def roP (dr f c i : Int) : Int := bif hasZ [57, 89, 84, 73, 82] c then 0 else bif c == 90 || (c == 42 || (c == dr && i != f)) then 1 else bif c == 86 then 2 else bif c == 36 then 5 else bif c == 83 || (c == 43 || c == 45) then 4 else 3
def rolesP (dr f : Int) : List Int → Int → List Int
 | [], _ => []
 | c :: r, i => roP dr f c i :: rolesP dr f r (i + 1)
structure PlS where
 pts : Int
 bh : Bool
 w : Int
 dg : Int
 q : Int
 fm : Int
def plGo : List Int → PlS → Bool × PlS
 | [], a => (true, a)
 | r :: rs, a => bif r == 2 then plGo rs ⟨a.pts + 1, a.bh, a.w, a.dg, a.q, a.fm⟩ else bif r == 0 then plGo rs ⟨a.pts, a.bh, a.w + 1, a.dg + 1, a.q + a.pts, a.fm + 1⟩
  else bif r == 1 then (bif decide (a.fm > 0) then (false, a) else plGo rs ⟨a.pts, a.bh || decide (a.pts > 0), a.w + 1, a.dg + 1, a.q + a.pts, a.fm⟩) else plGo rs ⟨a.pts, a.bh, a.w + 1, a.dg, a.q, a.fm⟩
def V133_0 : ByteArray × Bool × Int × Bool × List Value × Nat × Nat × Int × Int × ByteArray × Int × Int × Int × Rw × Int × Int × Bool × Int → List Value := fun (b, r, pts, bh, d, m, cap, L, i, s, w, dg, q, o, dr, f, cr, fm) => [.pointer (some ⟨3, 0, some 0⟩), S b, B r, I (pts), B (bh), .slice (some ⟨400, 0, some 1⟩) m cap, I L, I (i)]
def B133_0 : ByteArray × Bool × Int × Bool × List Value × Nat × Nat × Int × Int × ByteArray × Int × Int × Int × Rw × Int × Int × Bool × Int → List (Option Blk) := fun (b, r, pts, bh, d, m, cap, L, i, s, w, dg, q, o, dr, f, cr, fm) => [some ⟨[.string s, .bool true, .int .i64 (w), .int .i64 (dg), .int .i64 (q), .bool false, o.v 401, .int .u8 dr, .int .i64 f, .bool cr, .int .u8 32, .int .i64 (fm)], 156, true⟩, some ⟨d, 5, false⟩, o.bi]
def S133_0 : LSpecA (ByteArray × Bool × Int × Bool × List Value × Nat × Nat × Int × Int × ByteArray × Int × Int × Int × Rw × Int × Int × Bool × Int) where
 live := [0, 1, 4, 5, 6, 11, 12, 13]
 mid := [3, 400, 401]
 n := 410
 ap := [(.tmp 11, 400), (.cell 3 6, 401)]
 dec vs bs := match vs, bs with
  | [.pointer (some ⟨3, 0, some 0⟩), .string b, .bool r, .int .i64 pts, .bool bh, .slice (some ⟨400, 0, some 1⟩) m cap, .int .i64 L, .int .i64 i], [some ⟨[.string s, .bool true, .int .i64 w, .int .i64 dg, .int .i64 q, .bool false, .slice none 0 0, .int .u8 dr, .int .i64 f, .bool cr, .int .u8 32, .int .i64 fm], 156, true⟩, some ⟨d, 5, false⟩, none] => some (b, r, pts, bh, d, m, cap, L, i, s, w, dg, q, .nil, dr, f, cr, fm)
  | [.pointer (some ⟨3, 0, some 0⟩), .string b, .bool r, .int .i64 pts, .bool bh, .slice (some ⟨400, 0, some 1⟩) m cap, .int .i64 L, .int .i64 i], [some ⟨[.string s, .bool true, .int .i64 w, .int .i64 dg, .int .i64 q, .bool false, .slice (some ⟨401, 0, some 1⟩) m2 cap2, .int .u8 dr, .int .i64 f, .bool cr, .int .u8 32, .int .i64 fm], 156, true⟩, some ⟨d, 5, false⟩, some ⟨d2, 251, true⟩] => some (b, r, pts, bh, d, m, cap, L, i, s, w, dg, q, .own d2 m2 cap2, dr, f, cr, fm)
  | _, _ => none
 pre := fun (b, r, pts, bh, d, m, cap, L, i, s, w, dg, q, o, dr, f, cr, fm) => o.oki && (vwOK d m && decide (0 ≤ i ∧ i ≤ m ∧ m ≤ 100 ∧ L = m ∧ 0 ≤ pts ∧ pts ≤ i ∧ 0 ≤ w ∧ w ≤ i ∧ 0 ≤ dg ∧ dg ≤ i ∧ 0 ≤ fm ∧ fm ≤ i ∧ 0 ≤ q ∧ q ≤ i * 100 ∧ o.z.length ≤ i))
 fin := fun (b, r, pts, bh, d, m, cap, L, i, s, w, dg, q, o, dr, f, cr, fm) Z => (bif (plGo (rolesP dr f ((zc d m).drop i.toNat) i) ⟨pts, bh, w, dg, q, fm⟩).1 then (o.is = false → (zc d m).drop i.toNat = [] → Z (.exit 0) [.pointer (some ⟨3, 0, some 0⟩), S b, B r, I (pts), B (bh), .slice (some ⟨400, 0, some 1⟩) m cap, I L, I (m)] [some ⟨[.string s, .bool true, .int .i64 (w), .int .i64 (dg), .int .i64 (q), .bool false, .slice none 0 0, .int .u8 dr, .int .i64 f, .bool cr, .int .u8 32, .int .i64 (fm)], 156, true⟩, some ⟨d, 5, false⟩, none]) ∧ ∀ pts' bh' w' dg' q' fm' d' m' cap', rowIOK d' m' cap' = true → zc d' m' = o.z ++ rolesP dr f ((zc d m).drop i.toNat) i → plGo (rolesP dr f ((zc d m).drop i.toNat) i) ⟨pts, bh, w, dg, q, fm⟩ = (true, ⟨pts', bh', w', dg', q', fm'⟩) → Z (.exit 0) [.pointer (some ⟨3, 0, some 0⟩), S b, B r, I (pts'), B (bh'), .slice (some ⟨400, 0, some 1⟩) m cap, I L, I (m)] [some ⟨[.string s, .bool true, .int .i64 (w'), .int .i64 (dg'), .int .i64 (q'), .bool false, .slice (some ⟨401, 0, some 1⟩) m' cap', .int .u8 dr, .int .i64 f, .bool cr, .int .u8 32, .int .i64 (fm')], 156, true⟩, some ⟨d, 5, false⟩, some ⟨d', 251, true⟩] else ∀ pts' bh' i' w' dg' q' fm' d' m' cap', rowIOK d' m' cap' = true → Z .ret [.pointer (some ⟨3, 0, some 0⟩), S b, B false, I (pts'), B (bh'), .slice (some ⟨400, 0, some 1⟩) m cap, I L, I (i')] [some ⟨[.string s, .bool true, .int .i64 (w'), .int .i64 (dg'), .int .i64 (q'), .bool false, .slice (some ⟨401, 0, some 1⟩) m' cap', .int .u8 dr, .int .i64 f, .bool cr, .int .u8 32, .int .i64 (fm')], 156, true⟩, some ⟨d, 5, false⟩, some ⟨d', 251, true⟩])
theorem r133_0n (b : ByteArray) (r : Bool) (pts : Int) (bh : Bool) (d : List Value) (m : Nat) (cap : Nat) (L : Int) (i : Int) (s : ByteArray) (w : Int) (dg : Int) (q : Int) (dr : Int) (f : Int) (cr : Bool) (fm : Int) (jk : Tmps) (R : Exit → List Value → List (Option Blk) → Prop) : (codeQ Tryz.prog G22 noL Tryz.f245.ntmps (loopOf Tryz.f245 0) (tl S133_0.live (V133_0 (b, r, pts, bh, d, m, cap, L, i, s, w, dg, q, .nil, dr, f, cr, fm)) jk) (ml S133_0.mid (B133_0 (b, r, pts, bh, d, m, cap, L, i, s, w, dg, q, .nil, dr, f, cr, fm))) S133_0.n fun e t' m' _ => S133_0.out R e t' m') = ( bif decide (i < L) then bif decide (0 ≤ i ∧ i < (↑m : Int)) then bif isIntAt IntKind.u8 d (0 + Int.toNat i * 1) then bif decide (0 ≤ intAt d (0 + Int.toNat i * 1) ∧ intAt d (0 + Int.toNat i * 1) < 256) then bif decide (idxZ (bz (ByteArray.mk #[57, 89, 84, 73, 82])) (intAt d (0 + Int.toNat i * 1)) ≥ 0) then ∀ (cap_1 : Nat) (tail : List Value), tailOK tail cap_1 1 1 = true → bif goodL [(400, 400), (434, 401)] d && (goodL [(400, 400), (434, 401)] (I 0 :: tail) && true) && true then R Exit.normal [.pointer (some (.mk 3 0 (some 0))), S b, B r, I pts, B bh, .slice (some (.mk 400 0 (some 1))) m cap, I L, I (IntKind.wrap .i64 (i + 1))] [some (.mk [S s, B true, I (IntKind.wrap .i64 (w + 1)), I (IntKind.wrap .i64 (dg + 1)), I (IntKind.wrap .i64 (q + pts)), B false, .slice (some (.mk 401 0 (some 1))) 1 cap_1, .int .u8 dr, I f, B cr, .int .u8 32, I (IntKind.wrap .i64 (fm + 1))] 156 true), some (.mk (rlbL [(400, 400), (434, 401)] d) 5 false), some (.mk (rlbL [(400, 400), (434, 401)] (I 0 :: tail)) 251 true)] else False else bif intAt d (0 + Int.toNat i * 1) == 90 || (intAt d (0 + Int.toNat i * 1) == 42 || (intAt d (0 + Int.toNat i * 1) == dr || true)) then bif intAt d (0 + Int.toNat i * 1) == 90 || (intAt d (0 + Int.toNat i * 1) == 42 || intAt d (0 + Int.toNat i * 1) == dr && i != f) then ∀ (cap_1 : Nat) (tail : List Value), tailOK tail cap_1 1 1 = true → bif decide (fm > 0) then bif goodL [(400, 400), (457, 401)] d && (goodL [(400, 400), (457, 401)] (I 1 :: tail) && true) && true then R Exit.ret [.pointer (some (.mk 3 0 (some 0))), S b, B false, I pts, B bh, .slice (some (.mk 400 0 (some 1))) m cap, I L, I i] [some (.mk [S s, B true, I w, I dg, I q, B false, .slice (some (.mk 401 0 (some 1))) 1 cap_1, .int .u8 dr, I f, B cr, .int .u8 32, I fm] 156 true), some (.mk (rlbL [(400, 400), (457, 401)] d) 5 false), some (.mk (rlbL [(400, 400), (457, 401)] (I 1 :: tail)) 251 true)] else False else bif bh || true then bif goodL [(400, 400), (457, 401)] d && (goodL [(400, 400), (457, 401)] (I 1 :: tail) && true) && true then R Exit.normal [.pointer (some (.mk 3 0 (some 0))), S b, B r, I pts, B (bh || decide (pts > 0)), .slice (some (.mk 400 0 (some 1))) m cap, I L, I (IntKind.wrap .i64 (i + 1))] [some (.mk [S s, B true, I (IntKind.wrap .i64 (w + 1)), I (IntKind.wrap .i64 (dg + 1)), I (IntKind.wrap .i64 (q + pts)), B false, .slice (some (.mk 401 0 (some 1))) 1 cap_1, .int .u8 dr, I f, B cr, .int .u8 32, I fm] 156 true), some (.mk (rlbL [(400, 400), (457, 401)] d) 5 false), some (.mk (rlbL [(400, 400), (457, 401)] (I 1 :: tail)) 251 true)] else False else False else bif intAt d (0 + Int.toNat i * 1) == 86 then ∀ (cap_1 : Nat) (tail : List Value), tailOK tail cap_1 1 1 = true → bif goodL [(400, 400), (460, 401)] d && (goodL [(400, 400), (460, 401)] (I 2 :: tail) && true) && true then R Exit.normal [.pointer (some (.mk 3 0 (some 0))), S b, B r, I (IntKind.wrap .i64 (pts + 1)), B bh, .slice (some (.mk 400 0 (some 1))) m cap, I L, I (IntKind.wrap .i64 (i + 1))] [some (.mk [S s, B true, I w, I dg, I q, B false, .slice (some (.mk 401 0 (some 1))) 1 cap_1, .int .u8 dr, I f, B cr, .int .u8 32, I fm] 156 true), some (.mk (rlbL [(400, 400), (460, 401)] d) 5 false), some (.mk (rlbL [(400, 400), (460, 401)] (I 2 :: tail)) 251 true)] else False else bif intAt d (0 + Int.toNat i * 1) == 36 then ∀ (cap_1 : Nat) (tail : List Value), tailOK tail cap_1 1 1 = true → bif goodL [(400, 400), (463, 401)] d && (goodL [(400, 400), (463, 401)] (I 5 :: tail) && true) && true then R Exit.normal [.pointer (some (.mk 3 0 (some 0))), S b, B r, I pts, B bh, .slice (some (.mk 400 0 (some 1))) m cap, I L, I (IntKind.wrap .i64 (i + 1))] [some (.mk [S s, B true, I (IntKind.wrap .i64 (w + 1)), I dg, I q, B false, .slice (some (.mk 401 0 (some 1))) 1 cap_1, .int .u8 dr, I f, B cr, .int .u8 32, I fm] 156 true), some (.mk (rlbL [(400, 400), (463, 401)] d) 5 false), some (.mk (rlbL [(400, 400), (463, 401)] (I 5 :: tail)) 251 true)] else False else bif intAt d (0 + Int.toNat i * 1) == 83 || (intAt d (0 + Int.toNat i * 1) == 43 || true) then bif intAt d (0 + Int.toNat i * 1) == 83 || (intAt d (0 + Int.toNat i * 1) == 43 || intAt d (0 + Int.toNat i * 1) == 45) then ∀ (cap_1 : Nat) (tail : List Value), tailOK tail cap_1 1 1 = true → bif goodL [(400, 400), (474, 401)] d && (goodL [(400, 400), (474, 401)] (I 4 :: tail) && true) && true then R Exit.normal [.pointer (some (.mk 3 0 (some 0))), S b, B r, I pts, B bh, .slice (some (.mk 400 0 (some 1))) m cap, I L, I (IntKind.wrap .i64 (i + 1))] [some (.mk [S s, B true, I (IntKind.wrap .i64 (w + 1)), I dg, I q, B false, .slice (some (.mk 401 0 (some 1))) 1 cap_1, .int .u8 dr, I f, B cr, .int .u8 32, I fm] 156 true), some (.mk (rlbL [(400, 400), (474, 401)] d) 5 false), some (.mk (rlbL [(400, 400), (474, 401)] (I 4 :: tail)) 251 true)] else False else ∀ (cap_1 : Nat) (tail : List Value), tailOK tail cap_1 1 1 = true → bif goodL [(400, 400), (474, 401)] d && (goodL [(400, 400), (474, 401)] (I 3 :: tail) && true) && true then R Exit.normal [.pointer (some (.mk 3 0 (some 0))), S b, B r, I pts, B bh, .slice (some (.mk 400 0 (some 1))) m cap, I L, I (IntKind.wrap .i64 (i + 1))] [some (.mk [S s, B true, I (IntKind.wrap .i64 (w + 1)), I dg, I q, B false, .slice (some (.mk 401 0 (some 1))) 1 cap_1, .int .u8 dr, I f, B cr, .int .u8 32, I fm] 156 true), some (.mk (rlbL [(400, 400), (474, 401)] d) 5 false), some (.mk (rlbL [(400, 400), (474, 401)] (I 3 :: tail)) 251 true)] else False else False else False else False else False else False else bif goodL [(400, 400)] d && true && true then R (Exit.exit 0) [.pointer (some (.mk 3 0 (some 0))), S b, B r, I pts, B bh, .slice (some (.mk 400 0 (some 1))) m cap, I L, I i] [some (.mk [S s, B true, I w, I dg, I q, B false, .slice none 0 0, .int .u8 dr, I f, B cr, .int .u8 32, I fm] 156 true), some (.mk (rlbL [(400, 400)] d) 5 false), none] else False) := by kernel_rfl
theorem r133_0o (b : ByteArray) (r : Bool) (pts : Int) (bh : Bool) (d : List Value) (m : Nat) (cap : Nat) (L : Int) (i : Int) (s : ByteArray) (w : Int) (dg : Int) (q : Int) (d2 : List Value) (m2 : Nat) (cap2 : Nat) (dr : Int) (f : Int) (cr : Bool) (fm : Int) (jk : Tmps) (R : Exit → List Value → List (Option Blk) → Prop) : (codeQ Tryz.prog G22 noL Tryz.f245.ntmps (loopOf Tryz.f245 0) (tl S133_0.live (V133_0 (b, r, pts, bh, d, m, cap, L, i, s, w, dg, q, .own d2 m2 cap2, dr, f, cr, fm)) jk) (ml S133_0.mid (B133_0 (b, r, pts, bh, d, m, cap, L, i, s, w, dg, q, .own d2 m2 cap2, dr, f, cr, fm))) S133_0.n fun e t' m' _ => S133_0.out R e t' m') = ( bif decide (i < L) then bif decide (0 ≤ i ∧ i < (↑m : Int)) then bif isIntAt IntKind.u8 d (0 + Int.toNat i * 1) then bif decide (0 ≤ intAt d (0 + Int.toNat i * 1) ∧ intAt d (0 + Int.toNat i * 1) < 256) then bif decide (idxZ (bz (ByteArray.mk #[57, 89, 84, 73, 82])) (intAt d (0 + Int.toNat i * 1)) ≥ 0) then bif Nat.beq (List.length d2) (cap2 * 1) && Nat.ble m2 cap2 && Nat.ble cap2 9223372036854775807 && true && fitsA (m2 + 1) 8 then ∀ (cap_1 : Nat) (tail : List Value), tailOK tail cap_1 (m2 + 1) 1 = true → bif goodL [(400, 400), (434, 401)] d && (goodL [(400, 400), (434, 401)] (List.take (m2 * 1) d2 ++ [I 0] ++ tail) && true) && true then R Exit.normal [.pointer (some (.mk 3 0 (some 0))), S b, B r, I pts, B bh, .slice (some (.mk 400 0 (some 1))) m cap, I L, I (IntKind.wrap .i64 (i + 1))] [some (.mk [S s, B true, I (IntKind.wrap .i64 (w + 1)), I (IntKind.wrap .i64 (dg + 1)), I (IntKind.wrap .i64 (q + pts)), B false, .slice (some (.mk 401 0 (some 1))) (m2 + 1) cap_1, .int .u8 dr, I f, B cr, .int .u8 32, I (IntKind.wrap .i64 (fm + 1))] 156 true), some (.mk (rlbL [(400, 400), (434, 401)] d) 5 false), some (.mk (rlbL [(400, 400), (434, 401)] (List.take (m2 * 1) d2 ++ [I 0] ++ tail)) 251 true)] else False else False else bif intAt d (0 + Int.toNat i * 1) == 90 || (intAt d (0 + Int.toNat i * 1) == 42 || (intAt d (0 + Int.toNat i * 1) == dr || true)) then bif intAt d (0 + Int.toNat i * 1) == 90 || (intAt d (0 + Int.toNat i * 1) == 42 || intAt d (0 + Int.toNat i * 1) == dr && i != f) then bif Nat.beq (List.length d2) (cap2 * 1) && Nat.ble m2 cap2 && Nat.ble cap2 9223372036854775807 && true && fitsA (m2 + 1) 8 then ∀ (cap_1 : Nat) (tail : List Value), tailOK tail cap_1 (m2 + 1) 1 = true → bif decide (fm > 0) then bif goodL [(400, 400), (457, 401)] d && (goodL [(400, 400), (457, 401)] (List.take (m2 * 1) d2 ++ [I 1] ++ tail) && true) && true then R Exit.ret [.pointer (some (.mk 3 0 (some 0))), S b, B false, I pts, B bh, .slice (some (.mk 400 0 (some 1))) m cap, I L, I i] [some (.mk [S s, B true, I w, I dg, I q, B false, .slice (some (.mk 401 0 (some 1))) (m2 + 1) cap_1, .int .u8 dr, I f, B cr, .int .u8 32, I fm] 156 true), some (.mk (rlbL [(400, 400), (457, 401)] d) 5 false), some (.mk (rlbL [(400, 400), (457, 401)] (List.take (m2 * 1) d2 ++ [I 1] ++ tail)) 251 true)] else False else bif bh || true then bif goodL [(400, 400), (457, 401)] d && (goodL [(400, 400), (457, 401)] (List.take (m2 * 1) d2 ++ [I 1] ++ tail) && true) && true then R Exit.normal [.pointer (some (.mk 3 0 (some 0))), S b, B r, I pts, B (bh || decide (pts > 0)), .slice (some (.mk 400 0 (some 1))) m cap, I L, I (IntKind.wrap .i64 (i + 1))] [some (.mk [S s, B true, I (IntKind.wrap .i64 (w + 1)), I (IntKind.wrap .i64 (dg + 1)), I (IntKind.wrap .i64 (q + pts)), B false, .slice (some (.mk 401 0 (some 1))) (m2 + 1) cap_1, .int .u8 dr, I f, B cr, .int .u8 32, I fm] 156 true), some (.mk (rlbL [(400, 400), (457, 401)] d) 5 false), some (.mk (rlbL [(400, 400), (457, 401)] (List.take (m2 * 1) d2 ++ [I 1] ++ tail)) 251 true)] else False else False else False else bif intAt d (0 + Int.toNat i * 1) == 86 then bif Nat.beq (List.length d2) (cap2 * 1) && Nat.ble m2 cap2 && Nat.ble cap2 9223372036854775807 && true && fitsA (m2 + 1) 8 then ∀ (cap_1 : Nat) (tail : List Value), tailOK tail cap_1 (m2 + 1) 1 = true → bif goodL [(400, 400), (460, 401)] d && (goodL [(400, 400), (460, 401)] (List.take (m2 * 1) d2 ++ [I 2] ++ tail) && true) && true then R Exit.normal [.pointer (some (.mk 3 0 (some 0))), S b, B r, I (IntKind.wrap .i64 (pts + 1)), B bh, .slice (some (.mk 400 0 (some 1))) m cap, I L, I (IntKind.wrap .i64 (i + 1))] [some (.mk [S s, B true, I w, I dg, I q, B false, .slice (some (.mk 401 0 (some 1))) (m2 + 1) cap_1, .int .u8 dr, I f, B cr, .int .u8 32, I fm] 156 true), some (.mk (rlbL [(400, 400), (460, 401)] d) 5 false), some (.mk (rlbL [(400, 400), (460, 401)] (List.take (m2 * 1) d2 ++ [I 2] ++ tail)) 251 true)] else False else False else bif intAt d (0 + Int.toNat i * 1) == 36 then bif Nat.beq (List.length d2) (cap2 * 1) && Nat.ble m2 cap2 && Nat.ble cap2 9223372036854775807 && true && fitsA (m2 + 1) 8 then ∀ (cap_1 : Nat) (tail : List Value), tailOK tail cap_1 (m2 + 1) 1 = true → bif goodL [(400, 400), (463, 401)] d && (goodL [(400, 400), (463, 401)] (List.take (m2 * 1) d2 ++ [I 5] ++ tail) && true) && true then R Exit.normal [.pointer (some (.mk 3 0 (some 0))), S b, B r, I pts, B bh, .slice (some (.mk 400 0 (some 1))) m cap, I L, I (IntKind.wrap .i64 (i + 1))] [some (.mk [S s, B true, I (IntKind.wrap .i64 (w + 1)), I dg, I q, B false, .slice (some (.mk 401 0 (some 1))) (m2 + 1) cap_1, .int .u8 dr, I f, B cr, .int .u8 32, I fm] 156 true), some (.mk (rlbL [(400, 400), (463, 401)] d) 5 false), some (.mk (rlbL [(400, 400), (463, 401)] (List.take (m2 * 1) d2 ++ [I 5] ++ tail)) 251 true)] else False else False else bif intAt d (0 + Int.toNat i * 1) == 83 || (intAt d (0 + Int.toNat i * 1) == 43 || true) then bif intAt d (0 + Int.toNat i * 1) == 83 || (intAt d (0 + Int.toNat i * 1) == 43 || intAt d (0 + Int.toNat i * 1) == 45) then bif Nat.beq (List.length d2) (cap2 * 1) && Nat.ble m2 cap2 && Nat.ble cap2 9223372036854775807 && true && fitsA (m2 + 1) 8 then ∀ (cap_1 : Nat) (tail : List Value), tailOK tail cap_1 (m2 + 1) 1 = true → bif goodL [(400, 400), (474, 401)] d && (goodL [(400, 400), (474, 401)] (List.take (m2 * 1) d2 ++ [I 4] ++ tail) && true) && true then R Exit.normal [.pointer (some (.mk 3 0 (some 0))), S b, B r, I pts, B bh, .slice (some (.mk 400 0 (some 1))) m cap, I L, I (IntKind.wrap .i64 (i + 1))] [some (.mk [S s, B true, I (IntKind.wrap .i64 (w + 1)), I dg, I q, B false, .slice (some (.mk 401 0 (some 1))) (m2 + 1) cap_1, .int .u8 dr, I f, B cr, .int .u8 32, I fm] 156 true), some (.mk (rlbL [(400, 400), (474, 401)] d) 5 false), some (.mk (rlbL [(400, 400), (474, 401)] (List.take (m2 * 1) d2 ++ [I 4] ++ tail)) 251 true)] else False else False else bif Nat.beq (List.length d2) (cap2 * 1) && Nat.ble m2 cap2 && Nat.ble cap2 9223372036854775807 && true && fitsA (m2 + 1) 8 then ∀ (cap_1 : Nat) (tail : List Value), tailOK tail cap_1 (m2 + 1) 1 = true → bif goodL [(400, 400), (474, 401)] d && (goodL [(400, 400), (474, 401)] (List.take (m2 * 1) d2 ++ [I 3] ++ tail) && true) && true then R Exit.normal [.pointer (some (.mk 3 0 (some 0))), S b, B r, I pts, B bh, .slice (some (.mk 400 0 (some 1))) m cap, I L, I (IntKind.wrap .i64 (i + 1))] [some (.mk [S s, B true, I (IntKind.wrap .i64 (w + 1)), I dg, I q, B false, .slice (some (.mk 401 0 (some 1))) (m2 + 1) cap_1, .int .u8 dr, I f, B cr, .int .u8 32, I fm] 156 true), some (.mk (rlbL [(400, 400), (474, 401)] d) 5 false), some (.mk (rlbL [(400, 400), (474, 401)] (List.take (m2 * 1) d2 ++ [I 3] ++ tail)) 251 true)] else False else False else False else False else False else False else False else bif goodL [(400, 400), (401, 401)] d && (goodL [(400, 400), (401, 401)] d2 && true) && true then R (Exit.exit 0) [.pointer (some (.mk 3 0 (some 0))), S b, B r, I pts, B bh, .slice (some (.mk 400 0 (some 1))) m cap, I L, I i] [some (.mk [S s, B true, I w, I dg, I q, B false, .slice (some (.mk 401 0 (some 1))) m2 cap2, .int .u8 dr, I f, B cr, .int .u8 32, I fm] 156 true), some (.mk (rlbL [(400, 400), (401, 401)] d) 5 false), some (.mk (rlbL [(400, 400), (401, 401)] d2) 251 true)] else False) := by kernel_rfl
theorem l133_0 : LOKf Tryz.prog (oneL 0 S133_0.hA) Tryz.f245 := by
 refine lokf_one (h := S133_0.hA) (by kernel_rfl) (loop_specA ok_G22 hmix (by kernel_rfl) (lok_none _) S133_0 V133_0 B133_0 (fun (b, r, pts, bh, d, m, cap, L, i, s, w, dg, q, o, dr, f, cr, fm) => (m - i).toNat) ?_ ?_ ?_)
 ·intro vs bs s h
  simp only [S133_0] at h
  split at h
  all_goals first | (cases h; exact ⟨rfl, rfl⟩) | cases h | (split at h <;> first | (rename_i hq; cases h; have hq := Nat.eq_of_beq_eq_true hq; subst hq; exact ⟨rfl, rfl⟩) | cases h)
 ·exact fun ⟨b, r, pts, bh, d, m, cap, L, i, s, w, dg, q, o, dr, f, cr, fm⟩ hp => by
   simp only [S133_0, Bool.and_eq_true] at hp
   have hv := vwOK_iff.1 hp.2.1
   cases o with
   | nil => simp [V133_0, B133_0, S133_0, idsLt, idsLtB, idsL, ids, Rw.v, Rw.bi, ids_plainL hv.plain]
   | own d2 m2 cap2 => simp [V133_0, B133_0, S133_0, idsLt, idsLtB, idsL, ids, Rw.v, Rw.bi, ids_plainL hv.plain, ids_plainL (rowIOK_iff.1 hp.1).plain]
 ·intro ⟨b, r, pts, bh, d, m, cap, L, i, s, w, dg, q, o, dr, f, cr, fm⟩ jk Z hp hf
  simp only [S133_0] at hp hf
  cases o with
  | nil =>
   rw [r133_0n]
   simp only [Bool.and_eq_true, decide_eq_true_eq] at hp
   obtain ⟨-, hV, hp⟩ := hp
   have hv := vwOK_iff.1 hV
   simp only [Rw.z, List.length_nil] at hp hf
   have k1 : bz ⟨#[57, 89, 84, 73, 82]⟩ = [57, 89, 84, 73, 82] := rfl
   have e0 : 0 + i.toNat * 1 = i.toNat := by omega
   rw [k1, e0]
   refine cond_intro (fun h => ?_) (fun h => ?_)
   ·have h := of_decide_eq_true h
    obtain ⟨a1, a2, a3⟩ := hv.at hp.1 (by omega)
    rw [a3] at hf
    rw [a1, w64 (n := i + 1) (by omega)]
    generalize intAt d i.toNat = c at *
    refine c_t (decide_eq_true (by omega)) (c_t rfl (c_t (decide_eq_true a2) ?_))
    rw [idx_pos]
    refine cond_intro (fun q0 => ?_) (fun q0 => c_t (by simp) (cond_intro (fun q1 => ?_) (fun q1 => cond_intro (fun q2 => ?_) (fun q2 => cond_intro (fun q3 => ?_) (fun q3 => c_t (by simp) (cond_intro (fun q4 => ?_) (fun q4 => ?_)))))))
    ·have e : roP dr f c i = 0 := by
      unfold roP
      rw [q0]; rfl
     rw [rolesP, e] at hf
     intro cap1 tail ht
     obtain ⟨h1, h2⟩ : RowI (Value.int IntKind.i64 0 :: tail) 1 cap1 ∧ zc (Value.int IntKind.i64 0 :: tail) 1 = [0] := rowI_new [0] ht
     have hl1 := zi_length h1
     generalize Value.int IntKind.i64 0 :: tail = d' at *
     refine c_t (by rw [goodL_plain hv.plain, goodL_plain h1.plain]; rfl) ?_
     rw [hv.rlb, rlbL_plain _ h1.plain]
     rw [w64 (n := w + 1) (by omega)]
     rw [w64 (n := dg + 1) (by omega)]
     rw [w64 (n := q + pts) (by omega)]
     rw [w64 (n := fm + 1) (by omega)]
     exact ⟨(b, r, pts, bh, d, m, cap, L, i + 1, s, w + 1, dg + 1, q + pts, .own d' (1) cap1, dr, f, cr, fm + 1), rfl, rfl, by simp only [S133_0, Bool.and_eq_true, decide_eq_true_eq]; exact ⟨rowIOK_iff.2 h1, hV, by simp only [Rw.z, hl1]; omega⟩, by simp only; omega, by simp only [S133_0]; refine c_imp hf ?_ (fun g => g); rintro ⟨-, g⟩; exact ⟨fun q => (by cases q), fun pts' bh' w' dg' q' fm' d'' m'' cap'' g1 g2 g3 => g pts' bh' w' dg' q' fm' d'' m'' cap'' g1 (by rw [g2]; simp [Rw.z, h2]) g3⟩⟩
    ·have e : roP dr f c i = 1 := by
      unfold roP
      rw [q0, q1]; rfl
     rw [rolesP, e] at hf
     intro cap1 tail ht
     obtain ⟨h1, h2⟩ : RowI (Value.int IntKind.i64 1 :: tail) 1 cap1 ∧ zc (Value.int IntKind.i64 1 :: tail) 1 = [1] := rowI_new [1] ht
     have hl1 := zi_length h1
     generalize Value.int IntKind.i64 1 :: tail = d' at *
     have e2 : plGo (1 :: rolesP dr f (List.drop (i + 1).toNat (zc d m)) (i + 1)) ⟨pts, bh, w, dg, q, fm⟩ = bif decide (fm > 0) then (false, ⟨pts, bh, w, dg, q, fm⟩) else plGo (rolesP dr f (List.drop (i + 1).toNat (zc d m)) (i + 1)) ⟨pts, bh || decide (pts > 0), w + 1, dg + 1, q + pts, fm⟩ := rfl
     rw [e2] at hf
     refine cond_intro (fun z => c_t (by rw [goodL_plain hv.plain, goodL_plain h1.plain]; rfl) ?_) (fun z => c_t (by simp) ?_)
     ·rw [hv.rlb, rlbL_plain _ h1.plain]
      rw [z, cond_true] at hf
      exact hf _ _ _ _ _ _ _ d' _ _ (rowIOK_iff.2 h1)
     ·rw [z, cond_false] at hf
      refine c_t (by rw [goodL_plain hv.plain, goodL_plain h1.plain]; rfl) ?_
      rw [hv.rlb, rlbL_plain _ h1.plain]
      rw [w64 (n := w + 1) (by omega)]
      rw [w64 (n := dg + 1) (by omega)]
      rw [w64 (n := q + pts) (by omega)]
      exact ⟨(b, r, pts, bh || decide (pts > 0), d, m, cap, L, i + 1, s, w + 1, dg + 1, q + pts, .own d' (1) cap1, dr, f, cr, fm), rfl, rfl, by simp only [S133_0, Bool.and_eq_true, decide_eq_true_eq]; exact ⟨rowIOK_iff.2 h1, hV, by simp only [Rw.z, hl1]; omega⟩, by simp only; omega, by simp only [S133_0]; refine c_imp hf ?_ (fun g => g); rintro ⟨-, g⟩; exact ⟨fun q => (by cases q), fun pts' bh' w' dg' q' fm' d'' m'' cap'' g1 g2 g3 => g pts' bh' w' dg' q' fm' d'' m'' cap'' g1 (by rw [g2]; simp [Rw.z, h2]) g3⟩⟩
    ·have e : roP dr f c i = 2 := by
      unfold roP
      rw [q0, q1, q2]; rfl
     rw [rolesP, e] at hf
     intro cap1 tail ht
     obtain ⟨h1, h2⟩ : RowI (Value.int IntKind.i64 2 :: tail) 1 cap1 ∧ zc (Value.int IntKind.i64 2 :: tail) 1 = [2] := rowI_new [2] ht
     have hl1 := zi_length h1
     generalize Value.int IntKind.i64 2 :: tail = d' at *
     refine c_t (by rw [goodL_plain hv.plain, goodL_plain h1.plain]; rfl) ?_
     rw [hv.rlb, rlbL_plain _ h1.plain]
     rw [w64 (n := pts + 1) (by omega)]
     exact ⟨(b, r, pts + 1, bh, d, m, cap, L, i + 1, s, w, dg, q, .own d' (1) cap1, dr, f, cr, fm), rfl, rfl, by simp only [S133_0, Bool.and_eq_true, decide_eq_true_eq]; exact ⟨rowIOK_iff.2 h1, hV, by simp only [Rw.z, hl1]; omega⟩, by simp only; omega, by simp only [S133_0]; refine c_imp hf ?_ (fun g => g); rintro ⟨-, g⟩; exact ⟨fun q => (by cases q), fun pts' bh' w' dg' q' fm' d'' m'' cap'' g1 g2 g3 => g pts' bh' w' dg' q' fm' d'' m'' cap'' g1 (by rw [g2]; simp [Rw.z, h2]) g3⟩⟩
    ·have e : roP dr f c i = 5 := by
      unfold roP
      rw [q0, q1, q2, q3]; rfl
     rw [rolesP, e] at hf
     intro cap1 tail ht
     obtain ⟨h1, h2⟩ : RowI (Value.int IntKind.i64 5 :: tail) 1 cap1 ∧ zc (Value.int IntKind.i64 5 :: tail) 1 = [5] := rowI_new [5] ht
     have hl1 := zi_length h1
     generalize Value.int IntKind.i64 5 :: tail = d' at *
     refine c_t (by rw [goodL_plain hv.plain, goodL_plain h1.plain]; rfl) ?_
     rw [hv.rlb, rlbL_plain _ h1.plain]
     rw [w64 (n := w + 1) (by omega)]
     exact ⟨(b, r, pts, bh, d, m, cap, L, i + 1, s, w + 1, dg, q, .own d' (1) cap1, dr, f, cr, fm), rfl, rfl, by simp only [S133_0, Bool.and_eq_true, decide_eq_true_eq]; exact ⟨rowIOK_iff.2 h1, hV, by simp only [Rw.z, hl1]; omega⟩, by simp only; omega, by simp only [S133_0]; refine c_imp hf ?_ (fun g => g); rintro ⟨-, g⟩; exact ⟨fun q => (by cases q), fun pts' bh' w' dg' q' fm' d'' m'' cap'' g1 g2 g3 => g pts' bh' w' dg' q' fm' d'' m'' cap'' g1 (by rw [g2]; simp [Rw.z, h2]) g3⟩⟩
    ·have e : roP dr f c i = 4 := by
      unfold roP
      rw [q0, q1, q2, q3, q4]; rfl
     rw [rolesP, e] at hf
     intro cap1 tail ht
     obtain ⟨h1, h2⟩ : RowI (Value.int IntKind.i64 4 :: tail) 1 cap1 ∧ zc (Value.int IntKind.i64 4 :: tail) 1 = [4] := rowI_new [4] ht
     have hl1 := zi_length h1
     generalize Value.int IntKind.i64 4 :: tail = d' at *
     refine c_t (by rw [goodL_plain hv.plain, goodL_plain h1.plain]; rfl) ?_
     rw [hv.rlb, rlbL_plain _ h1.plain]
     rw [w64 (n := w + 1) (by omega)]
     exact ⟨(b, r, pts, bh, d, m, cap, L, i + 1, s, w + 1, dg, q, .own d' (1) cap1, dr, f, cr, fm), rfl, rfl, by simp only [S133_0, Bool.and_eq_true, decide_eq_true_eq]; exact ⟨rowIOK_iff.2 h1, hV, by simp only [Rw.z, hl1]; omega⟩, by simp only; omega, by simp only [S133_0]; refine c_imp hf ?_ (fun g => g); rintro ⟨-, g⟩; exact ⟨fun q => (by cases q), fun pts' bh' w' dg' q' fm' d'' m'' cap'' g1 g2 g3 => g pts' bh' w' dg' q' fm' d'' m'' cap'' g1 (by rw [g2]; simp [Rw.z, h2]) g3⟩⟩
    ·have e : roP dr f c i = 3 := by
      unfold roP
      rw [q0, q1, q2, q3, q4]; rfl
     rw [rolesP, e] at hf
     intro cap1 tail ht
     obtain ⟨h1, h2⟩ : RowI (Value.int IntKind.i64 3 :: tail) 1 cap1 ∧ zc (Value.int IntKind.i64 3 :: tail) 1 = [3] := rowI_new [3] ht
     have hl1 := zi_length h1
     generalize Value.int IntKind.i64 3 :: tail = d' at *
     refine c_t (by rw [goodL_plain hv.plain, goodL_plain h1.plain]; rfl) ?_
     rw [hv.rlb, rlbL_plain _ h1.plain]
     rw [w64 (n := w + 1) (by omega)]
     exact ⟨(b, r, pts, bh, d, m, cap, L, i + 1, s, w + 1, dg, q, .own d' (1) cap1, dr, f, cr, fm), rfl, rfl, by simp only [S133_0, Bool.and_eq_true, decide_eq_true_eq]; exact ⟨rowIOK_iff.2 h1, hV, by simp only [Rw.z, hl1]; omega⟩, by simp only; omega, by simp only [S133_0]; refine c_imp hf ?_ (fun g => g); rintro ⟨-, g⟩; exact ⟨fun q => (by cases q), fun pts' bh' w' dg' q' fm' d'' m'' cap'' g1 g2 g3 => g pts' bh' w' dg' q' fm' d'' m'' cap'' g1 (by rw [g2]; simp [Rw.z, h2]) g3⟩⟩
   ·have h := of_decide_eq_false h
    rw [hv.end (by omega), rolesP, plGo, cond_true] at hf
    obtain rfl : i = m := by omega
    refine c_t (by rw [goodL_plain hv.plain]; rfl) ?_
    rw [hv.rlb]
    exact hf.1 rfl rfl
  | own d2 m2 cap2 =>
   rw [r133_0o]
   simp only [Bool.and_eq_true, decide_eq_true_eq] at hp
   obtain ⟨hR, hV, hp⟩ := hp
   have hv := vwOK_iff.1 hV
   have hr := rowIOK_iff.1 hR
   have hzl := zi_length hr
   simp only [Rw.z, hzl] at hp hf
   have k1 : bz ⟨#[57, 89, 84, 73, 82]⟩ = [57, 89, 84, 73, 82] := rfl
   have e0 : 0 + i.toNat * 1 = i.toNat := by omega
   rw [k1, e0]
   refine cond_intro (fun h => ?_) (fun h => ?_)
   ·have h := of_decide_eq_true h
    obtain ⟨a1, a2, a3⟩ := hv.at hp.1 (by omega)
    rw [a3] at hf
    rw [a1, w64 (n := i + 1) (by omega)]
    generalize intAt d i.toNat = c at *
    refine c_t (decide_eq_true (by omega)) (c_t rfl (c_t (decide_eq_true a2) ?_))
    rw [idx_pos]
    refine cond_intro (fun q0 => ?_) (fun q0 => c_t (by simp) (cond_intro (fun q1 => ?_) (fun q1 => cond_intro (fun q2 => ?_) (fun q2 => cond_intro (fun q3 => ?_) (fun q3 => c_t (by simp) (cond_intro (fun q4 => ?_) (fun q4 => ?_)))))))
    ·have e : roP dr f c i = 0 := by
      unfold roP
      rw [q0]; rfl
     rw [rolesP, e] at hf
     refine c_t (hr.ask (k := 1) (by omega)) (fun cap1 tail ht => ?_)
     obtain ⟨h1, h2⟩ := hr.app1 0 ht
     have hl1 := zi_length h1
     generalize List.take (m2 * 1) d2 ++ [Value.int IntKind.i64 0] ++ tail = d' at *
     refine c_t (by rw [goodL_plain hv.plain, goodL_plain h1.plain]; rfl) ?_
     rw [hv.rlb, rlbL_plain _ h1.plain]
     rw [w64 (n := w + 1) (by omega)]
     rw [w64 (n := dg + 1) (by omega)]
     rw [w64 (n := q + pts) (by omega)]
     rw [w64 (n := fm + 1) (by omega)]
     exact ⟨(b, r, pts, bh, d, m, cap, L, i + 1, s, w + 1, dg + 1, q + pts, .own d' (m2 + 1) cap1, dr, f, cr, fm + 1), rfl, rfl, by simp only [S133_0, Bool.and_eq_true, decide_eq_true_eq]; exact ⟨rowIOK_iff.2 h1, hV, by simp only [Rw.z, hl1]; omega⟩, by simp only; omega, by simp only [S133_0]; refine c_imp hf ?_ (fun g => g); rintro ⟨-, g⟩; exact ⟨fun q => (by cases q), fun pts' bh' w' dg' q' fm' d'' m'' cap'' g1 g2 g3 => g pts' bh' w' dg' q' fm' d'' m'' cap'' g1 (by rw [g2]; simp [Rw.z, h2]) g3⟩⟩
    ·have e : roP dr f c i = 1 := by
      unfold roP
      rw [q0, q1]; rfl
     rw [rolesP, e] at hf
     refine c_t (hr.ask (k := 1) (by omega)) (fun cap1 tail ht => ?_)
     obtain ⟨h1, h2⟩ := hr.app1 1 ht
     have hl1 := zi_length h1
     generalize List.take (m2 * 1) d2 ++ [Value.int IntKind.i64 1] ++ tail = d' at *
     have e2 : plGo (1 :: rolesP dr f (List.drop (i + 1).toNat (zc d m)) (i + 1)) ⟨pts, bh, w, dg, q, fm⟩ = bif decide (fm > 0) then (false, ⟨pts, bh, w, dg, q, fm⟩) else plGo (rolesP dr f (List.drop (i + 1).toNat (zc d m)) (i + 1)) ⟨pts, bh || decide (pts > 0), w + 1, dg + 1, q + pts, fm⟩ := rfl
     rw [e2] at hf
     refine cond_intro (fun z => c_t (by rw [goodL_plain hv.plain, goodL_plain h1.plain]; rfl) ?_) (fun z => c_t (by simp) ?_)
     ·rw [hv.rlb, rlbL_plain _ h1.plain]
      rw [z, cond_true] at hf
      exact hf _ _ _ _ _ _ _ d' _ _ (rowIOK_iff.2 h1)
     ·rw [z, cond_false] at hf
      refine c_t (by rw [goodL_plain hv.plain, goodL_plain h1.plain]; rfl) ?_
      rw [hv.rlb, rlbL_plain _ h1.plain]
      rw [w64 (n := w + 1) (by omega)]
      rw [w64 (n := dg + 1) (by omega)]
      rw [w64 (n := q + pts) (by omega)]
      exact ⟨(b, r, pts, bh || decide (pts > 0), d, m, cap, L, i + 1, s, w + 1, dg + 1, q + pts, .own d' (m2 + 1) cap1, dr, f, cr, fm), rfl, rfl, by simp only [S133_0, Bool.and_eq_true, decide_eq_true_eq]; exact ⟨rowIOK_iff.2 h1, hV, by simp only [Rw.z, hl1]; omega⟩, by simp only; omega, by simp only [S133_0]; refine c_imp hf ?_ (fun g => g); rintro ⟨-, g⟩; exact ⟨fun q => (by cases q), fun pts' bh' w' dg' q' fm' d'' m'' cap'' g1 g2 g3 => g pts' bh' w' dg' q' fm' d'' m'' cap'' g1 (by rw [g2]; simp [Rw.z, h2]) g3⟩⟩
    ·have e : roP dr f c i = 2 := by
      unfold roP
      rw [q0, q1, q2]; rfl
     rw [rolesP, e] at hf
     refine c_t (hr.ask (k := 1) (by omega)) (fun cap1 tail ht => ?_)
     obtain ⟨h1, h2⟩ := hr.app1 2 ht
     have hl1 := zi_length h1
     generalize List.take (m2 * 1) d2 ++ [Value.int IntKind.i64 2] ++ tail = d' at *
     refine c_t (by rw [goodL_plain hv.plain, goodL_plain h1.plain]; rfl) ?_
     rw [hv.rlb, rlbL_plain _ h1.plain]
     rw [w64 (n := pts + 1) (by omega)]
     exact ⟨(b, r, pts + 1, bh, d, m, cap, L, i + 1, s, w, dg, q, .own d' (m2 + 1) cap1, dr, f, cr, fm), rfl, rfl, by simp only [S133_0, Bool.and_eq_true, decide_eq_true_eq]; exact ⟨rowIOK_iff.2 h1, hV, by simp only [Rw.z, hl1]; omega⟩, by simp only; omega, by simp only [S133_0]; refine c_imp hf ?_ (fun g => g); rintro ⟨-, g⟩; exact ⟨fun q => (by cases q), fun pts' bh' w' dg' q' fm' d'' m'' cap'' g1 g2 g3 => g pts' bh' w' dg' q' fm' d'' m'' cap'' g1 (by rw [g2]; simp [Rw.z, h2]) g3⟩⟩
    ·have e : roP dr f c i = 5 := by
      unfold roP
      rw [q0, q1, q2, q3]; rfl
     rw [rolesP, e] at hf
     refine c_t (hr.ask (k := 1) (by omega)) (fun cap1 tail ht => ?_)
     obtain ⟨h1, h2⟩ := hr.app1 5 ht
     have hl1 := zi_length h1
     generalize List.take (m2 * 1) d2 ++ [Value.int IntKind.i64 5] ++ tail = d' at *
     refine c_t (by rw [goodL_plain hv.plain, goodL_plain h1.plain]; rfl) ?_
     rw [hv.rlb, rlbL_plain _ h1.plain]
     rw [w64 (n := w + 1) (by omega)]
     exact ⟨(b, r, pts, bh, d, m, cap, L, i + 1, s, w + 1, dg, q, .own d' (m2 + 1) cap1, dr, f, cr, fm), rfl, rfl, by simp only [S133_0, Bool.and_eq_true, decide_eq_true_eq]; exact ⟨rowIOK_iff.2 h1, hV, by simp only [Rw.z, hl1]; omega⟩, by simp only; omega, by simp only [S133_0]; refine c_imp hf ?_ (fun g => g); rintro ⟨-, g⟩; exact ⟨fun q => (by cases q), fun pts' bh' w' dg' q' fm' d'' m'' cap'' g1 g2 g3 => g pts' bh' w' dg' q' fm' d'' m'' cap'' g1 (by rw [g2]; simp [Rw.z, h2]) g3⟩⟩
    ·have e : roP dr f c i = 4 := by
      unfold roP
      rw [q0, q1, q2, q3, q4]; rfl
     rw [rolesP, e] at hf
     refine c_t (hr.ask (k := 1) (by omega)) (fun cap1 tail ht => ?_)
     obtain ⟨h1, h2⟩ := hr.app1 4 ht
     have hl1 := zi_length h1
     generalize List.take (m2 * 1) d2 ++ [Value.int IntKind.i64 4] ++ tail = d' at *
     refine c_t (by rw [goodL_plain hv.plain, goodL_plain h1.plain]; rfl) ?_
     rw [hv.rlb, rlbL_plain _ h1.plain]
     rw [w64 (n := w + 1) (by omega)]
     exact ⟨(b, r, pts, bh, d, m, cap, L, i + 1, s, w + 1, dg, q, .own d' (m2 + 1) cap1, dr, f, cr, fm), rfl, rfl, by simp only [S133_0, Bool.and_eq_true, decide_eq_true_eq]; exact ⟨rowIOK_iff.2 h1, hV, by simp only [Rw.z, hl1]; omega⟩, by simp only; omega, by simp only [S133_0]; refine c_imp hf ?_ (fun g => g); rintro ⟨-, g⟩; exact ⟨fun q => (by cases q), fun pts' bh' w' dg' q' fm' d'' m'' cap'' g1 g2 g3 => g pts' bh' w' dg' q' fm' d'' m'' cap'' g1 (by rw [g2]; simp [Rw.z, h2]) g3⟩⟩
    ·have e : roP dr f c i = 3 := by
      unfold roP
      rw [q0, q1, q2, q3, q4]; rfl
     rw [rolesP, e] at hf
     refine c_t (hr.ask (k := 1) (by omega)) (fun cap1 tail ht => ?_)
     obtain ⟨h1, h2⟩ := hr.app1 3 ht
     have hl1 := zi_length h1
     generalize List.take (m2 * 1) d2 ++ [Value.int IntKind.i64 3] ++ tail = d' at *
     refine c_t (by rw [goodL_plain hv.plain, goodL_plain h1.plain]; rfl) ?_
     rw [hv.rlb, rlbL_plain _ h1.plain]
     rw [w64 (n := w + 1) (by omega)]
     exact ⟨(b, r, pts, bh, d, m, cap, L, i + 1, s, w + 1, dg, q, .own d' (m2 + 1) cap1, dr, f, cr, fm), rfl, rfl, by simp only [S133_0, Bool.and_eq_true, decide_eq_true_eq]; exact ⟨rowIOK_iff.2 h1, hV, by simp only [Rw.z, hl1]; omega⟩, by simp only; omega, by simp only [S133_0]; refine c_imp hf ?_ (fun g => g); rintro ⟨-, g⟩; exact ⟨fun q => (by cases q), fun pts' bh' w' dg' q' fm' d'' m'' cap'' g1 g2 g3 => g pts' bh' w' dg' q' fm' d'' m'' cap'' g1 (by rw [g2]; simp [Rw.z, h2]) g3⟩⟩
   ·have h := of_decide_eq_false h
    rw [hv.end (by omega), rolesP, plGo, cond_true] at hf
    obtain rfl : i = m := by omega
    refine c_t (by rw [goodL_plain hv.plain, goodL_plain hr.plain]; rfl) ?_
    rw [hv.rlb, rlbL_plain _ hr.plain]
    exact hf.2 pts bh w dg q fm d2 m2 cap2 hR (by simp) rfl
theorem fn133 : Fn1 Tryz.prog 245 Tryz.f245 := ⟨Tryz.func245, by kernel_rfl, by kernel_rfl, by kernel_rfl⟩
def G23 : Env := Env.nil.add 272 (sp2 s141)
theorem ok_G23 : EnvOK Tryz.prog G23 := env_add env_nil ok141
theorem at_ints : ∀ {d : List Value} {n j : Nat}, isInts (d.take n) = true → j < n → n ≤ d.length → isIntAt .i64 d j = true ∧ intAt d j = (d.map iv).getD j 0
 | .int .i64 k :: r, n + 1, 0, _, _, _ => ⟨rfl, rfl⟩
 | .int .i64 k :: r, n + 1, j + 1, h, hj, hn => by
  have := at_ints (d := r) (n := n) (j := j) (by simpa [isInts] using h) (by omega) (by simpa using hn)
  simpa [isIntAt, intAt] using this
 | [], n + 1, j, _, hj, hn => by simp at hn
 | .bool _ :: r, n + 1, j, h, _, _ | .string _ :: r, n + 1, j, h, _, _ | .float _ _ :: r, n + 1, j, h, _, _ | .complex _ _ _ :: r, n + 1, j, h, _, _ | .pointer _ :: r, n + 1, j, h, _, _ | .slice _ _ _ :: r, n + 1, j, h, _, _
 | .agg _ :: r, n + 1, j, h, _, _ | .tuple _ :: r, n + 1, j, h, _, _ | .iface _ _ :: r, n + 1, j, h, _, _ | .func _ _ _ :: r, n + 1, j, h, _, _ | .map _ :: r, n + 1, j, h, _, _ | .chan _ :: r, n + 1, j, h, _, _ | .nilFunc :: r, n + 1, j, h, _, _ | .nilIface :: r, n + 1, j, h, _, _ => by
  simp [isInts] at h
 | .int .i8 _ :: r, n + 1, j, h, _, _ | .int .i16 _ :: r, n + 1, j, h, _, _ | .int .i32 _ :: r, n + 1, j, h, _, _ | .int .u8 _ :: r, n + 1, j, h, _, _ | .int .u16 _ :: r, n + 1, j, h, _, _ | .int .u32 _ :: r, n + 1, j, h, _, _ | .int .u64 _ :: r, n + 1, j, h, _, _ => by
  simp [isInts] at h
theorem RowI.at {d : List Value} {m cap : Nat} (h : RowI d m cap) {j : Int} (h0 : 0 ≤ j) (hj : j < m) : isIntAt .i64 d j.toNat = true ∧ (zc d m).drop j.toNat = intAt d j.toNat :: (zc d m).drop (j + 1).toNat := by
 have hl := h.len
 have hle := h.le
 obtain ⟨q1, q2⟩ := at_ints h.bytes (j := j.toNat) (by omega) (by omega)
 refine ⟨q1, ?_⟩
 rw [getD_drop (zc d m) _ (by rw [zi_length h]; omega), show (j + 1).toNat = j.toNat + 1 by omega, q2]
 congr 1
 simp only [zc, List.getD_eq_getElem?_getD, List.getElem?_map, List.getElem?_take]
 rw [if_pos (by omega)]
theorem RowI.end {d : List Value} {m cap : Nat} (h : RowI d m cap) {j : Int} (hj : (m : Int) ≤ j) : (zc d m).drop j.toNat = [] := List.drop_eq_nil_of_le (by rw [zi_length h]; omega)
def loGo (f : Int) : List Int → Int → Int → Int
 | [], _, a => a
 | r :: rs, i, a => loGo f rs (i + 1) (bif r == 0 || (r == 1 || i == f) then imin a i else a)
def hiGo (f : Int) : List Int → Int → Int → Int
 | [], _, a => a
 | r :: rs, i, a => hiGo f rs (i + 1) (bif r == 0 || (r == 1 || i == f) then imax a i else a)
def stP (f lo hi : Int) : List Int → Int → Bool
 | [], _ => true
 | r :: rs, i => !((r == 4 || r == 5) && (i != f && (decide (i > lo) && decide (i < hi)))) && stP f lo hi rs (i + 1)
def siGo : List Int → List Int → Int
 | c :: cs, r :: rs => (bif r == 4 || hasZ [84, 73, 82] c then 1 else 0) + siGo cs rs
 | _, _ => 0
def V134_0 : ByteArray × Bool × Int × Int × Nat × Nat × Int × Int × ByteArray × Int × Int × Int × List Value × Nat × Nat × Int × Int × Bool × Int → List Value := fun (b, r, lo, hi, m3, cap3, L, i, s, w, dg, q, d2, m2, cap2, dr, f, cr, fm) => [.pointer (some ⟨3, 0, some 0⟩), S b, B r, I lo, I hi, .slice (some ⟨401, 0, some 1⟩) m3 cap3, I L, I i]
def B134_0 : ByteArray × Bool × Int × Int × Nat × Nat × Int × Int × ByteArray × Int × Int × Int × List Value × Nat × Nat × Int × Int × Bool × Int → List (Option Blk) := fun (b, r, lo, hi, m3, cap3, L, i, s, w, dg, q, d2, m2, cap2, dr, f, cr, fm) => [some ⟨[.string s, .bool true, .int .i64 w, .int .i64 dg, .int .i64 q, .bool false, .slice (some ⟨401, 0, some 1⟩) m2 cap2, .int .u8 dr, .int .i64 f, .bool cr, .int .u8 32, .int .i64 fm], 156, true⟩, some ⟨d2, 251, true⟩]
def S134_0 : LSpecA (ByteArray × Bool × Int × Int × Nat × Nat × Int × Int × ByteArray × Int × Int × Int × List Value × Nat × Nat × Int × Int × Bool × Int) where
 live := [0, 1, 4, 5, 6, 16, 17, 18]
 mid := [3, 401]
 n := 520
 ap := []
 dec vs bs := match vs, bs with | [.pointer (some ⟨3, 0, some 0⟩), .string b, .bool r, .int .i64 lo, .int .i64 hi, .slice (some ⟨401, 0, some 1⟩) m3 cap3, .int .i64 L, .int .i64 i], [some ⟨[.string s, .bool true, .int .i64 w, .int .i64 dg, .int .i64 q, .bool false, .slice (some ⟨401, 0, some 1⟩) m2 cap2, .int .u8 dr, .int .i64 f, .bool cr, .int .u8 32, .int .i64 fm], 156, true⟩, some ⟨d2, 251, true⟩] => some (b, r, lo, hi, m3, cap3, L, i, s, w, dg, q, d2, m2, cap2, dr, f, cr, fm) | _, _ => none
 pre := fun (b, r, lo, hi, m3, cap3, L, i, s, w, dg, q, d2, m2, cap2, dr, f, cr, fm) => rowIOK d2 m2 cap2 && decide (0 ≤ i ∧ i ≤ m2 ∧ m2 ≤ 1000 ∧ L = m2 ∧ m3 = m2)
 fin := fun (b, r, lo, hi, m3, cap3, L, i, s, w, dg, q, d2, m2, cap2, dr, f, cr, fm) Z => ∀ lo' hi', loGo f ((zc d2 m2).drop i.toNat) i lo = lo' → hiGo f ((zc d2 m2).drop i.toNat) i hi = hi' → Z (.exit 0) [.pointer (some ⟨3, 0, some 0⟩), S b, B r, I lo', I hi', .slice (some ⟨401, 0, some 1⟩) m3 cap3, I L, I m2] [some ⟨[.string s, .bool true, .int .i64 w, .int .i64 dg, .int .i64 q, .bool false, .slice (some ⟨401, 0, some 1⟩) m2 cap2, .int .u8 dr, .int .i64 f, .bool cr, .int .u8 32, .int .i64 fm], 156, true⟩, some ⟨d2, 251, true⟩]
theorem r134_0 (b : ByteArray) (r : Bool) (lo : Int) (hi : Int) (m3 : Nat) (cap3 : Nat) (L : Int) (i : Int) (s : ByteArray) (w : Int) (dg : Int) (q : Int) (d2 : List Value) (m2 : Nat) (cap2 : Nat) (dr : Int) (f : Int) (cr : Bool) (fm : Int) (jk : Tmps) (R : Exit → List Value → List (Option Blk) → Prop) : (codeQ Tryz.prog G23 noL Tryz.f246.ntmps (loopOf Tryz.f246 0) (tl S134_0.live (V134_0 (b, r, lo, hi, m3, cap3, L, i, s, w, dg, q, d2, m2, cap2, dr, f, cr, fm)) jk) (ml S134_0.mid (B134_0 (b, r, lo, hi, m3, cap3, L, i, s, w, dg, q, d2, m2, cap2, dr, f, cr, fm))) S134_0.n fun e t' m' _ => S134_0.out R e t' m') = ( bif decide (i < L) then bif decide (0 ≤ i ∧ i < (↑m3 : Int)) then bif isIntAt IntKind.i64 d2 (0 + Int.toNat i * 1) then bif intAt d2 (0 + Int.toNat i * 1) == 0 || (intAt d2 (0 + Int.toNat i * 1) == 1 || true) then bif intAt d2 (0 + Int.toNat i * 1) == 0 || (intAt d2 (0 + Int.toNat i * 1) == 1 || i == f) then bif goodL [] d2 && true && true then R Exit.normal [.pointer (some (.mk 3 0 (some 0))), S b, B r, I (imin lo i), I (imax hi i), .slice (some (.mk 401 0 (some 1))) m3 cap3, I L, I (IntKind.wrap .i64 (i + 1))] [some (.mk [S s, B true, I w, I dg, I q, B false, .slice (some (.mk 401 0 (some 1))) m2 cap2, .int .u8 dr, I f, B cr, .int .u8 32, I fm] 156 true), some (.mk (rlbL [] d2) 251 true)] else False else bif goodL [] d2 && true && true then R Exit.normal [.pointer (some (.mk 3 0 (some 0))), S b, B r, I lo, I hi, .slice (some (.mk 401 0 (some 1))) m3 cap3, I L, I (IntKind.wrap .i64 (i + 1))] [some (.mk [S s, B true, I w, I dg, I q, B false, .slice (some (.mk 401 0 (some 1))) m2 cap2, .int .u8 dr, I f, B cr, .int .u8 32, I fm] 156 true), some (.mk (rlbL [] d2) 251 true)] else False else False else False else False else bif goodL [] d2 && true && true then R (Exit.exit 0) [.pointer (some (.mk 3 0 (some 0))), S b, B r, I lo, I hi, .slice (some (.mk 401 0 (some 1))) m3 cap3, I L, I i] [some (.mk [S s, B true, I w, I dg, I q, B false, .slice (some (.mk 401 0 (some 1))) m2 cap2, .int .u8 dr, I f, B cr, .int .u8 32, I fm] 156 true), some (.mk (rlbL [] d2) 251 true)] else False) := by kernel_rfl
theorem l134_0 : ∀ t m n K, S134_0.hA t m n K → Ab.Sem Tryz.prog Tryz.f246.ntmps (.loop (loopOf Tryz.f246 0)) t m n K := by
 refine loop_specA ok_G23 hmix (by kernel_rfl) (lok_none _) S134_0 V134_0 B134_0 (fun (b, r, lo, hi, m3, cap3, L, i, s, w, dg, q, d2, m2, cap2, dr, f, cr, fm) => (m2 - i).toNat) ?_ ?_ ?_
 ·intro vs bs s h
  simp only [S134_0] at h
  split at h
  all_goals first | (cases h; exact ⟨rfl, rfl⟩) | cases h | (split at h <;> first | (rename_i hq; cases h; have hq := Nat.eq_of_beq_eq_true hq; subst hq; exact ⟨rfl, rfl⟩) | cases h)
 ·exact fun ⟨b, r, lo, hi, m3, cap3, L, i, s, w, dg, q, d2, m2, cap2, dr, f, cr, fm⟩ hp => by
   simp only [S134_0, Bool.and_eq_true] at hp
   have hr := rowIOK_iff.1 hp.1
   simp [V134_0, B134_0, S134_0, idsLt, idsLtB, idsL, ids, ids_plainL hr.plain]
 ·intro ⟨b, r, lo, hi, m3, cap3, L, i, s, w, dg, q, d2, m2, cap2, dr, f, cr, fm⟩ jk Z hp hf
  rw [r134_0]
  simp only [S134_0] at hp hf
  simp only [Bool.and_eq_true, decide_eq_true_eq] at hp
  obtain ⟨hR, hp⟩ := hp
  have hr := rowIOK_iff.1 hR
  have hzl := zi_length hr
  have e0 : 0 + i.toNat * 1 = i.toNat := by omega
  rw [e0]
  simp only [hr.rlb]
  have hg : ∀ ps, (goodL ps d2 && true && true) = true := fun ps => by rw [hr.good]; rfl
  refine cond_intro (fun h => ?_) (fun h => ?_)
  ·have h := of_decide_eq_true h
   obtain ⟨a1, a3⟩ := hr.at hp.1 (by omega)
   rw [a3, loGo, hiGo] at hf
   rw [a1, w64 (n := i + 1) (by omega)]
   generalize intAt d2 i.toNat = c at *
   refine c_t (decide_eq_true (by omega)) (c_t rfl (c_t (by simp) (cond_intro (fun z => c_t (hg _) ?_) (fun z => c_t (hg _) ?_))))
   ·rw [z, cond_true, cond_true] at hf
    exact ⟨(b, r, imin lo i, imax hi i, m3, cap3, L, i + 1, s, w, dg, q, d2, m2, cap2, dr, f, cr, fm), rfl, rfl, by simp only [S134_0, Bool.and_eq_true, decide_eq_true_eq]; exact ⟨hR, by omega⟩, by simp only; omega, hf⟩
   ·rw [z, cond_false, cond_false] at hf
    exact ⟨(b, r, lo, hi, m3, cap3, L, i + 1, s, w, dg, q, d2, m2, cap2, dr, f, cr, fm), rfl, rfl, by simp only [S134_0, Bool.and_eq_true, decide_eq_true_eq]; exact ⟨hR, by omega⟩, by simp only; omega, hf⟩
  ·have h := of_decide_eq_false h
   rw [hr.end (by omega), loGo, hiGo] at hf
   obtain rfl : i = m2 := by omega
   exact c_t (hg _) (hf lo hi rfl rfl)
def V134_2 : ByteArray × Bool × Int × Int × Nat × Nat × Int × Int × ByteArray × Int × Int × Int × List Value × Nat × Nat × Int × Int × Bool × Int → List Value := fun (b, r, lo, hi, m3, cap3, L, i, s, w, dg, q, d2, m2, cap2, dr, f, cr, fm) => [.pointer (some ⟨3, 0, some 0⟩), S b, B r, I lo, I hi, .slice (some ⟨401, 0, some 1⟩) m3 cap3, I L, I i]
def B134_2 : ByteArray × Bool × Int × Int × Nat × Nat × Int × Int × ByteArray × Int × Int × Int × List Value × Nat × Nat × Int × Int × Bool × Int → List (Option Blk) := fun (b, r, lo, hi, m3, cap3, L, i, s, w, dg, q, d2, m2, cap2, dr, f, cr, fm) => [some ⟨[.string s, .bool true, .int .i64 w, .int .i64 dg, .int .i64 q, .bool false, .slice (some ⟨401, 0, some 1⟩) m2 cap2, .int .u8 dr, .int .i64 f, .bool cr, .int .u8 32, .int .i64 fm], 156, true⟩, some ⟨d2, 251, true⟩]
def S134_2 : LSpecA (ByteArray × Bool × Int × Int × Nat × Nat × Int × Int × ByteArray × Int × Int × Int × List Value × Nat × Nat × Int × Int × Bool × Int) where
 live := [0, 1, 4, 5, 6, 47, 48, 49]
 mid := [3, 401]
 n := 560
 ap := []
 dec vs bs := match vs, bs with | [.pointer (some ⟨3, 0, some 0⟩), .string b, .bool r, .int .i64 lo, .int .i64 hi, .slice (some ⟨401, 0, some 1⟩) m3 cap3, .int .i64 L, .int .i64 i], [some ⟨[.string s, .bool true, .int .i64 w, .int .i64 dg, .int .i64 q, .bool false, .slice (some ⟨401, 0, some 1⟩) m2 cap2, .int .u8 dr, .int .i64 f, .bool cr, .int .u8 32, .int .i64 fm], 156, true⟩, some ⟨d2, 251, true⟩] => some (b, r, lo, hi, m3, cap3, L, i, s, w, dg, q, d2, m2, cap2, dr, f, cr, fm) | _, _ => none
 pre := fun (b, r, lo, hi, m3, cap3, L, i, s, w, dg, q, d2, m2, cap2, dr, f, cr, fm) => rowIOK d2 m2 cap2 && decide (0 ≤ i ∧ i ≤ m2 ∧ m2 ≤ 1000 ∧ L = m2 ∧ m3 = m2)
 fin := fun (b, r, lo, hi, m3, cap3, L, i, s, w, dg, q, d2, m2, cap2, dr, f, cr, fm) Z => (bif stP f lo hi ((zc d2 m2).drop i.toNat) i then Z (.exit 2) [.pointer (some ⟨3, 0, some 0⟩), S b, B r, I lo, I hi, .slice (some ⟨401, 0, some 1⟩) m3 cap3, I L, I m2] [some ⟨[.string s, .bool true, .int .i64 w, .int .i64 dg, .int .i64 q, .bool false, .slice (some ⟨401, 0, some 1⟩) m2 cap2, .int .u8 dr, .int .i64 f, .bool cr, .int .u8 32, .int .i64 fm], 156, true⟩, some ⟨d2, 251, true⟩] else ∀ i', Z .ret [.pointer (some ⟨3, 0, some 0⟩), S b, B false, I lo, I hi, .slice (some ⟨401, 0, some 1⟩) m3 cap3, I L, I i'] [some ⟨[.string s, .bool true, .int .i64 w, .int .i64 dg, .int .i64 q, .bool false, .slice (some ⟨401, 0, some 1⟩) m2 cap2, .int .u8 dr, .int .i64 f, .bool cr, .int .u8 32, .int .i64 fm], 156, true⟩, some ⟨d2, 251, true⟩])
theorem r134_2 (b : ByteArray) (r : Bool) (lo : Int) (hi : Int) (m3 : Nat) (cap3 : Nat) (L : Int) (i : Int) (s : ByteArray) (w : Int) (dg : Int) (q : Int) (d2 : List Value) (m2 : Nat) (cap2 : Nat) (dr : Int) (f : Int) (cr : Bool) (fm : Int) (jk : Tmps) (R : Exit → List Value → List (Option Blk) → Prop) : (codeQ Tryz.prog G23 noL Tryz.f246.ntmps (loopOf Tryz.f246 2) (tl S134_2.live (V134_2 (b, r, lo, hi, m3, cap3, L, i, s, w, dg, q, d2, m2, cap2, dr, f, cr, fm)) jk) (ml S134_2.mid (B134_2 (b, r, lo, hi, m3, cap3, L, i, s, w, dg, q, d2, m2, cap2, dr, f, cr, fm))) S134_2.n fun e t' m' _ => S134_2.out R e t' m') = ( bif decide (i < L) then bif decide (0 ≤ i ∧ i < (↑m3 : Int)) then bif isIntAt IntKind.i64 d2 (0 + Int.toNat i * 1) then bif bif intAt d2 (0 + Int.toNat i * 1) == 4 then bif i != f then decide (i > lo) || true else true else bif intAt d2 (0 + Int.toNat i * 1) == 5 then bif i != f then decide (i > lo) || true else true else true then bif bif intAt d2 (0 + Int.toNat i * 1) == 4 then i != f && (decide (i > lo) && decide (i < hi)) else intAt d2 (0 + Int.toNat i * 1) == 5 && (i != f && (decide (i > lo) && decide (i < hi))) then bif goodL [] d2 && true && true then R Exit.ret [.pointer (some (.mk 3 0 (some 0))), S b, B false, I lo, I hi, .slice (some (.mk 401 0 (some 1))) m3 cap3, I L, I i] [some (.mk [S s, B true, I w, I dg, I q, B false, .slice (some (.mk 401 0 (some 1))) m2 cap2, .int .u8 dr, I f, B cr, .int .u8 32, I fm] 156 true), some (.mk (rlbL [] d2) 251 true)] else False else bif goodL [] d2 && true && true then R Exit.normal [.pointer (some (.mk 3 0 (some 0))), S b, B r, I lo, I hi, .slice (some (.mk 401 0 (some 1))) m3 cap3, I L, I (IntKind.wrap .i64 (i + 1))] [some (.mk [S s, B true, I w, I dg, I q, B false, .slice (some (.mk 401 0 (some 1))) m2 cap2, .int .u8 dr, I f, B cr, .int .u8 32, I fm] 156 true), some (.mk (rlbL [] d2) 251 true)] else False else False else False else False else bif goodL [] d2 && true && true then R (Exit.exit 2) [.pointer (some (.mk 3 0 (some 0))), S b, B r, I lo, I hi, .slice (some (.mk 401 0 (some 1))) m3 cap3, I L, I i] [some (.mk [S s, B true, I w, I dg, I q, B false, .slice (some (.mk 401 0 (some 1))) m2 cap2, .int .u8 dr, I f, B cr, .int .u8 32, I fm] 156 true), some (.mk (rlbL [] d2) 251 true)] else False) := by kernel_rfl
theorem l134_2 : ∀ t m n K, S134_2.hA t m n K → Ab.Sem Tryz.prog Tryz.f246.ntmps (.loop (loopOf Tryz.f246 2)) t m n K := by
 refine loop_specA ok_G23 hmix (by kernel_rfl) (lok_none _) S134_2 V134_2 B134_2 (fun (b, r, lo, hi, m3, cap3, L, i, s, w, dg, q, d2, m2, cap2, dr, f, cr, fm) => (m2 - i).toNat) ?_ ?_ ?_
 ·intro vs bs s h
  simp only [S134_2] at h
  split at h
  all_goals first | (cases h; exact ⟨rfl, rfl⟩) | cases h | (split at h <;> first | (rename_i hq; cases h; have hq := Nat.eq_of_beq_eq_true hq; subst hq; exact ⟨rfl, rfl⟩) | cases h)
 ·exact fun ⟨b, r, lo, hi, m3, cap3, L, i, s, w, dg, q, d2, m2, cap2, dr, f, cr, fm⟩ hp => by
   simp only [S134_2, Bool.and_eq_true] at hp
   have hr := rowIOK_iff.1 hp.1
   simp [V134_2, B134_2, S134_2, idsLt, idsLtB, idsL, ids, ids_plainL hr.plain]
 ·intro ⟨b, r, lo, hi, m3, cap3, L, i, s, w, dg, q, d2, m2, cap2, dr, f, cr, fm⟩ jk Z hp hf
  rw [r134_2]
  simp only [S134_2] at hp hf
  simp only [Bool.and_eq_true, decide_eq_true_eq] at hp
  obtain ⟨hR, hp⟩ := hp
  have hr := rowIOK_iff.1 hR
  have hzl := zi_length hr
  have e0 : 0 + i.toNat * 1 = i.toNat := by omega
  rw [e0]
  simp only [hr.rlb]
  have hg : ∀ ps, (goodL ps d2 && true && true) = true := fun ps => by rw [hr.good]; rfl
  refine cond_intro (fun h => ?_) (fun h => ?_)
  ·have h := of_decide_eq_true h
   obtain ⟨a1, a3⟩ := hr.at hp.1 (by omega)
   rw [a3, stP] at hf
   rw [a1, w64 (n := i + 1) (by omega)]
   generalize intAt d2 i.toNat = c at *
   have e : (bif c == 4 then i != f && (decide (i > lo) && decide (i < hi)) else c == 5 && (i != f && (decide (i > lo) && decide (i < hi)))) = ((c == 4 || c == 5) && (i != f && (decide (i > lo) && decide (i < hi)))) := by cases c == 4 <;> rfl
   rw [e]
   refine c_t (decide_eq_true (by omega)) (c_t rfl (c_t (by simp) (cond_intro (fun z => c_t (hg _) ?_) (fun z => c_t (hg _) ?_))))
   ·rw [z, Bool.not_true, Bool.false_and, cond_false] at hf
    exact hf i
   ·rw [z, Bool.not_false, Bool.true_and] at hf
    exact ⟨(b, r, lo, hi, m3, cap3, L, i + 1, s, w, dg, q, d2, m2, cap2, dr, f, cr, fm), rfl, rfl, by simp only [S134_2, Bool.and_eq_true, decide_eq_true_eq]; exact ⟨hR, by omega⟩, by simp only; omega, hf⟩
  ·have h := of_decide_eq_false h
   rw [hr.end (by omega), stP, cond_true] at hf
   obtain rfl : i = m2 := by omega
   exact c_t (hg _) hf
def V135_0 : ByteArray × Int × Int × List Value × Nat × Nat × Int × Int × ByteArray × Int × Int × Int × List Value × Nat × Nat × Int × Int × Bool × Int → List Value := fun (b, r, n, d, m, cap, L, i, s, w, dg, q, d2, m2, cap2, dr, f, cr, fm) => [.pointer (some ⟨3, 0, some 0⟩), S b, I r, I n, .slice (some ⟨600, 0, some 1⟩) m cap, I L, I i]
def B135_0 : ByteArray × Int × Int × List Value × Nat × Nat × Int × Int × ByteArray × Int × Int × Int × List Value × Nat × Nat × Int × Int × Bool × Int → List (Option Blk) := fun (b, r, n, d, m, cap, L, i, s, w, dg, q, d2, m2, cap2, dr, f, cr, fm) => [some ⟨[.string s, .bool true, .int .i64 w, .int .i64 dg, .int .i64 q, .bool false, .slice (some ⟨401, 0, some 1⟩) m2 cap2, .int .u8 dr, .int .i64 f, .bool cr, .int .u8 32, .int .i64 fm], 156, true⟩, some ⟨d, 5, false⟩, some ⟨d2, 251, true⟩]
def S135_0 : LSpecA (ByteArray × Int × Int × List Value × Nat × Nat × Int × Int × ByteArray × Int × Int × Int × List Value × Nat × Nat × Int × Int × Bool × Int) where
 live := [0, 1, 4, 5, 9, 10, 11]
 mid := [3, 600, 401]
 n := 610
 ap := [(.tmp 9, 600)]
 dec vs bs := match vs, bs with | [.pointer (some ⟨3, 0, some 0⟩), .string b, .int .i64 r, .int .i64 n, .slice (some ⟨600, 0, some 1⟩) m cap, .int .i64 L, .int .i64 i], [some ⟨[.string s, .bool true, .int .i64 w, .int .i64 dg, .int .i64 q, .bool false, .slice (some ⟨401, 0, some 1⟩) m2 cap2, .int .u8 dr, .int .i64 f, .bool cr, .int .u8 32, .int .i64 fm], 156, true⟩, some ⟨d, 5, false⟩, some ⟨d2, 251, true⟩] => some (b, r, n, d, m, cap, L, i, s, w, dg, q, d2, m2, cap2, dr, f, cr, fm) | _, _ => none
 pre := fun (b, r, n, d, m, cap, L, i, s, w, dg, q, d2, m2, cap2, dr, f, cr, fm) => rowIOK d2 m2 cap2 && (vwOK d m && decide (0 ≤ i ∧ i ≤ m ∧ m2 = m ∧ m ≤ 1000 ∧ L = m ∧ 0 ≤ n ∧ n ≤ i))
 fin := fun (b, r, n, d, m, cap, L, i, s, w, dg, q, d2, m2, cap2, dr, f, cr, fm) Z => ∀ n', n + siGo ((zc d m).drop i.toNat) ((zc d2 m2).drop i.toNat) = n' → Z (.exit 0) [.pointer (some ⟨3, 0, some 0⟩), S b, I r, I n', .slice (some ⟨600, 0, some 1⟩) m cap, I L, I m] [some ⟨[.string s, .bool true, .int .i64 w, .int .i64 dg, .int .i64 q, .bool false, .slice (some ⟨401, 0, some 1⟩) m2 cap2, .int .u8 dr, .int .i64 f, .bool cr, .int .u8 32, .int .i64 fm], 156, true⟩, some ⟨d, 5, false⟩, some ⟨d2, 251, true⟩]
theorem r135_0 (b : ByteArray) (r : Int) (n : Int) (d : List Value) (m : Nat) (cap : Nat) (L : Int) (i : Int) (s : ByteArray) (w : Int) (dg : Int) (q : Int) (d2 : List Value) (m2 : Nat) (cap2 : Nat) (dr : Int) (f : Int) (cr : Bool) (fm : Int) (jk : Tmps) (R : Exit → List Value → List (Option Blk) → Prop) : (codeQ Tryz.prog G23 noL Tryz.f247.ntmps (loopOf Tryz.f247 0) (tl S135_0.live (V135_0 (b, r, n, d, m, cap, L, i, s, w, dg, q, d2, m2, cap2, dr, f, cr, fm)) jk) (ml S135_0.mid (B135_0 (b, r, n, d, m, cap, L, i, s, w, dg, q, d2, m2, cap2, dr, f, cr, fm))) S135_0.n fun e t' m' _ => S135_0.out R e t' m') = ( bif decide (i < L) then bif decide (0 ≤ i ∧ i < (↑m : Int)) then bif isIntAt IntKind.u8 d (0 + Int.toNat i * 1) then bif decide (0 ≤ i ∧ i < (↑m2 : Int)) && (isIntAt IntKind.i64 d2 (0 + Int.toNat i * 1) && (intAt d2 (0 + Int.toNat i * 1) == 4 || decide (0 ≤ intAt d (0 + Int.toNat i * 1) ∧ intAt d (0 + Int.toNat i * 1) < 256) && true)) then bif intAt d2 (0 + Int.toNat i * 1) == 4 || decide (idxZ (bz (ByteArray.mk #[84, 73, 82])) (intAt d (0 + Int.toNat i * 1)) ≥ 0) then bif goodL [(600, 600)] d && (goodL [(600, 600)] d2 && true) && true then R Exit.normal [.pointer (some (.mk 3 0 (some 0))), S b, I r, I (IntKind.wrap .i64 (n + 1)), .slice (some (.mk 600 0 (some 1))) m cap, I L, I (IntKind.wrap .i64 (i + 1))] [some (.mk [S s, B true, I w, I dg, I q, B false, .slice (some (.mk 401 0 (some 1))) m2 cap2, .int .u8 dr, I f, B cr, .int .u8 32, I fm] 156 true), some (.mk (rlbL [(600, 600)] d) 5 false), some (.mk (rlbL [(600, 600)] d2) 251 true)] else False else bif goodL [(600, 600)] d && (goodL [(600, 600)] d2 && true) && true then R Exit.normal [.pointer (some (.mk 3 0 (some 0))), S b, I r, I n, .slice (some (.mk 600 0 (some 1))) m cap, I L, I (IntKind.wrap .i64 (i + 1))] [some (.mk [S s, B true, I w, I dg, I q, B false, .slice (some (.mk 401 0 (some 1))) m2 cap2, .int .u8 dr, I f, B cr, .int .u8 32, I fm] 156 true), some (.mk (rlbL [(600, 600)] d) 5 false), some (.mk (rlbL [(600, 600)] d2) 251 true)] else False else False else False else False else bif goodL [(600, 600)] d && (goodL [(600, 600)] d2 && true) && true then R (Exit.exit 0) [.pointer (some (.mk 3 0 (some 0))), S b, I r, I n, .slice (some (.mk 600 0 (some 1))) m cap, I L, I i] [some (.mk [S s, B true, I w, I dg, I q, B false, .slice (some (.mk 401 0 (some 1))) m2 cap2, .int .u8 dr, I f, B cr, .int .u8 32, I fm] 156 true), some (.mk (rlbL [(600, 600)] d) 5 false), some (.mk (rlbL [(600, 600)] d2) 251 true)] else False) := by kernel_rfl
theorem l135_0 : LOKf Tryz.prog (oneL 0 S135_0.hA) Tryz.f247 := by
 refine lokf_one (h := S135_0.hA) (by kernel_rfl) (loop_specA ok_G23 hmix (by kernel_rfl) (lok_none _) S135_0 V135_0 B135_0 (fun (b, r, n, d, m, cap, L, i, s, w, dg, q, d2, m2, cap2, dr, f, cr, fm) => (m - i).toNat) ?_ ?_ ?_)
 ·intro vs bs s h
  simp only [S135_0] at h
  split at h
  all_goals first | (cases h; exact ⟨rfl, rfl⟩) | cases h | (split at h <;> first | (rename_i hq; cases h; have hq := Nat.eq_of_beq_eq_true hq; subst hq; exact ⟨rfl, rfl⟩) | cases h)
 ·exact fun ⟨b, r, n, d, m, cap, L, i, s, w, dg, q, d2, m2, cap2, dr, f, cr, fm⟩ hp => by
   simp only [S135_0, Bool.and_eq_true] at hp
   have hr := rowIOK_iff.1 hp.1
   simp [V135_0, B135_0, S135_0, idsLt, idsLtB, idsL, ids, ids_plainL hr.plain, ids_plainL (vwOK_iff.1 hp.2.1).plain]
 ·intro ⟨b, r, n, d, m, cap, L, i, s, w, dg, q, d2, m2, cap2, dr, f, cr, fm⟩ jk Z hp hf
  rw [r135_0]
  simp only [S135_0] at hp hf
  simp only [Bool.and_eq_true, decide_eq_true_eq] at hp
  obtain ⟨hR, hV, hp⟩ := hp
  have hr := rowIOK_iff.1 hR
  have hzl := zi_length hr
  have hv := vwOK_iff.1 hV
  have e0 : 0 + i.toNat * 1 = i.toNat := by omega
  rw [e0]
  simp only [hr.rlb, hv.rlb]
  have hg : ∀ ps, (goodL ps d && (goodL ps d2 && true) && true) = true := fun ps => by rw [hr.good, goodL_plain hv.plain]; rfl
  have k : bz ⟨#[84, 73, 82]⟩ = [84, 73, 82] := rfl
  rw [k]
  refine cond_intro (fun h => ?_) (fun h => ?_)
  ·have h := of_decide_eq_true h
   obtain ⟨a1, a3⟩ := hr.at hp.1 (by omega)
   obtain ⟨b1, b2, b3⟩ := hv.at hp.1 (by omega)
   rw [a3, b3, siGo] at hf
   rw [a1, b1, w64 (n := i + 1) (by omega), idx_pos]
   generalize intAt d2 i.toNat = c at *
   generalize intAt d i.toNat = x at *
   refine c_t (decide_eq_true (by omega)) (c_t rfl (c_t (by rw [decide_eq_true (show 0 ≤ i ∧ i < (m2 : Int) by omega), decide_eq_true b2]; simp) (cond_intro (fun z => c_t (hg _) ?_) (fun z => c_t (hg _) ?_))))
   ·rw [z, cond_true, ← Int.add_assoc] at hf
    rw [w64 (n := n + 1) (by omega)]
    exact ⟨(b, r, n + 1, d, m, cap, L, i + 1, s, w, dg, q, d2, m2, cap2, dr, f, cr, fm), rfl, rfl, by simp only [S135_0, Bool.and_eq_true, decide_eq_true_eq]; exact ⟨hR, hV, by omega⟩, by simp only; omega, hf⟩
   ·rw [z, cond_false, Int.zero_add] at hf
    exact ⟨(b, r, n, d, m, cap, L, i + 1, s, w, dg, q, d2, m2, cap2, dr, f, cr, fm), rfl, rfl, by simp only [S135_0, Bool.and_eq_true, decide_eq_true_eq]; exact ⟨hR, hV, by omega⟩, by simp only; omega, hf⟩
  ·have h := of_decide_eq_false h
   rw [hv.end (by omega), siGo, Int.add_zero] at hf
   obtain rfl : i = m := by omega
   exact c_t (hg _) (hf n rfl)
   intro _ _ _ _ h1
   cases h1
theorem fn134 : Fn1 Tryz.prog 246 Tryz.f246 := ⟨Tryz.func246, by kernel_rfl, by kernel_rfl, by kernel_rfl⟩
theorem fn135 : Fn1 Tryz.prog 247 Tryz.f247 := ⟨Tryz.func247, by kernel_rfl, by kernel_rfl, by kernel_rfl⟩
theorem lok134 : LOKf Tryz.prog (twoL 0 S134_0.hA 2 S134_2.hA) Tryz.f246 := lokf_two (by kernel_rfl) (by kernel_rfl) l134_0 l134_2
def G24 : Env := Env.nil.add 272 (sp2 s141)
theorem ok_G24 : EnvOK Tryz.prog G24 := env_add env_nil ok141
def G25 : Env := ((((((Env.nil.add 129 (sp2 s132)).add 130 (sp2 s130)).add 203 (sp2 s102)).addG 244 (inlQ Tryz.prog G20 (oneL 0 S131_0.hA) Tryz.f244)).addG 245 (inlQ Tryz.prog G22 (oneL 0 S133_0.hA) Tryz.f245)).addG 246 (inlQ Tryz.prog G23 (twoL 0 S134_0.hA 2 S134_2.hA) Tryz.f246)).addG 247 (inlQ Tryz.prog G24 (oneL 0 S135_0.hA) Tryz.f247)
theorem ok_G25 : EnvOK Tryz.prog G25 := env_addG (env_addG (env_addG (env_addG (env_add (env_add (env_add env_nil ok132) ok130) ok102) (gen_inlQ ok_G20 hmix fn131 lok131)) (gen_inlQ ok_G22 hmix fn133 l133_0)) (gen_inlQ ok_G23 hmix fn134 lok134)) (gen_inlQ ok_G24 hmix fn135 l135_0)
def look (m : Lk) : Value → List (Option Blk)
 | Value.tuple ⟨[Value.pointer (some a), _]⟩ => match m a.block with
  | some b => match b.c[6]? with
   | some (Value.slice (some a') _ _) => [some b, m a'.block]
   | _ => [some b]
  | none => []
 | _ => []
def nD (b : List Int) : Bool × Int × Int := drfGo [36, 83, 43, 45] b 0 (-1)
def nR (b : List Int) : List Int := rolesP (nD b).2.1 (nD b).2.2 b 0
def nP (b : List Int) : Bool × PlS := plGo (nR b) ⟨0, false, 0, 0, 0, 0⟩
def nPok (b : List Int) : Bool := (nP b).1 && (decide ((nP b).2.pts ≤ 1) && (decide ((nP b).2.dg ≥ 1) && (decide ((nP b).2.dg ≤ 9) && !((nP b).2.bh && decide ((nP b).2.fm > 0)))))
def nS (b : List Int) : Bool := stP (nD b).2.2 (loGo (nD b).2.2 (nR b) 0 b.length) (hiGo (nD b).2.2 (nR b) 0 (-1)) (nR b) 0
def nG (b : List Int) (cr : Bool) : Int := siGo b (nR b) + (bif cr then 1 else 0)
def nSt (b : List Int) : Bool := hasZ b 42 && hasZ b 90 || (hasZ b 42 || hasZ b 90) && (nD b).2.1 != 0
def numQ (b : List Int) (cr : Bool) : Bool := !anyZ b [65, 88, 67, 68] && ((nD b).1 && (!nSt b && (nPok b && (nS b && decide (nG b cr ≤ 1)))))
def formC (s : ByteArray) (cr : Bool) (x m cap : Nat) : List Value :=
 [.string s, .bool true, .int .i64 ((nP (bodyZ (bz s))).2.w + (bif cr then 2 else 0)), .int .i64 (nP (bodyZ (bz s))).2.dg, .int .i64 (nP (bodyZ (bz s))).2.q, .bool (nG (bodyZ (bz s)) cr == 1),
  .slice (some ⟨x, 0, some 1⟩) m cap, .int .u8 (nD (bodyZ (bz s))).2.1, .int .i64 (nD (bodyZ (bz s))).2.2, .bool cr, .int .u8 (bif hasZ (bodyZ (bz s)) 42 then 42 else 32), .int .i64 (nP (bodyZ (bz s))).2.fm]
def nRoles (s : ByteArray) (cr : Bool) : List Int := nR (bodyZ (bz s)) ++ (bif cr then [4, 4] else [])
theorem roles_len (dr f : Int) : ∀ (l : List Int) (i : Int), (rolesP dr f l i).length = l.length
 | [], _ => rfl
 | c :: r, i => by simp [rolesP, roles_len dr f r]
theorem si_rng : ∀ (a b : List Int), 0 ≤ siGo a b ∧ siGo a b ≤ a.length
 | [], _ => by simp [siGo]
 | _ :: _, [] => by simp [siGo]; omega
 | c :: cs, r :: rs => by
  have := si_rng cs rs
  rw [siGo, List.length_cons]
  cases (r == 4 || hasZ [84, 73, 82] c) <;> simp only [cond_true, cond_false] <;> omega
theorem pl_rng : ∀ (l : List Int) (a : PlS), (a.w ≤ (plGo l a).2.w ∧ (plGo l a).2.w ≤ a.w + l.length) ∧ (a.dg ≤ (plGo l a).2.dg ∧ (plGo l a).2.dg ≤ a.dg + l.length) ∧ (a.fm ≤ (plGo l a).2.fm ∧ (plGo l a).2.fm ≤ a.fm + l.length)
 | [], a => by simp [plGo]
 | r :: rs, a => by
  rw [plGo, List.length_cons]
  cases r == 2 with
  | true => have := pl_rng rs ⟨a.pts + 1, a.bh, a.w, a.dg, a.q, a.fm⟩; simp only [cond_true] at this ⊢; omega
  | false =>
   cases r == 0 with
   | true => have := pl_rng rs ⟨a.pts, a.bh, a.w + 1, a.dg + 1, a.q + a.pts, a.fm + 1⟩; simp only [cond_true, cond_false] at this ⊢; omega
   | false =>
    cases r == 1 with
    | true =>
     cases decide (a.fm > 0) with
     | true => simp only [cond_true, cond_false]; omega
     | false => have := pl_rng rs ⟨a.pts, a.bh || decide (a.pts > 0), a.w + 1, a.dg + 1, a.q + a.pts, a.fm⟩; simp only [cond_true, cond_false] at this ⊢; omega
    | false => have := pl_rng rs ⟨a.pts, a.bh, a.w + 1, a.dg, a.q, a.fm⟩; simp only [cond_false] at this ⊢; omega
theorem body_at {s : List Int} {cr : Bool} (h : crZ s = cr) : bodyZ s = bif cr then s.take (s.length - 2) else s := by
 unfold bodyZ
 rw [h]
 cases cr <;> rfl
theorem cr_suf (l : List Int) : (sufZ l [67, 82] || sufZ l [68, 66]) = crZ l := by
 unfold sufZ crZ
 rw [Bool.eq_iff_iff]
 simp only [Bool.or_eq_true, Bool.and_eq_true, decide_eq_true_eq, List.length_cons, List.length_nil]
 constructor
 ·rintro (⟨a, b⟩ | ⟨a, b⟩)
  ·exact ⟨a, .inl b⟩
  ·exact ⟨a, .inr b⟩
 ·rintro ⟨a, b | b⟩
  ·exact .inl ⟨a, b⟩
  ·exact .inr ⟨a, b⟩
theorem asc_take {l : List Int} (h : asc l = true) (n : Nat) : asc (l.take n) = true := by
 simp only [asc, List.all_eq_true] at h ⊢
 exact fun x hx => h x (List.mem_of_mem_take hx)
theorem v103 (s : ByteArray) (R : Value → List (Option Blk) → Prop) : (bodyQ Tryz.prog G25 noL Tryz.f204 [S s] (fun _ => none) 0 (fun v m _ => R v (look m v))) = ( bif decide (ByteArray.size s ≤ 9223372036854775807) && (sufZ (bz s) (bz (ByteArray.mk #[67, 82])) || decide (ByteArray.size s ≤ 9223372036854775807) && true) then bif sufZ (bz s) (bz (ByteArray.mk #[67, 82])) || sufZ (bz s) (bz (ByteArray.mk #[68, 66])) then bif decide ((0 : Int) ≤ 0 ∧ 0 ≤ IntKind.wrap .i64 ((↑(ByteArray.size s) : Int) - 2) ∧ IntKind.wrap .i64 ((↑(ByteArray.size s) : Int) - 2) ≤ (↑(ByteArray.size s) : Int)) then bif decide (ByteArray.size (ByteArray.extract s 0 (Int.toNat (IntKind.wrap .i64 ((↑(ByteArray.size s) : Int) - 2)))) ≤ 1000) && (decide (ByteArray.size (ByteArray.mk #[65, 88, 67, 68]) ≤ 1000) && (asc (bz (ByteArray.extract s 0 (Int.toNat (IntKind.wrap .i64 ((↑(ByteArray.size s) : Int) - 2))))) && asc (bz (ByteArray.mk #[65, 88, 67, 68])))) then bif anyZ (bz (ByteArray.extract s 0 (Int.toNat (IntKind.wrap .i64 ((↑(ByteArray.size s) : Int) - 2))))) (bz (ByteArray.mk #[65, 88, 67, 68])) then R (.tuple (.mk [.pointer none, B false])) [] else bif LSpec.pre (LSpecA.toLSpec S131_0) (ByteArray.extract s 0 (Int.toNat (IntKind.wrap .i64 ((↑(ByteArray.size s) : Int) - 2))), false, natO 4, 0, s, 0, -1, true) then bif Prod.fst (drfGo [36, 83, 43, 45] (bz (ByteArray.extract s 0 (Int.toNat (IntKind.wrap .i64 ((↑(ByteArray.size s) : Int) - 2))))) 0 (-1)) then ∀ (dr' f' : Int), drfGo [36, 83, 43, 45] (bz (ByteArray.extract s 0 (Int.toNat (IntKind.wrap .i64 ((↑(ByteArray.size s) : Int) - 2))))) 0 (-1) = (true, dr', f') → ∀ (x : Tmps), bif bif hasZ (bz (ByteArray.extract s 0 (Int.toNat (IntKind.wrap .i64 ((↑(ByteArray.size s) : Int) - 2))))) (List.getD (bz (ByteArray.mk #[42])) 0 0) then hasZ (bz (ByteArray.extract s 0 (Int.toNat (IntKind.wrap .i64 ((↑(ByteArray.size s) : Int) - 2))))) (List.getD (bz (ByteArray.mk #[90])) 0 0) || (hasZ (bz (ByteArray.extract s 0 (Int.toNat (IntKind.wrap .i64 ((↑(ByteArray.size s) : Int) - 2))))) (List.getD (bz (ByteArray.mk #[42])) 0 0) || (hasZ (bz (ByteArray.extract s 0 (Int.toNat (IntKind.wrap .i64 ((↑(ByteArray.size s) : Int) - 2))))) (List.getD (bz (ByteArray.mk #[90])) 0 0) || true)) else hasZ (bz (ByteArray.extract s 0 (Int.toNat (IntKind.wrap .i64 ((↑(ByteArray.size s) : Int) - 2))))) (List.getD (bz (ByteArray.mk #[42])) 0 0) || (hasZ (bz (ByteArray.extract s 0 (Int.toNat (IntKind.wrap .i64 ((↑(ByteArray.size s) : Int) - 2))))) (List.getD (bz (ByteArray.mk #[90])) 0 0) || true) then bif bif hasZ (bz (ByteArray.extract s 0 (Int.toNat (IntKind.wrap .i64 ((↑(ByteArray.size s) : Int) - 2))))) (List.getD (bz (ByteArray.mk #[42])) 0 0) then hasZ (bz (ByteArray.extract s 0 (Int.toNat (IntKind.wrap .i64 ((↑(ByteArray.size s) : Int) - 2))))) (List.getD (bz (ByteArray.mk #[90])) 0 0) || bif hasZ (bz (ByteArray.extract s 0 (Int.toNat (IntKind.wrap .i64 ((↑(ByteArray.size s) : Int) - 2))))) (List.getD (bz (ByteArray.mk #[42])) 0 0) then dr' != 0 else hasZ (bz (ByteArray.extract s 0 (Int.toNat (IntKind.wrap .i64 ((↑(ByteArray.size s) : Int) - 2))))) (List.getD (bz (ByteArray.mk #[90])) 0 0) && dr' != 0 else bif hasZ (bz (ByteArray.extract s 0 (Int.toNat (IntKind.wrap .i64 ((↑(ByteArray.size s) : Int) - 2))))) (List.getD (bz (ByteArray.mk #[42])) 0 0) then dr' != 0 else hasZ (bz (ByteArray.extract s 0 (Int.toNat (IntKind.wrap .i64 ((↑(ByteArray.size s) : Int) - 2))))) (List.getD (bz (ByteArray.mk #[90])) 0 0) && dr' != 0 then R (.tuple (.mk [.pointer none, B false])) [] else ∀ (cap : Nat), Nat.ble (ByteArray.size (ByteArray.extract s 0 (Int.toNat (IntKind.wrap .i64 ((↑(ByteArray.size s) : Int) - 2))))) cap = true → bif goodL [(344, 400)] (Lib.strCells (ByteArray.extract s 0 (Int.toNat (IntKind.wrap .i64 ((↑(ByteArray.size s) : Int) - 2))))) && true && true && (idsLt 410 (rlbL [(344, 400)] (Lib.strCells (ByteArray.extract s 0 (Int.toNat (IntKind.wrap .i64 ((↑(ByteArray.size s) : Int) - 2)))))) && true) then bif LSpec.pre (LSpecA.toLSpec S133_0) (ByteArray.extract s 0 (Int.toNat (IntKind.wrap .i64 ((↑(ByteArray.size s) : Int) - 2))), false, 0, false, rlbL [(344, 400)] (Lib.strCells (ByteArray.extract s 0 (Int.toNat (IntKind.wrap .i64 ((↑(ByteArray.size s) : Int) - 2))))), ByteArray.size (ByteArray.extract s 0 (Int.toNat (IntKind.wrap .i64 ((↑(ByteArray.size s) : Int) - 2)))), cap, natO (ByteArray.size (ByteArray.extract s 0 (Int.toNat (IntKind.wrap .i64 ((↑(ByteArray.size s) : Int) - 2))))), 0, s, 0, 0, 0, Rw.nil, dr', f', true, 0) then bif Prod.fst (plGo (rolesP dr' f' (List.drop (Int.toNat 0) (zc (rlbL [(344, 400)] (Lib.strCells (ByteArray.extract s 0 (Int.toNat (IntKind.wrap .i64 ((↑(ByteArray.size s) : Int) - 2)))))) (ByteArray.size (ByteArray.extract s 0 (Int.toNat (IntKind.wrap .i64 ((↑(ByteArray.size s) : Int) - 2))))))) 0) (PlS.mk 0 false 0 0 0 0)) then (Rw.is Rw.nil = false → List.drop (Int.toNat 0) (zc (rlbL [(344, 400)] (Lib.strCells (ByteArray.extract s 0 (Int.toNat (IntKind.wrap .i64 ((↑(ByteArray.size s) : Int) - 2)))))) (ByteArray.size (ByteArray.extract s 0 (Int.toNat (IntKind.wrap .i64 ((↑(ByteArray.size s) : Int) - 2)))))) = [] → bif idsLt 410 (rlbL [(344, 400)] (Lib.strCells (ByteArray.extract s 0 (Int.toNat (IntKind.wrap .i64 ((↑(ByteArray.size s) : Int) - 2)))))) && true then ∀ (x : Tmps), R (.tuple (.mk [.pointer none, B false])) [] else False) ∧ ∀ (pts' : Int) (bh' : Bool) (w' dg' q' fm' : Int) (d' : List Value) (m' cap' : Nat), rowIOK d' m' cap' = true → zc d' m' = Rw.z Rw.nil ++ rolesP dr' f' (List.drop (Int.toNat 0) (zc (rlbL [(344, 400)] (Lib.strCells (ByteArray.extract s 0 (Int.toNat (IntKind.wrap .i64 ((↑(ByteArray.size s) : Int) - 2)))))) (ByteArray.size (ByteArray.extract s 0 (Int.toNat (IntKind.wrap .i64 ((↑(ByteArray.size s) : Int) - 2))))))) 0 → plGo (rolesP dr' f' (List.drop (Int.toNat 0) (zc (rlbL [(344, 400)] (Lib.strCells (ByteArray.extract s 0 (Int.toNat (IntKind.wrap .i64 ((↑(ByteArray.size s) : Int) - 2)))))) (ByteArray.size (ByteArray.extract s 0 (Int.toNat (IntKind.wrap .i64 ((↑(ByteArray.size s) : Int) - 2))))))) 0) (PlS.mk 0 false 0 0 0 0) = (true, PlS.mk pts' bh' w' dg' q' fm') → bif idsLt 410 (rlbL [(344, 400)] (Lib.strCells (ByteArray.extract s 0 (Int.toNat (IntKind.wrap .i64 ((↑(ByteArray.size s) : Int) - 2)))))) && (idsLt 410 d' && true) then ∀ (x : Tmps), bif bif decide (pts' ≤ 1) then bif decide (dg' ≥ 1) then bif decide (dg' ≤ 9) then bh' || true else true else true else true then bif !(decide (pts' ≤ 1) && (decide (dg' ≥ 1) && (decide (dg' ≤ 9) && bif bh' then !decide (fm' > 0) else !false))) then R (.tuple (.mk [.pointer none, B false])) [] else bif goodL [] d' && true && true && (idsLt 520 (rlbL [] d') && true) then bif LSpec.pre (LSpecA.toLSpec S134_0) (ByteArray.extract s 0 (Int.toNat (IntKind.wrap .i64 ((↑(ByteArray.size s) : Int) - 2))), false, (↑(ByteArray.size (ByteArray.extract s 0 (Int.toNat (IntKind.wrap .i64 ((↑(ByteArray.size s) : Int) - 2))))) : Int), -1, m', cap', natO m', 0, s, w', dg', q', rlbL [] d', m', cap', dr', f', true, fm') then ∀ (lo' hi' : Int), loGo f' (List.drop (Int.toNat 0) (zc (rlbL [] d') m')) 0 (↑(ByteArray.size (ByteArray.extract s 0 (Int.toNat (IntKind.wrap .i64 ((↑(ByteArray.size s) : Int) - 2))))) : Int) = lo' → hiGo f' (List.drop (Int.toNat 0) (zc (rlbL [] d') m')) 0 (-1) = hi' → bif idsLt 520 (rlbL [] d') && true then ∀ (x : Tmps), bif goodL [] (rlbL [] d') && true && true && (idsLt 560 (rlbL [] (rlbL [] d')) && true) then bif LSpec.pre (LSpecA.toLSpec S134_2) (ByteArray.extract s 0 (Int.toNat (IntKind.wrap .i64 ((↑(ByteArray.size s) : Int) - 2))), false, lo', hi', m', cap', natO m', 0, s, w', dg', q', rlbL [] (rlbL [] d'), m', cap', dr', f', true, fm') then bif stP f' lo' hi' (List.drop (Int.toNat 0) (zc (rlbL [] (rlbL [] d')) m')) 0 then bif idsLt 560 (rlbL [] (rlbL [] d')) && true then ∀ (x : Tmps) (cap : Nat), Nat.ble (ByteArray.size (ByteArray.extract s 0 (Int.toNat (IntKind.wrap .i64 ((↑(ByteArray.size s) : Int) - 2))))) cap = true → bif goodL [(569, 600)] (Lib.strCells (ByteArray.extract s 0 (Int.toNat (IntKind.wrap .i64 ((↑(ByteArray.size s) : Int) - 2))))) && (goodL [(569, 600)] (rlbL [] (rlbL [] d')) && true) && true && (idsLt 610 (rlbL [(569, 600)] (Lib.strCells (ByteArray.extract s 0 (Int.toNat (IntKind.wrap .i64 ((↑(ByteArray.size s) : Int) - 2)))))) && (idsLt 610 (rlbL [(569, 600)] (rlbL [] (rlbL [] d'))) && true)) then bif LSpec.pre (LSpecA.toLSpec S135_0) (ByteArray.extract s 0 (Int.toNat (IntKind.wrap .i64 ((↑(ByteArray.size s) : Int) - 2))), 0, 0, rlbL [(569, 600)] (Lib.strCells (ByteArray.extract s 0 (Int.toNat (IntKind.wrap .i64 ((↑(ByteArray.size s) : Int) - 2))))), ByteArray.size (ByteArray.extract s 0 (Int.toNat (IntKind.wrap .i64 ((↑(ByteArray.size s) : Int) - 2)))), cap, natO (ByteArray.size (ByteArray.extract s 0 (Int.toNat (IntKind.wrap .i64 ((↑(ByteArray.size s) : Int) - 2))))), 0, s, w', dg', q', rlbL [(569, 600)] (rlbL [] (rlbL [] d')), m', cap', dr', f', true, fm') then ∀ (n' : Int), 0 + siGo (List.drop (Int.toNat 0) (zc (rlbL [(569, 600)] (Lib.strCells (ByteArray.extract s 0 (Int.toNat (IntKind.wrap .i64 ((↑(ByteArray.size s) : Int) - 2)))))) (ByteArray.size (ByteArray.extract s 0 (Int.toNat (IntKind.wrap .i64 ((↑(ByteArray.size s) : Int) - 2))))))) (List.drop (Int.toNat 0) (zc (rlbL [(569, 600)] (rlbL [] (rlbL [] d'))) m')) = n' → bif idsLt 610 (rlbL [(569, 600)] (Lib.strCells (ByteArray.extract s 0 (Int.toNat (IntKind.wrap .i64 ((↑(ByteArray.size s) : Int) - 2)))))) && (idsLt 610 (rlbL [(569, 600)] (rlbL [] (rlbL [] d'))) && true) then ∀ (x : Tmps), bif decide (IntKind.wrap .i64 (n' + 1) > 1) then R (.tuple (.mk [.pointer none, B false])) [] else bif hasZ (bz (ByteArray.extract s 0 (Int.toNat (IntKind.wrap .i64 ((↑(ByteArray.size s) : Int) - 2))))) (List.getD (bz (ByteArray.mk #[42])) 0 0) then bif Nat.beq (List.length (rlbL [(569, 600)] (rlbL [] (rlbL [] d')))) (cap' * 1) && Nat.ble m' cap' && Nat.ble cap' 9223372036854775807 && true && fitsA (m' + 2) 8 then ∀ (cap : Nat) (tail : List Value), tailOK tail cap (m' + 2) 1 = true → R (.tuple (.mk [.pointer (some (.mk 3 0 (some 0))), B true])) [some (.mk [S s, B true, I (IntKind.wrap .i64 (w' + 2)), I dg', I q', B (IntKind.wrap .i64 (n' + 1) == 1), .slice (some (.mk 644 0 (some 1))) (m' + 2) cap, .int .u8 dr', I f', B true, .int .u8 42, I fm'] 156 true), some (.mk (List.take (m' * 1) (rlbL [(569, 600)] (rlbL [] (rlbL [] d'))) ++ [I 4, I 4] ++ tail) 251 true)] else False else bif Nat.beq (List.length (rlbL [(569, 600)] (rlbL [] (rlbL [] d')))) (cap' * 1) && Nat.ble m' cap' && Nat.ble cap' 9223372036854775807 && true && fitsA (m' + 2) 8 then ∀ (cap : Nat) (tail : List Value), tailOK tail cap (m' + 2) 1 = true → R (.tuple (.mk [.pointer (some (.mk 3 0 (some 0))), B true])) [some (.mk [S s, B true, I (IntKind.wrap .i64 (w' + 2)), I dg', I q', B (IntKind.wrap .i64 (n' + 1) == 1), .slice (some (.mk 640 0 (some 1))) (m' + 2) cap, .int .u8 dr', I f', B true, .int .u8 32, I fm'] 156 true), some (.mk (List.take (m' * 1) (rlbL [(569, 600)] (rlbL [] (rlbL [] d'))) ++ [I 4, I 4] ++ tail) 251 true)] else False else False else False else False else False else ∀ (i' : Int), bif idsLt 560 (rlbL [] (rlbL [] d')) && true then ∀ (x : Tmps), R (.tuple (.mk [.pointer none, B false])) [] else False else False else False else False else False else False else False else False else ∀ (pts' : Int) (bh' : Bool) (i' w' dg' q' fm' : Int) (d' : List Value) (m' cap' : Nat), rowIOK d' m' cap' = true → bif idsLt 410 (rlbL [(344, 400)] (Lib.strCells (ByteArray.extract s 0 (Int.toNat (IntKind.wrap .i64 ((↑(ByteArray.size s) : Int) - 2)))))) && (idsLt 410 d' && true) then ∀ (x : Tmps), R (.tuple (.mk [.pointer none, B false])) [] else False else False else False else False else ∀ (i' dr' f' : Int) (x : Tmps), R (.tuple (.mk [.pointer none, B false])) [] else False else False else False else bif decide (ByteArray.size s ≤ 1000) && (decide (ByteArray.size (ByteArray.mk #[65, 88, 67, 68]) ≤ 1000) && (asc (bz s) && asc (bz (ByteArray.mk #[65, 88, 67, 68])))) then bif anyZ (bz s) (bz (ByteArray.mk #[65, 88, 67, 68])) then R (.tuple (.mk [.pointer none, B false])) [] else bif LSpec.pre (LSpecA.toLSpec S131_0) (s, false, natO 4, 0, s, 0, -1, false) then bif Prod.fst (drfGo [36, 83, 43, 45] (bz s) 0 (-1)) then ∀ (dr' f' : Int), drfGo [36, 83, 43, 45] (bz s) 0 (-1) = (true, dr', f') → ∀ (x : Tmps), bif bif hasZ (bz s) (List.getD (bz (ByteArray.mk #[42])) 0 0) then hasZ (bz s) (List.getD (bz (ByteArray.mk #[90])) 0 0) || (hasZ (bz s) (List.getD (bz (ByteArray.mk #[42])) 0 0) || (hasZ (bz s) (List.getD (bz (ByteArray.mk #[90])) 0 0) || true)) else hasZ (bz s) (List.getD (bz (ByteArray.mk #[42])) 0 0) || (hasZ (bz s) (List.getD (bz (ByteArray.mk #[90])) 0 0) || true) then bif bif hasZ (bz s) (List.getD (bz (ByteArray.mk #[42])) 0 0) then hasZ (bz s) (List.getD (bz (ByteArray.mk #[90])) 0 0) || bif hasZ (bz s) (List.getD (bz (ByteArray.mk #[42])) 0 0) then dr' != 0 else hasZ (bz s) (List.getD (bz (ByteArray.mk #[90])) 0 0) && dr' != 0 else bif hasZ (bz s) (List.getD (bz (ByteArray.mk #[42])) 0 0) then dr' != 0 else hasZ (bz s) (List.getD (bz (ByteArray.mk #[90])) 0 0) && dr' != 0 then R (.tuple (.mk [.pointer none, B false])) [] else ∀ (cap : Nat), Nat.ble (ByteArray.size s) cap = true → bif goodL [(344, 400)] (Lib.strCells s) && true && true && (idsLt 410 (rlbL [(344, 400)] (Lib.strCells s)) && true) then bif LSpec.pre (LSpecA.toLSpec S133_0) (s, false, 0, false, rlbL [(344, 400)] (Lib.strCells s), ByteArray.size s, cap, natO (ByteArray.size s), 0, s, 0, 0, 0, Rw.nil, dr', f', false, 0) then bif Prod.fst (plGo (rolesP dr' f' (List.drop (Int.toNat 0) (zc (rlbL [(344, 400)] (Lib.strCells s)) (ByteArray.size s))) 0) (PlS.mk 0 false 0 0 0 0)) then (Rw.is Rw.nil = false → List.drop (Int.toNat 0) (zc (rlbL [(344, 400)] (Lib.strCells s)) (ByteArray.size s)) = [] → bif idsLt 410 (rlbL [(344, 400)] (Lib.strCells s)) && true then ∀ (x : Tmps), R (.tuple (.mk [.pointer none, B false])) [] else False) ∧ ∀ (pts' : Int) (bh' : Bool) (w' dg' q' fm' : Int) (d' : List Value) (m' cap' : Nat), rowIOK d' m' cap' = true → zc d' m' = Rw.z Rw.nil ++ rolesP dr' f' (List.drop (Int.toNat 0) (zc (rlbL [(344, 400)] (Lib.strCells s)) (ByteArray.size s))) 0 → plGo (rolesP dr' f' (List.drop (Int.toNat 0) (zc (rlbL [(344, 400)] (Lib.strCells s)) (ByteArray.size s))) 0) (PlS.mk 0 false 0 0 0 0) = (true, PlS.mk pts' bh' w' dg' q' fm') → bif idsLt 410 (rlbL [(344, 400)] (Lib.strCells s)) && (idsLt 410 d' && true) then ∀ (x : Tmps), bif bif decide (pts' ≤ 1) then bif decide (dg' ≥ 1) then bif decide (dg' ≤ 9) then bh' || true else true else true else true then bif !(decide (pts' ≤ 1) && (decide (dg' ≥ 1) && (decide (dg' ≤ 9) && bif bh' then !decide (fm' > 0) else !false))) then R (.tuple (.mk [.pointer none, B false])) [] else bif goodL [] d' && true && true && (idsLt 520 (rlbL [] d') && true) then bif LSpec.pre (LSpecA.toLSpec S134_0) (s, false, (↑(ByteArray.size s) : Int), -1, m', cap', natO m', 0, s, w', dg', q', rlbL [] d', m', cap', dr', f', false, fm') then ∀ (lo' hi' : Int), loGo f' (List.drop (Int.toNat 0) (zc (rlbL [] d') m')) 0 (↑(ByteArray.size s) : Int) = lo' → hiGo f' (List.drop (Int.toNat 0) (zc (rlbL [] d') m')) 0 (-1) = hi' → bif idsLt 520 (rlbL [] d') && true then ∀ (x : Tmps), bif goodL [] (rlbL [] d') && true && true && (idsLt 560 (rlbL [] (rlbL [] d')) && true) then bif LSpec.pre (LSpecA.toLSpec S134_2) (s, false, lo', hi', m', cap', natO m', 0, s, w', dg', q', rlbL [] (rlbL [] d'), m', cap', dr', f', false, fm') then bif stP f' lo' hi' (List.drop (Int.toNat 0) (zc (rlbL [] (rlbL [] d')) m')) 0 then bif idsLt 560 (rlbL [] (rlbL [] d')) && true then ∀ (x : Tmps) (cap : Nat), Nat.ble (ByteArray.size s) cap = true → bif goodL [(569, 600)] (Lib.strCells s) && (goodL [(569, 600)] (rlbL [] (rlbL [] d')) && true) && true && (idsLt 610 (rlbL [(569, 600)] (Lib.strCells s)) && (idsLt 610 (rlbL [(569, 600)] (rlbL [] (rlbL [] d'))) && true)) then bif LSpec.pre (LSpecA.toLSpec S135_0) (s, 0, 0, rlbL [(569, 600)] (Lib.strCells s), ByteArray.size s, cap, natO (ByteArray.size s), 0, s, w', dg', q', rlbL [(569, 600)] (rlbL [] (rlbL [] d')), m', cap', dr', f', false, fm') then ∀ (n' : Int), 0 + siGo (List.drop (Int.toNat 0) (zc (rlbL [(569, 600)] (Lib.strCells s)) (ByteArray.size s))) (List.drop (Int.toNat 0) (zc (rlbL [(569, 600)] (rlbL [] (rlbL [] d'))) m')) = n' → bif idsLt 610 (rlbL [(569, 600)] (Lib.strCells s)) && (idsLt 610 (rlbL [(569, 600)] (rlbL [] (rlbL [] d'))) && true) then ∀ (x : Tmps), bif decide (n' > 1) then R (.tuple (.mk [.pointer none, B false])) [] else bif hasZ (bz s) (List.getD (bz (ByteArray.mk #[42])) 0 0) then R (.tuple (.mk [.pointer (some (.mk 3 0 (some 0))), B true])) [some (.mk [S s, B true, I w', I dg', I q', B (n' == 1), .slice (some (.mk 401 0 (some 1))) m' cap', .int .u8 dr', I f', B false, .int .u8 42, I fm'] 156 true), some (.mk (rlbL [(569, 600)] (rlbL [] (rlbL [] d'))) 251 true)] else R (.tuple (.mk [.pointer (some (.mk 3 0 (some 0))), B true])) [some (.mk [S s, B true, I w', I dg', I q', B (n' == 1), .slice (some (.mk 401 0 (some 1))) m' cap', .int .u8 dr', I f', B false, .int .u8 32, I fm'] 156 true), some (.mk (rlbL [(569, 600)] (rlbL [] (rlbL [] d'))) 251 true)] else False else False else False else False else ∀ (i' : Int), bif idsLt 560 (rlbL [] (rlbL [] d')) && true then ∀ (x : Tmps), R (.tuple (.mk [.pointer none, B false])) [] else False else False else False else False else False else False else False else False else ∀ (pts' : Int) (bh' : Bool) (i' w' dg' q' fm' : Int) (d' : List Value) (m' cap' : Nat), rowIOK d' m' cap' = true → bif idsLt 410 (rlbL [(344, 400)] (Lib.strCells s)) && (idsLt 410 d' && true) then ∀ (x : Tmps), R (.tuple (.mk [.pointer none, B false])) [] else False else False else False else False else ∀ (i' dr' f' : Int) (x : Tmps), R (.tuple (.mk [.pointer none, B false])) [] else False else False else False) := by kernel_rfl
theorem w103 (s : ByteArray) (hs : s.size ≤ 32) (ha : asc (bz s) = true) (R : Value → List (Option Blk) → Prop)
    (hn : numQ (bodyZ (bz s)) (crZ (bz s)) = false → R (.tuple ⟨[.pointer none, .bool false]⟩) [])
    (hy : numQ (bodyZ (bz s)) (crZ (bz s)) = true → ∀ (x m cap : Nat) (d : List Value), RowI d m cap → zc d m = nRoles s (crZ (bz s)) →
      R (.tuple ⟨[.pointer (some ⟨3, 0, some 0⟩), .bool true]⟩) [some ⟨formC s (crZ (bz s)) x m cap, 156, true⟩, some ⟨d, 251, true⟩]) :
    DoesM Tryz.prog G25 noL Tryz.f204 [.string s] (fun _ => none) 0 (fun v m _ => R v (look m v)) := by
  rw [DoesM, v103]
  have k67 : bz ⟨#[67, 82]⟩ = [67, 82] := rfl
  have k68 : bz ⟨#[68, 66]⟩ = [68, 66] := rfl
  rw [k67, k68, cr_suf]
  refine c_t (by rw [decide_eq_true (show s.size ≤ 9223372036854775807 by omega)]; simp) (cond_intro (fun hcr => ?_) (fun hcr => ?_))
  · rw [hcr] at hn hy
    have hb := body_at hcr
    have h2 : 2 ≤ s.size := by
      have : 2 ≤ (bz s).length := by
        simp only [crZ, Bool.and_eq_true, decide_eq_true_eq] at hcr
        exact hcr.1
      rwa [bz_length] at this
    rw [w64 (n := (s.size : Int) - 2) (by omega)]
    refine c_t (decide_eq_true (by omega)) ?_
    have hb : bz (s.extract 0 ((s.size : Int) - 2).toNat) = bodyZ (bz s) := by
      rw [hb, bz_extract, cond_true, bz_length, List.drop_zero]
      congr 1
      omega
    have hay : asc (bz (s.extract 0 ((s.size : Int) - 2).toNat)) = true := by
      rw [hb, body_at hcr]
      exact asc_take ha _
    have hys : (s.extract 0 ((s.size : Int) - 2).toNat).size ≤ 32 := by
      rw [← bz_length, hb, body_at hcr, cond_true, List.length_take, bz_length]
      omega
    generalize s.extract 0 ((s.size : Int) - 2).toNat = y at *
    have k1 : bz ⟨#[65, 88, 67, 68]⟩ = [65, 88, 67, 68] := rfl
    have k2 : (bz ⟨#[42]⟩).getD 0 0 = 42 := rfl
    have k3 : (bz ⟨#[90]⟩).getD 0 0 = 90 := rfl
    rw [k1, k2, k3]
    have ey := hb
    refine c_t (by rw [decide_eq_true (show y.size ≤ 1000 by omega), hay]; rfl) (cond_intro (fun hA => hn (by rw [← hb]; simp only [numQ, hA, Bool.not_true, Bool.false_and])) (fun hA => c_t ?_ (cond_intro (fun hB dr' f' hD x => ?_) (fun hB _ _ _ _ => hn (by rw [← hb, numQ, nD, hB, hA]; rfl)))))
    · simp only [S131_0, decide_eq_true_eq]
      exact ⟨natO_eq 4, by omega, by omega, by omega, by omega, by omega⟩
    have hD' : nD (bz y) = (true, dr', f') := hD
    have e1 : (nD (bz y)).1 = true := by rw [hD']
    have e2 : (nD (bz y)).2.1 = dr' := by rw [hD']
    have e3 : (nD (bz y)).2.2 = f' := by rw [hD']
    have eS : (bif hasZ (bz y) 42 then hasZ (bz y) 90 || bif hasZ (bz y) 42 then dr' != 0 else hasZ (bz y) 90 && dr' != 0 else bif hasZ (bz y) 42 then dr' != 0 else hasZ (bz y) 90 && dr' != 0) = nSt (bz y) := by
      rw [nSt, e2]
      cases hasZ (bz y) 42 <;> cases hasZ (bz y) 90 <;> cases dr' != 0 <;> rfl
    rw [eS]
    refine c_t (by simp) (cond_intro (fun hC => hn (by rw [← hb, numQ, hA, e1, hC]; rfl)) (fun hC cap _ => ?_))
    obtain ⟨v1, v2⟩ := vw_str y
    have v3 := vwOK_iff.2 v1
    have g1 := v1.good
    have g2 := v1.rlb
    have g3 := ids_plainB v1.plain
    have g4 : ∀ ps, goodL ps (Lib.strCells y) = true := fun ps => goodL_plain v1.plain
    simp only [g2]
    generalize Lib.strCells y = d0 at *
    simp only [Int.toNat_zero, List.drop_zero, v2]
    have eR : rolesP dr' f' (bz y) 0 = nR (bz y) := by rw [nR, e2, e3]
    rw [eR]
    have eP : plGo (nR (bz y)) ⟨0, false, 0, 0, 0, 0⟩ = nP (bz y) := rfl
    rw [eP]
    have hl := roles_len dr' f' (bz y) 0
    rw [eR, bz_length] at hl
    refine c_t (by rw [g1, g3]; rfl) (c_t ?_ (cond_intro (fun hE => ⟨fun _ hnil => c_t (by rw [g3]; rfl) fun _ => ?_, fun pts' bh' w' dg' q' fm' d' m' cap' r1 r2 r3 => ?_⟩) (fun hE _ _ _ _ _ _ _ d' m' cap' r1 => c_t (by rw [g3, ids_plainB (rowIOK_iff.1 r1).plain]; rfl) fun _ => hn (by rw [← hb, numQ, hA, e1, hC, nPok, hE]; rfl))))
    · simp only [S133_0, Rw.oki, Rw.z, List.length_nil, Bool.true_and, Bool.and_eq_true, decide_eq_true_eq]
      exact ⟨v3, decide_eq_true ⟨by omega, by omega, by omega, natO_eq _, by omega, by omega, by omega, by omega, by omega, by omega, by omega, by omega, by omega, by omega, by omega⟩⟩
    · have : nP (bz y) = (true, ⟨0, false, 0, 0, 0, 0⟩) := by
        rw [nP, nR, hnil]
        rfl
      exact hn (by rw [← hb, numQ, hA, e1, hC, nPok, this]; rfl)
    have r1 := rowIOK_iff.1 r1
    have hz := zi_length r1
    have r2 : zc d' m' = nR (bz y) := r2
    have pr := pl_rng (nR (bz y)) ⟨0, false, 0, 0, 0, 0⟩
    rw [eP, r3] at pr
    simp only at pr
    have hm : m' = y.size := by rw [← hz, r2, hl]
    refine c_t (by rw [g3, ids_plainB r1.plain]; rfl) fun _ => c_t (by cases decide (pts' ≤ 1) <;> cases decide (dg' ≥ 1) <;> cases decide (dg' ≤ 9) <;> simp) ?_
    have ePok : (decide (pts' ≤ 1) && (decide (dg' ≥ 1) && (decide (dg' ≤ 9) && bif bh' then !decide (fm' > 0) else !false))) = nPok (bz y) := by
      rw [nPok, r3]
      cases bh' <;> rfl
    rw [ePok]
    refine cond_intro (fun hF => hn (by rw [← hb, numQ, hA, e1, hC]; rw [Bool.not_eq_true'] at hF; rw [hF]; rfl)) (fun hF => ?_)
    have hF : nPok (bz y) = true := by simpa using hF
    have gd : ∀ ps, rlbL ps d' = d' := r1.rlb
    have gg : ∀ ps, goodL ps d' = true := r1.good
    have gi := ids_plainB r1.plain
    simp only [gd, r2]
    refine c_t (by rw [gg, gi]; rfl) (c_t ?_ (fun lo' hi' h1 h2 => c_t (by rw [gi]; rfl) fun _ => c_t (by rw [gg, gi]; rfl) (c_t ?_ ?_)))
    · simp only [S134_0, Bool.and_eq_true, decide_eq_true_eq]
      exact ⟨rowIOK_iff.2 r1, by omega, by omega, by omega, natO_eq _, trivial⟩
    · simp only [S134_2, Bool.and_eq_true, decide_eq_true_eq]
      exact ⟨rowIOK_iff.2 r1, by omega, by omega, by omega, natO_eq _, trivial⟩
    have eSt : stP f' lo' hi' (nR (bz y)) 0 = nS (bz y) := by rw [nS, e3, bz_length, h1, h2]
    rw [eSt]
    refine cond_intro (fun hG => ?_) (fun hG _ => c_t (by rw [gi]; rfl) fun _ => hn (by rw [← hb, numQ, hA, e1, hC, hF, hG]; rfl))
    refine c_t (by rw [gi]; rfl) fun _ cap2 _ => c_t (by rw [g4, gg, gi, g3]; rfl) (c_t ?_ (fun n' h3 => c_t (by rw [gi, g3]; rfl) fun _ => ?_))
    · simp only [S135_0, Bool.and_eq_true, decide_eq_true_eq]
      exact ⟨rowIOK_iff.2 r1, v3, by omega, by omega, hm, by omega, natO_eq _, by omega, by omega⟩
    have sr := si_rng (bz y) (nR (bz y))
    rw [bz_length] at sr
    rw [Int.zero_add] at h3
    rw [w64 (n := n' + 1) (by omega), w64 (n := w' + 2) (by omega)]
    have eN : nG (bz y) true = n' + 1 := by rw [nG, h3]; rfl
    refine cond_intro (fun hH => hn (by rw [← hb, numQ, hA, e1, hC, hF, hG, eN]; have : ¬ n' + 1 ≤ 1 := by have := of_decide_eq_true hH; omega
                                        rw [decide_eq_false this]; rfl)) (fun hH => ?_)
    have hq : numQ (bodyZ (bz s)) true = true := by
      rw [← hb, numQ, hA, e1, hC, hF, hG, eN]
      have : n' + 1 ≤ 1 := by have := of_decide_eq_false hH; omega
      rw [decide_eq_true this]; rfl
    have eF : ∀ x k c, formC s true x k c = [Value.string s, Value.bool true, Value.int IntKind.i64 (w' + 2), Value.int IntKind.i64 dg', Value.int IntKind.i64 q', Value.bool (n' + 1 == 1), Value.slice (some ⟨x, 0, some 1⟩) k c, Value.int IntKind.u8 dr', Value.int IntKind.i64 f', Value.bool true, Value.int IntKind.u8 (bif hasZ (bz y) 42 then 42 else 32), Value.int IntKind.i64 fm'] := fun x k c => by
      rw [formC, ← hb, r3, e2, e3, eN]; rfl
    have hf := hy hq
    simp only [eF, nRoles, ← hb] at hf
    refine cond_intro (fun hI => ?_) (fun hI => ?_)
    · rw [hI] at hf
      refine c_t (r1.ask (k := 2) (by omega)) (fun cap3 tail ht => ?_)
      obtain ⟨a1, a2⟩ := r1.app [4, 4] ht
      rw [Nat.mul_one]
      exact hf _ _ _ _ a1 (a2.trans (by rw [r2]; rfl))
    · rw [hI] at hf
      refine c_t (r1.ask (k := 2) (by omega)) (fun cap3 tail ht => ?_)
      obtain ⟨a1, a2⟩ := r1.app [4, 4] ht
      rw [Nat.mul_one]
      exact hf _ _ _ _ a1 (a2.trans (by rw [r2]; rfl))
  · rw [hcr] at hn hy
    have hb : bz s = bodyZ (bz s) := by rw [body_at hcr]; rfl
    have hay := ha
    have k1 : bz ⟨#[65, 88, 67, 68]⟩ = [65, 88, 67, 68] := rfl
    have k2 : (bz ⟨#[42]⟩).getD 0 0 = 42 := rfl
    have k3 : (bz ⟨#[90]⟩).getD 0 0 = 90 := rfl
    rw [k1, k2, k3]
    have ey := hb
    refine c_t (by rw [decide_eq_true (show s.size ≤ 1000 by omega), hay]; rfl) (cond_intro (fun hA => hn (by rw [← hb]; simp only [numQ, hA, Bool.not_true, Bool.false_and])) (fun hA => c_t ?_ (cond_intro (fun hB dr' f' hD x => ?_) (fun hB _ _ _ _ => hn (by rw [← hb, numQ, nD, hB, hA]; rfl)))))
    · simp only [S131_0, decide_eq_true_eq]
      exact ⟨natO_eq 4, by omega, by omega, by omega, by omega, by omega⟩
    have hD' : nD (bz s) = (true, dr', f') := hD
    have e1 : (nD (bz s)).1 = true := by rw [hD']
    have e2 : (nD (bz s)).2.1 = dr' := by rw [hD']
    have e3 : (nD (bz s)).2.2 = f' := by rw [hD']
    have eS : (bif hasZ (bz s) 42 then hasZ (bz s) 90 || bif hasZ (bz s) 42 then dr' != 0 else hasZ (bz s) 90 && dr' != 0 else bif hasZ (bz s) 42 then dr' != 0 else hasZ (bz s) 90 && dr' != 0) = nSt (bz s) := by
      rw [nSt, e2]
      cases hasZ (bz s) 42 <;> cases hasZ (bz s) 90 <;> cases dr' != 0 <;> rfl
    rw [eS]
    refine c_t (by simp) (cond_intro (fun hC => hn (by rw [← hb, numQ, hA, e1, hC]; rfl)) (fun hC cap _ => ?_))
    obtain ⟨v1, v2⟩ := vw_str s
    have v3 := vwOK_iff.2 v1
    have g1 := v1.good
    have g2 := v1.rlb
    have g3 := ids_plainB v1.plain
    have g4 : ∀ ps, goodL ps (Lib.strCells s) = true := fun ps => goodL_plain v1.plain
    simp only [g2]
    generalize Lib.strCells s = d0 at *
    simp only [Int.toNat_zero, List.drop_zero, v2]
    have eR : rolesP dr' f' (bz s) 0 = nR (bz s) := by rw [nR, e2, e3]
    rw [eR]
    have eP : plGo (nR (bz s)) ⟨0, false, 0, 0, 0, 0⟩ = nP (bz s) := rfl
    rw [eP]
    have hl := roles_len dr' f' (bz s) 0
    rw [eR, bz_length] at hl
    refine c_t (by rw [g1, g3]; rfl) (c_t ?_ (cond_intro (fun hE => ⟨fun _ hnil => c_t (by rw [g3]; rfl) fun _ => ?_, fun pts' bh' w' dg' q' fm' d' m' cap' r1 r2 r3 => ?_⟩) (fun hE _ _ _ _ _ _ _ d' m' cap' r1 => c_t (by rw [g3, ids_plainB (rowIOK_iff.1 r1).plain]; rfl) fun _ => hn (by rw [← hb, numQ, hA, e1, hC, nPok, hE]; rfl))))
    · simp only [S133_0, Rw.oki, Rw.z, List.length_nil, Bool.true_and, Bool.and_eq_true, decide_eq_true_eq]
      exact ⟨v3, decide_eq_true ⟨by omega, by omega, by omega, natO_eq _, by omega, by omega, by omega, by omega, by omega, by omega, by omega, by omega, by omega, by omega, by omega⟩⟩
    · have : nP (bz s) = (true, ⟨0, false, 0, 0, 0, 0⟩) := by
        rw [nP, nR, hnil]
        rfl
      exact hn (by rw [← hb, numQ, hA, e1, hC, nPok, this]; rfl)
    have r1 := rowIOK_iff.1 r1
    have hz := zi_length r1
    have r2 : zc d' m' = nR (bz s) := r2
    have pr := pl_rng (nR (bz s)) ⟨0, false, 0, 0, 0, 0⟩
    rw [eP, r3] at pr
    simp only at pr
    have hm : m' = s.size := by rw [← hz, r2, hl]
    refine c_t (by rw [g3, ids_plainB r1.plain]; rfl) fun _ => c_t (by cases decide (pts' ≤ 1) <;> cases decide (dg' ≥ 1) <;> cases decide (dg' ≤ 9) <;> simp) ?_
    have ePok : (decide (pts' ≤ 1) && (decide (dg' ≥ 1) && (decide (dg' ≤ 9) && bif bh' then !decide (fm' > 0) else !false))) = nPok (bz s) := by
      rw [nPok, r3]
      cases bh' <;> rfl
    rw [ePok]
    refine cond_intro (fun hF => hn (by rw [← hb, numQ, hA, e1, hC]; rw [Bool.not_eq_true'] at hF; rw [hF]; rfl)) (fun hF => ?_)
    have hF : nPok (bz s) = true := by simpa using hF
    have gd : ∀ ps, rlbL ps d' = d' := r1.rlb
    have gg : ∀ ps, goodL ps d' = true := r1.good
    have gi := ids_plainB r1.plain
    simp only [gd, r2]
    refine c_t (by rw [gg, gi]; rfl) (c_t ?_ (fun lo' hi' h1 h2 => c_t (by rw [gi]; rfl) fun _ => c_t (by rw [gg, gi]; rfl) (c_t ?_ ?_)))
    · simp only [S134_0, Bool.and_eq_true, decide_eq_true_eq]
      exact ⟨rowIOK_iff.2 r1, by omega, by omega, by omega, natO_eq _, trivial⟩
    · simp only [S134_2, Bool.and_eq_true, decide_eq_true_eq]
      exact ⟨rowIOK_iff.2 r1, by omega, by omega, by omega, natO_eq _, trivial⟩
    have eSt : stP f' lo' hi' (nR (bz s)) 0 = nS (bz s) := by rw [nS, e3, bz_length, h1, h2]
    rw [eSt]
    refine cond_intro (fun hG => ?_) (fun hG _ => c_t (by rw [gi]; rfl) fun _ => hn (by rw [← hb, numQ, hA, e1, hC, hF, hG]; rfl))
    refine c_t (by rw [gi]; rfl) fun _ cap2 _ => c_t (by rw [g4, gg, gi, g3]; rfl) (c_t ?_ (fun n' h3 => c_t (by rw [gi, g3]; rfl) fun _ => ?_))
    · simp only [S135_0, Bool.and_eq_true, decide_eq_true_eq]
      exact ⟨rowIOK_iff.2 r1, v3, by omega, by omega, hm, by omega, natO_eq _, by omega, by omega⟩
    have sr := si_rng (bz s) (nR (bz s))
    rw [bz_length] at sr
    rw [Int.zero_add] at h3
    have eN : nG (bz s) false = n' := by rw [nG, h3]; exact Int.add_zero _
    refine cond_intro (fun hH => hn (by rw [← hb, numQ, hA, e1, hC, hF, hG, eN]; have : ¬ n' ≤ 1 := by have := of_decide_eq_true hH; omega
                                        rw [decide_eq_false this]; rfl)) (fun hH => ?_)
    have hq : numQ (bodyZ (bz s)) false = true := by
      rw [← hb, numQ, hA, e1, hC, hF, hG, eN]
      have : n' ≤ 1 := by have := of_decide_eq_false hH; omega
      rw [decide_eq_true this]; rfl
    have eF : ∀ x k c, formC s false x k c = [Value.string s, Value.bool true, Value.int IntKind.i64 w', Value.int IntKind.i64 dg', Value.int IntKind.i64 q', Value.bool (n' == 1), Value.slice (some ⟨x, 0, some 1⟩) k c, Value.int IntKind.u8 dr', Value.int IntKind.i64 f', Value.bool false, Value.int IntKind.u8 (bif hasZ (bz s) 42 then 42 else 32), Value.int IntKind.i64 fm'] := fun x k c => by
      rw [formC, ← hb, r3, e2, e3, eN, cond_false, Int.add_zero]
    have hf := hy hq
    simp only [eF, nRoles, ← hb] at hf
    refine cond_intro (fun hI => ?_) (fun hI => ?_)
    · rw [hI] at hf
      exact hf _ _ _ _ r1 (by rw [r2]; simp)
    · rw [hI] at hf
      exact hf _ _ _ _ r1 (by rw [r2]; simp)
end Go.Px
end
section
namespace Go.Px
open Go Go.Ab Go.Proofs
theorem last_mem {l : List Int} {c : Int} : lastZ l c = -1 ↔ c ∉ l := by
 rcases lastZ_spec c l with ⟨e, h⟩ | ⟨i, hi, e, hc, h⟩
 ·refine ⟨fun _ hm => ?_, fun _ => e⟩
  obtain ⟨j, hj, hv⟩ := List.mem_iff_getElem.1 hm
  exact h j hj (by rw [List.getD_eq_getElem?_getD, List.getElem?_eq_getElem hj]; exact hv)
 ·refine ⟨fun q => by omega, fun q => absurd ?_ q⟩
  rw [List.getD_eq_getElem?_getD, List.getElem?_eq_getElem hi] at hc
  exact hc ▸ List.getElem_mem hi
def flg (s : List Int) (c : Int) : Bool := hasZ [36, 83, 43, 45] c && decide (2 ≤ cntZ s c)
theorem df1_all (s : List Int) (dr : Int) : ∀ (r : List Int) (i f l : Int), (df1 s dr r i f l).1 = r.all fun c => c == dr || !flg s c
 | [], _, _, _ => rfl
 | c :: r, i, f, l => by
  rw [df1, List.all_cons]
  cases h : c == dr with
  | true => rw [cond_true, df1_all s dr r]; rfl
  | false =>
   rw [cond_false]
   have e : (hasZ [36, 83, 43, 45] c && decide (2 ≤ cntZ s c)) = flg s c := rfl
   rw [e]
   cases flg s c with
   | true => rfl
   | false => rw [cond_false, df1_all s dr r]; rfl
theorem df1_fl (s : List Int) (dr : Int) : ∀ (r : List Int) (i f l : Int), 0 ≤ i → (df1 s dr r i f l).1 = true →
  (df1 s dr r i f l).2.1 = (if f < 0 then (if dr ∈ r then i + idxZ r dr else f) else f) ∧ (df1 s dr r i f l).2.2 = (if dr ∈ r then i + lastZ r dr else l)
 | [], i, f, l, _, _ => by simp [df1]
 | c :: r, i, f, l, hi, h => by
  rw [df1] at h ⊢
  have hlr := last_mem (l := r) (c := dr)
  cases hc : c == dr with
  | true =>
   have hc' : c = dr := eq_of_beq hc
   rw [hc, cond_true] at h
   rw [cond_true]
   obtain ⟨q1, q2⟩ := df1_fl s dr r _ _ _ (by omega) h
   rw [q1, q2, hc']
   have h1 : ¬ (if f < 0 then i else f) < 0 := by split <;> omega
   rw [if_neg h1, if_pos (List.mem_cons_self ..), if_pos (List.mem_cons_self ..), idxZ, if_pos rfl, lastZ]
   refine ⟨by split <;> omega, ?_⟩
   by_cases hm : dr ∈ r
   ·rw [if_pos hm, if_neg (fun q => hlr.1 q hm)]; omega
   ·rw [if_neg hm, if_pos (hlr.2 hm), if_pos rfl]; omega
  | false =>
   have hc' : ¬ c = dr := by simpa using hc
   rw [hc, cond_false] at h
   rw [cond_false]
   cases hf : (hasZ [36, 83, 43, 45] c && decide (2 ≤ cntZ s c)) with
   | true => rw [hf] at h; cases h
   | false =>
    rw [hf, cond_false] at h
    rw [cond_false]
    obtain ⟨q1, q2⟩ := df1_fl s dr r _ _ _ (by omega) h
    have hmm : dr ∈ c :: r ↔ dr ∈ r := by
     rw [List.mem_cons]
     exact ⟨fun q => q.resolve_left fun e => hc' e.symm, .inr⟩
    rw [q1, q2]
    simp only [hmm, idxZ, lastZ, if_neg hc']
    by_cases hm : dr ∈ r
    ·have i1 := idx_lt dr hm
     rw [if_pos hm, if_pos hm, if_pos hm, if_pos hm, if_neg (show ¬ idxZ r dr = -1 by omega), if_neg (fun q => hlr.1 q hm)]
     exact ⟨by split <;> omega, by omega⟩
    ·rw [if_neg hm, if_neg hm, if_neg hm, if_neg hm]
     exact ⟨rfl, rfl⟩
theorem d2_app (dr f : Int) : ∀ (x y : List Int) (i : Int), d2Go dr f (x ++ y) i = (d2Go dr f x i && d2Go dr f y (i + x.length))
 | [], y, i => by simp [d2Go]
 | c :: x, y, i => by
  rw [List.cons_append, d2Go, d2Go, d2_app dr f x y, List.length_cons, Bool.and_assoc, Bool.and_assoc]
  congr 4
  omega
theorem d2_before (dr f : Int) : ∀ (r : List Int) (i : Int), i + r.length ≤ f → d2Go dr f r i = !hasZ r 86
 | [], _, _ => rfl
 | c :: r, i, h => by
  rw [List.length_cons] at h
  rw [d2Go, d2_before dr f r (i + 1) (by omega), decide_eq_true (show i < f by omega), decide_eq_false (show ¬ i > f by omega)]
  simp only [hasZ, List.any_cons, Bool.true_and, Bool.false_and, Bool.not_false, Bool.not_or]
theorem d2_after (dr f : Int) : ∀ (r : List Int) (i : Int), f < i → d2Go dr f r i = drP dr r
 | [], _, _ => rfl
 | c :: r, i, h => by
  rw [d2Go, d2_after dr f r (i + 1) (by omega), decide_eq_false (show ¬ i < f by omega), decide_eq_true (show i > f by omega)]
  simp only [drP, List.all_cons, Bool.true_and, Bool.false_and, Bool.not_false, Bool.not_and, Bool.not_not, bne]
  rfl
theorem take_split (b : List Int) {f l : Nat} (h : f ≤ l) : b.take l = b.take f ++ (b.take l).drop f := by
 have := List.take_append_drop f (b.take l)
 rw [List.take_take, Nat.min_eq_left h] at this
 exact this.symm
theorem drop_take_cons (b : List Int) {f l : Nat} (h : f < l) (hb : f < b.length) : (b.take l).drop f = b.getD f 0 :: (b.take l).drop (f + 1) := by
 rw [getD_drop (b.take l) f (by rw [List.length_take]; omega)]
 congr 1
 simp only [List.getD_eq_getElem?_getD, List.getElem?_take]
 rw [if_pos h]
theorem idx_get (c : Int) : ∀ {l : List Int}, c ∈ l → l.getD (idxZ l c).toNat 0 = c
 | b :: l, h => by
  simp only [idxZ]
  by_cases hb : b = c
  ·rw [if_pos hb]; simpa using hb
  ·rw [if_neg hb]
   have hm : c ∈ l := by rcases List.mem_cons.1 h with q | q; exact absurd q.symm hb; exact q
   have := idx_lt c hm
   rw [if_neg (by omega), show (idxZ l c + 1).toNat = (idxZ l c).toNat + 1 by omega, List.getD_cons_succ]
   exact idx_get c hm
theorem last_get (c : Int) {l : List Int} (h : c ∈ l) : l.getD (lastZ l c).toNat 0 = c := by
 rcases lastZ_spec c l with ⟨e, _⟩ | ⟨i, hi, e, hc, _⟩
 ·exact absurd h (last_mem.1 e)
 ·rw [e]; exact hc
theorem take_snoc (b : List Int) {l : Nat} (h : l < b.length) : b.take (l + 1) = b.take l ++ [b.getD l 0] := by
 rw [List.take_add_one, List.getD_eq_getElem?_getD, List.getElem?_eq_getElem h]
 rfl
theorem d2_drC {b : List Int} {c : Int} (h : c ∈ b) : d2Go c (idxZ b c) (b.take (lastZ b c).toNat) 0 = drC b c := by
 have i1 := idx_lt c h
 have i2 := idx_last c h
 have i3 := last_rng b c
 have g1 := idx_get c h
 have g2 := last_get c h
 obtain ⟨f, hf⟩ : ∃ f : Nat, idxZ b c = f := ⟨(idxZ b c).toNat, by omega⟩
 obtain ⟨l, hl⟩ : ∃ l : Nat, lastZ b c = l := ⟨(lastZ b c).toNat, by omega⟩
 unfold drC
 rw [hf] at i1 i2 g1
 rw [hl] at i2 i3 g2
 rw [hf, hl]
 rw [Int.toNat_natCast] at g1 g2 ⊢
 rw [Int.toNat_natCast]
 rw [show ((l : Int) + 1).toNat = l + 1 by omega, take_snoc b (by omega), g2, List.drop_append_of_le_length (by rw [List.length_take]; omega)]
 rw [take_split b (show f ≤ l by omega), d2_app, d2_before _ _ _ _ (by rw [List.length_take]; omega)]
 congr 1
 ·rw [← take_split b (show f ≤ l by omega)]
  rw [List.length_take, Nat.min_eq_left (by omega)]
  have hs : drP c ((b.take l).drop f ++ [c]) = drP c ((b.take l).drop f) := by
   simp [drP]
  rw [hs]
  by_cases hfl : f < l
  ·rw [drop_take_cons b hfl (by omega), g1, d2Go, d2_after _ _ _ _ (by omega)]
   simp [drP]
  ·rw [List.drop_eq_nil_of_le (by rw [List.length_take]; omega)]
   rfl
theorem drf_none {b : List Int} {d f : Int} : ∀ {cs : List Int}, (∀ c ∈ cs, (cntZ b c : Int) < 2) → drfGo cs b d f = (true, d, f)
 | [], _ => rfl
 | c :: cs, h => by
  rw [drfGo, decide_eq_true (h c (List.mem_cons_self ..)), cond_true]
  exact drf_none fun x hx => h x (List.mem_cons_of_mem _ hx)
theorem drf_many {b : List Int} {d f : Int} (hd : d ≠ 0) : ∀ {cs : List Int}, (∃ c ∈ cs, ¬ (cntZ b c : Int) < 2) → (drfGo cs b d f).1 = false
 | c :: cs, h => by
  rw [drfGo]
  cases hc : decide ((cntZ b c : Int) < 2) with
  | true =>
   rw [cond_true]
   refine drf_many hd ?_
   obtain ⟨x, hx, hxc⟩ := h
   rcases List.mem_cons.1 hx with rfl | hx
   ·exact absurd (of_decide_eq_true hc) hxc
   ·exact ⟨x, hx, hxc⟩
  | false =>
   rw [cond_false]
   have : (d != 0) = true := by simpa using hd
   rw [this]
   rfl
 | [], ⟨_, h, _⟩ => by cases h
theorem drf_two {b : List Int} {d f : Int} : ∀ {cs : List Int} {c1 c2 : Int}, (∀ c ∈ cs, c ≠ 0) → c1 ∈ cs → c2 ∈ cs → c1 ≠ c2 → ¬ (cntZ b c1 : Int) < 2 → ¬ (cntZ b c2 : Int) < 2 → (drfGo cs b d f).1 = false
 | c :: cs, c1, c2, h0, m1, m2, hne, h1, h2 => by
  rw [drfGo]
  cases hc : decide ((cntZ b c : Int) < 2) with
  | true =>
   have hc := of_decide_eq_true hc
   rw [cond_true]
   refine drf_two (fun x hx => h0 x (List.mem_cons_of_mem _ hx)) ?_ ?_ hne h1 h2
   ·rcases List.mem_cons.1 m1 with rfl | q
    ·exact absurd hc h1
    ·exact q
   ·rcases List.mem_cons.1 m2 with rfl | q
    ·exact absurd hc h2
    ·exact q
  | false =>
   rw [cond_false]
   cases d != 0 with
   | true => rfl
   | false =>
    rw [cond_false]
    cases drC b c with
    | false => rfl
    | true =>
     rw [cond_true]
     refine drf_many (h0 c (List.mem_cons_self ..)) ?_
     by_cases e : c1 = c
     ·rcases List.mem_cons.1 m2 with q | q
      ·exact absurd (e.trans q.symm) hne
      ·exact ⟨c2, q, h2⟩
     ·rcases List.mem_cons.1 m1 with q | q
      ·exact absurd q e
      ·exact ⟨c1, q, h1⟩
theorem drf_one {b : List Int} {f : Int} : ∀ {cs : List Int} {c : Int}, cs.Nodup → c ∈ cs → ¬ (cntZ b c : Int) < 2 → (∀ x ∈ cs, x ≠ c → (cntZ b x : Int) < 2) → drfGo cs b 0 f = bif drC b c then (true, c, idxZ b c) else (false, 0, 0)
 | x :: cs, c, hn, hm, h1, h2 => by
  have hn' := List.nodup_cons.1 hn
  rw [drfGo]
  by_cases e : x = c
  ·subst e
   rw [decide_eq_false h1, cond_false]
   have : ((0 : Int) != 0) = false := rfl
   rw [this, cond_false]
   cases drC b x with
   | false => rfl
   | true =>
    rw [cond_true, cond_true]
    exact drf_none fun y hy => h2 y (List.mem_cons_of_mem _ hy) fun q => hn'.1 (q ▸ hy)
  ·rw [decide_eq_true (h2 x (List.mem_cons_self ..) e), cond_true]
   exact drf_one hn'.2 (by rcases List.mem_cons.1 hm with q | q; exact absurd q.symm e; exact q) h1 fun y hy => h2 y (List.mem_cons_of_mem _ hy)
theorem drGo_spec (s : List Int) : ∀ r : List Int, drGo s r = 0 ∨ (flg s (drGo s r) = true ∧ drGo s r ∈ r)
 | [] => .inl rfl
 | c :: r => by
  rw [drGo]
  split
  ·rename_i h
   exact .inr ⟨by simp only [flg, Bool.and_eq_true, decide_eq_true_eq]; exact h, List.mem_cons_self ..⟩
  ·rcases drGo_spec s r with h | ⟨h1, h2⟩
   ·exact .inl h
   ·exact .inr ⟨h1, List.mem_cons_of_mem _ h2⟩
theorem drGo_ne (s : List Int) {c : Int} (hf : flg s c = true) : ∀ r : List Int, c ∈ r → drGo s r ≠ 0
 | x :: r, h => by
  rw [drGo]
  split
  ·rename_i h
   have : hasZ [36, 83, 43, 45] x = true := h.1
   rw [has_dr] at this
   omega
  ·rename_i hx
   rcases List.mem_cons.1 h with rfl | h
   ·simp only [flg, Bool.and_eq_true, decide_eq_true_eq] at hf
    exact absurd hf hx
   ·exact drGo_ne s hf r h
theorem flg_iff {s : List Int} {c : Int} (h : c ∈ [36, 83, 43, 45]) : flg s c = true ↔ ¬ (cntZ s c : Int) < 2 := by
 simp only [flg, Bool.and_eq_true, decide_eq_true_eq, hasZ_iff]
 exact ⟨fun q => by omega, fun q => ⟨h, by omega⟩⟩
theorem flg_mem {s : List Int} {c : Int} (h : flg s c = true) : c ∈ [36, 83, 43, 45] ∧ ¬ (cntZ s c : Int) < 2 := by
 simp only [flg, Bool.and_eq_true, decide_eq_true_eq, hasZ_iff] at h
 exact ⟨h.1, by omega⟩
theorem nD_law (b : List Int) : (nD b).1 = driftsZ b ∧ (driftsZ b = true → (nD b).2.1 = drZ b ∧ (nD b).2.2 = if drZ b = 0 then -1 else idxZ b (drZ b)) := by
 have h4 : ∀ c ∈ [36, 83, 43, (45 : Int)], c ≠ 0 := by decide
 by_cases hd : drZ b = 0
 ·have hn : nD b = (true, 0, -1) := drf_none fun c hc => by
   cases hq : decide ((cntZ b c : Int) < 2) with
   | true => exact of_decide_eq_true hq
   | false =>
    have hf := (flg_iff hc).2 (of_decide_eq_false hq)
    exact absurd hd (drGo_ne b hf b (cnt_mem (flg_mem hf).2))
  have hz : driftsZ b = true := by rw [driftsZ, hd]; rfl
  rw [hn, hz, hd]
  exact ⟨rfl, fun _ => ⟨rfl, rfl⟩⟩
 ·obtain ⟨hf, hm⟩ := (drGo_spec b b).resolve_left hd
  have hf : flg b (drZ b) = true := hf
  have hm : drZ b ∈ b := hm
  obtain ⟨m1, m2⟩ := flg_mem hf
  have hz : driftsZ b = ((df1 b (drZ b) b 0 (-1) (-1)).1 && d2Go (drZ b) (df1 b (drZ b) b 0 (-1) (-1)).2.1 (b.take (df1 b (drZ b) b 0 (-1) (-1)).2.2.toNat) 0) := by
   have : (drZ b == 0) = false := by simpa using hd
   rw [driftsZ, this, Bool.false_or]
  by_cases ho : ∃ x ∈ [36, 83, 43, (45 : Int)], x ≠ drZ b ∧ ¬ (cntZ b x : Int) < 2
  ·obtain ⟨x, x1, x2, x3⟩ := ho
   have e1 : (nD b).1 = false := drf_two h4 x1 m1 x2 x3 m2
   have e2 : (df1 b (drZ b) b 0 (-1) (-1)).1 = false := by
    rw [df1_all, List.all_eq_false]
    refine ⟨x, cnt_mem x3, ?_⟩
    rw [(flg_iff x1).2 x3]
    simpa using x2
   rw [hz, e1, e2]
   exact ⟨rfl, fun q => by cases q⟩
  ·have ho : ∀ x ∈ [36, 83, 43, (45 : Int)], x ≠ drZ b → (cntZ b x : Int) < 2 := fun x x1 x2 => by
    cases hq : decide ((cntZ b x : Int) < 2) with
    | true => exact of_decide_eq_true hq
    | false => exact absurd ⟨x, x1, x2, of_decide_eq_false hq⟩ ho
   have e1 : nD b = bif drC b (drZ b) then (true, drZ b, idxZ b (drZ b)) else (false, 0, 0) := drf_one (by decide) m1 m2 ho
   have e2 : (df1 b (drZ b) b 0 (-1) (-1)).1 = true := by
    rw [df1_all, List.all_eq_true]
    intro x _
    by_cases q : x = drZ b
    ·rw [q]; simp
    ·have : flg b x = false := by
      cases hh : flg b x with
      | false => rfl
      | true => obtain ⟨a1, a2⟩ := flg_mem hh; exact absurd (ho x a1 q) a2
     rw [this]
     simp
   obtain ⟨q1, q2⟩ := df1_fl b (drZ b) b 0 (-1) (-1) (by omega) e2
   rw [if_pos (by omega), if_pos hm, Int.zero_add] at q1
   rw [if_pos hm, Int.zero_add] at q2
   rw [hz, e1, e2, q1, q2, d2_drC hm, Bool.true_and]
   cases drC b (drZ b) with
   | false => exact ⟨rfl, fun q => by cases q⟩
   | true => exact ⟨rfl, fun _ => ⟨rfl, by rw [if_neg hd]; rfl⟩⟩
def rmk (r : Int) : Int := [100, 99, 118, 105, 115, 109].getD r.toNat 0
theorem ro_rng (d f c i : Int) : 0 ≤ roP d f c i ∧ roP d f c i ≤ 5 := by
 unfold roP
 cases hasZ [57, 89, 84, 73, 82] c <;> cases (c == 90 || (c == 42 || (c == d && i != f))) <;> cases c == 86 <;> cases c == 36 <;> cases (c == 83 || (c == 43 || c == 45)) <;> simp
theorem idx_app (d : Int) : ∀ x y : List Int, idxZ (x ++ y) d = if d ∈ x then idxZ x d else if d ∈ y then x.length + idxZ y d else -1
 | [], y => by
  simp only [List.nil_append, List.not_mem_nil, if_false, List.length_nil]
  split
  ·omega
  ·rename_i h
   have h : ¬ 0 ≤ idxZ y d := fun q => h ((idx_has d y).2.1 q)
   have := (idx_has d y).1
   omega
 | c :: x, y => by
  have ih := idx_app d x y
  rw [List.cons_append, idxZ, idxZ]
  by_cases hc : c = d
  ·rw [if_pos hc, if_pos hc, if_pos (by rw [hc]; exact List.mem_cons_self ..)]
  ·rw [if_neg hc, if_neg hc, ih]
   have hm : d ∈ c :: x ↔ d ∈ x := by
    rw [List.mem_cons]
    exact ⟨fun q => q.resolve_left fun e => hc e.symm, .inr⟩
   simp only [hm]
   by_cases hx : d ∈ x
   ·rw [if_pos hx, if_pos hx]
   ·rw [if_neg hx, if_neg hx]
    by_cases hy : d ∈ y
    ·have := idx_lt d hy
     rw [if_pos hy, if_pos hy, if_neg (by omega)]
     simp only [List.length_cons]
     omega
    ·rw [if_neg hy, if_neg hy, if_pos rfl]
structure DrP (b : List Int) (d f : Int) : Prop where
 zero : ∀ c ∈ b, c ≠ 0
 at_ : d = 0 ∧ f = -1 ∨ d ≠ 0 ∧ d ∈ b ∧ f = idxZ b d ∧ d ∈ [36, 83, 43, (45 : Int)]
theorem DrP.eq {b pre r : List Int} {c d f : Int} (h : DrP b d f) (hb : b = pre ++ c :: r) : (c = d ∧ (pre.length : Int) ≠ f ↔ c = d ∧ d ≠ 0 ∧ d ∈ pre) ∧ ((pre.length : Int) = f ↔ c = d ∧ d ∉ pre) := by
 have hc0 := h.zero c (by rw [hb]; simp)
 rcases h.at_ with ⟨rfl, rfl⟩ | ⟨h1, h2, h3, _⟩
 ·exact ⟨⟨fun q => absurd q.1 hc0, fun q => absurd q.1 hc0⟩, ⟨fun q => by omega, fun q => absurd q.1 hc0⟩⟩
 ·rw [hb, idx_app] at h3
  by_cases hp : d ∈ pre
  ·rw [if_pos hp] at h3
   have := idx_lt d hp
   exact ⟨⟨fun q => ⟨q.1, h1, hp⟩, fun q => ⟨q.1, by omega⟩⟩, ⟨fun q => by omega, fun q => absurd hp q.2⟩⟩
  ·rw [if_neg hp] at h3
   rw [hb] at h2
   have hd : d ∈ c :: r := by rcases List.mem_append.1 h2 with q | q; exact absurd q hp; exact q
   rw [if_pos hd, idxZ] at h3
   by_cases hc : c = d
   ·rw [if_pos hc] at h3
    exact ⟨⟨fun q => absurd h3 (by omega), fun q => absurd q.2.2 hp⟩, ⟨fun _ => ⟨hc, hp⟩, fun _ => by omega⟩⟩
   ·rw [if_neg hc] at h3
    have hr : d ∈ r := by rcases List.mem_cons.1 hd with q | q; exact absurd q.symm hc; exact q
    have := idx_lt d hr
    rw [if_neg (by omega)] at h3
    exact ⟨⟨fun q => absurd q.1 hc, fun q => absurd q.1 hc⟩, ⟨fun q => by omega, fun q => absurd q.1 hc⟩⟩
theorem mk_ro {b pre r : List Int} {c d f : Int} (h : DrP b d f) (hb : b = pre ++ c :: r) : rmk (roP d f c pre.length) = mk1 d (d != 0 && decide (d ∈ pre)) c := by
 have e : (c == 90 || (c == 42 || (c == d && (pre.length : Int) != f))) = (hasZ [90, 42] c || (d != 0 && (c == d && (d != 0 && decide (d ∈ pre))))) := by
  have := (h.eq hb).1
  rw [Bool.eq_iff_iff]
  simp only [Bool.or_eq_true, Bool.and_eq_true, beq_iff_eq, bne_iff_ne, decide_eq_true_eq, hasZ_iff, List.mem_cons, List.not_mem_nil, or_false]
  rw [this]
  constructor
  ·rintro (q | q | ⟨q1, q2, q3⟩)
   ·exact .inl (.inl q)
   ·exact .inl (.inr q)
   ·exact .inr ⟨q2, q1, q2, q3⟩
  ·rintro ((q | q) | ⟨q2, q1, _, q3⟩)
   ·exact .inl q
   ·exact .inr (.inl q)
   ·exact .inr (.inr ⟨q1, q2, q3⟩)
 have e2 : (c == 83 || (c == 43 || c == 45)) = hasZ [83, 43, 45] c := by
  rw [Bool.eq_iff_iff]
  simp only [Bool.or_eq_true, beq_iff_eq, hasZ_iff, List.mem_cons, List.not_mem_nil, or_false]
 unfold roP mk1
 rw [e, e2]
 cases hasZ [57, 89, 84, 73, 82] c <;> cases (hasZ [90, 42] c || (d != 0 && (c == d && (d != 0 && decide (d ∈ pre))))) <;> cases c == 86 <;> cases c == 36 <;> cases hasZ [83, 43, 45] c <;> rfl
theorem roles_marks {b : List Int} {d f : Int} (h : DrP b d f) : ∀ r pre : List Int, b = pre ++ r → (rolesP d f r pre.length).map rmk = mkGo d (d != 0 && decide (d ∈ pre)) r
 | [], _, _ => rfl
 | c :: r, pre, hb => by
  rw [rolesP, List.map_cons, mkGo, mk_ro h hb]
  congr 1
  have ih := roles_marks h r (pre ++ [c]) (by rw [hb]; simp)
  have e : ((pre ++ [c]).length : Int) = pre.length + 1 := by simp
  have e2 : (d != 0 && decide (d ∈ pre ++ [c])) = (d != 0 && decide (d ∈ pre) || (d != 0 && c == d)) := by
   rw [Bool.eq_iff_iff]
   simp only [Bool.or_eq_true, Bool.and_eq_true, beq_iff_eq, bne_iff_ne, decide_eq_true_eq, List.mem_append, List.mem_cons, List.not_mem_nil, or_false]
   constructor
   ·rintro ⟨q, q2 | q2⟩
    ·exact .inl ⟨q, q2⟩
    ·exact .inr ⟨q, q2.symm⟩
   ·rintro (⟨q, q2⟩ | ⟨q, q2⟩)
    ·exact ⟨q, .inl q2⟩
    ·exact ⟨q, .inr q2.symm⟩
  rw [e, e2] at ih
  exact ih
def okR (rs : List Int) : Prop := ∀ r ∈ rs, 0 ≤ r ∧ r ≤ 5
theorem roles_ok (d f : Int) : ∀ (l : List Int) (i : Int), okR (rolesP d f l i)
 | [], _ => fun r h => by cases h
 | c :: l, i => fun r h => by
  rw [rolesP] at h
  rcases List.mem_cons.1 h with rfl | h
  ·exact ro_rng _ _ _ _
  ·exact roles_ok d f l _ r h
theorem rmk_cases {r : Int} (h : 0 ≤ r ∧ r ≤ 5) : r = 0 ∨ r = 1 ∨ r = 2 ∨ r = 3 ∨ r = 4 ∨ r = 5 := by omega
def qgo : List Int → Int → Int
 | [], _ => 0
 | m :: r, p => bif m == 118 then qgo r (p + 1) else (bif isP m then p else 0) + qgo r p
theorem pl_ld : ∀ (rs : List Int) (a : PlS), okR rs → 0 ≤ a.pts → 0 ≤ a.fm →
  (plGo rs a).1 = (ldGo (rs.map rmk) (decide (a.fm > 0)) a.bh (decide (a.pts > 0)) a.dg).1 ∧
  ((plGo rs a).1 = true → (plGo rs a).2.dg = (ldGo (rs.map rmk) (decide (a.fm > 0)) a.bh (decide (a.pts > 0)) a.dg).2.2.2 ∧ (plGo rs a).2.bh = (ldGo (rs.map rmk) (decide (a.fm > 0)) a.bh (decide (a.pts > 0)) a.dg).2.2.1 ∧
   decide ((plGo rs a).2.fm > 0) = (ldGo (rs.map rmk) (decide (a.fm > 0)) a.bh (decide (a.pts > 0)) a.dg).2.1 ∧ (plGo rs a).2.pts = a.pts + cntZ (rs.map rmk) 118 ∧ (plGo rs a).2.w = a.w + nv (rs.map rmk) ∧
   (plGo rs a).2.q = a.q + qgo (rs.map rmk) a.pts ∧ (plGo rs a).2.fm = a.fm + cntZ (rs.map rmk) 100)
 | [], a, _, _, _ => by simp [plGo, ldGo, cntZ, nv, qgo]
 | r :: rs, a, hok, hp, hf => by
  have hr := hok r (List.mem_cons_self ..)
  have hrs : okR rs := fun x hx => hok x (List.mem_cons_of_mem _ hx)
  have i1 := pl_ld rs ⟨a.pts + 1, a.bh, a.w, a.dg, a.q, a.fm⟩ hrs (by simp only; omega) hf
  have i2 := pl_ld rs ⟨a.pts, a.bh, a.w + 1, a.dg + 1, a.q + a.pts, a.fm + 1⟩ hrs hp (by simp only; omega)
  have i3 := pl_ld rs ⟨a.pts, a.bh || decide (a.pts > 0), a.w + 1, a.dg + 1, a.q + a.pts, a.fm⟩ hrs hp hf
  have i4 := pl_ld rs ⟨a.pts, a.bh, a.w + 1, a.dg, a.q, a.fm⟩ hrs hp hf
  have cc : ∀ (m x : Int), (cntZ (m :: rs.map rmk) x : Int) = (if m = x then 1 else 0) + cntZ (rs.map rmk) x := fun m x => by
   unfold cntZ
   rw [List.filter_cons]
   by_cases h : m = x
   ·rw [if_pos (by simpa using h), if_pos h, List.length_cons]; omega
   ·rw [if_neg (by simpa using h), if_neg h]; omega
  have cn : ∀ m : Int, (nv (m :: rs.map rmk) : Int) = (if m = 118 then 0 else 1) + nv (rs.map rmk) := fun m => by
   rw [nv_cons]; split <;> omega
  rw [List.map_cons, cc, cc, cn]
  rcases rmk_cases hr with rfl | rfl | rfl | rfl | rfl | rfl
  ·have e : rmk 0 = 100 := rfl
   rw [e]
   simp only [decide_eq_true (show a.fm + 1 > 0 by omega)] at i2
   refine ⟨i2.1, fun h => ?_⟩
   obtain ⟨q1, q2, q3, q4, q5, q6, q7⟩ := i2.2 h
   refine ⟨q1, q2, q3, ?_, ?_, ?_, ?_⟩
   ·exact q4.trans (by simp)
   ·exact q5.trans (by simp; omega)
   ·refine q6.trans ?_
    show a.q + a.pts + qgo (rs.map rmk) a.pts = a.q + (a.pts + qgo (rs.map rmk) a.pts)
    omega
   ·exact q7.trans (by simp; omega)
  ·have e : rmk 1 = 99 := rfl
   rw [e]
   have e1 : plGo (1 :: rs) a = bif decide (a.fm > 0) then (false, a) else plGo rs ⟨a.pts, a.bh || decide (a.pts > 0), a.w + 1, a.dg + 1, a.q + a.pts, a.fm⟩ := rfl
   have e2 : ldGo (99 :: rs.map rmk) (decide (a.fm > 0)) a.bh (decide (a.pts > 0)) a.dg = bif decide (a.fm > 0) then (false, false, false, 0) else ldGo (rs.map rmk) (decide (a.fm > 0)) (a.bh || decide (a.pts > 0)) (decide (a.pts > 0)) (a.dg + 1) := rfl
   rw [e1, e2]
   cases hd : decide (a.fm > 0) with
   | true => exact ⟨rfl, fun h => by cases h⟩
   | false =>
    simp only [hd] at i3
    refine ⟨i3.1, fun h => ?_⟩
    obtain ⟨q1, q2, q3, q4, q5, q6, q7⟩ := i3.2 h
    refine ⟨q1, q2, q3, ?_, ?_, ?_, ?_⟩
    ·exact q4.trans (by simp)
    ·exact q5.trans (by simp; omega)
    ·refine q6.trans ?_
     show a.q + a.pts + qgo (rs.map rmk) a.pts = a.q + (a.pts + qgo (rs.map rmk) a.pts)
     omega
    ·exact q7.trans (by simp)
  ·have e : rmk 2 = 118 := rfl
   rw [e]
   simp only [decide_eq_true (show a.pts + 1 > 0 by omega)] at i1
   refine ⟨i1.1, fun h => ?_⟩
   obtain ⟨q1, q2, q3, q4, q5, q6, q7⟩ := i1.2 h
   refine ⟨q1, q2, q3, ?_, ?_, q6, ?_⟩
   ·exact q4.trans (by simp; omega)
   ·exact q5.trans (by simp)
   ·exact q7.trans (by simp)
  all_goals
   refine ⟨i4.1, fun h => ?_⟩
   obtain ⟨q1, q2, q3, q4, q5, q6, q7⟩ := i4.2 h
   refine ⟨q1, q2, q3, ?_, ?_, ?_, ?_⟩
   ·exact q4.trans (by simp [rmk])
   ·exact q5.trans (by simp [rmk]; omega)
   ·refine q6.trans ?_
    show a.q + qgo (rs.map rmk) a.pts = a.q + (0 + qgo (rs.map rmk) a.pts)
    omega
   ·exact q7.trans (by simp [rmk])
theorem ro_isJ {b pre r : List Int} {c d f : Int} (h : DrP b d f) (hb : b = pre ++ c :: r) : (rmk (roP d f c pre.length) == 100 || (rmk (roP d f c pre.length) == 99 || c == d)) = (roP d f c pre.length == 0 || (roP d f c pre.length == 1 || (pre.length : Int) == f)) := by
 obtain ⟨h1, h2⟩ := h.eq hb
 have hr := ro_rng d f c pre.length
 have e100 : (rmk (roP d f c pre.length) == 100) = (roP d f c pre.length == 0) := by
  rcases rmk_cases hr with q | q | q | q | q | q <;> rw [q] <;> rfl
 have e99 : (rmk (roP d f c pre.length) == 99) = (roP d f c pre.length == 1) := by
  rcases rmk_cases hr with q | q | q | q | q | q <;> rw [q] <;> rfl
 rw [e100, e99]
 by_cases hf : (pre.length : Int) = f
 ·obtain ⟨q1, _⟩ := h2.1 hf
  have a1 : ((pre.length : Int) == f) = true := by simpa using hf
  have a2 : (c == d) = true := by simpa using q1
  rw [a1, a2]
 ·have a1 : ((pre.length : Int) == f) = false := by simpa using hf
  rw [a1]
  by_cases hc : c = d
  ·-- then a leader
   by_cases h0 : (roP d f c pre.length == 0) = true
   ·rw [h0]; rfl
   ·have hl : roP d f c pre.length = 1 := by
     have e : (c == 90 || (c == 42 || (c == d && (pre.length : Int) != f))) = true := by
      have a3 : ((pre.length : Int) != f) = true := by simpa using hf
      have a2 : (c == d) = true := by simpa using hc
      rw [a2, a3]; simp
     unfold roP at h0 ⊢
     rw [e] at h0 ⊢
     cases hq : hasZ [57, 89, 84, 73, 82] c with
     | true => rw [hq] at h0; exact absurd rfl h0
     | false => rfl
    rw [hl]; simp
  ·have a2 : (c == d) = false := by simpa using hc
   rw [a2]
theorem st_in {b : List Int} {d f x : Int} (h : DrP b d f) : ∀ (r pre : List Int) (lo hi : Int), b = pre ++ r →
  stIn d x r ((rolesP d f r pre.length).map rmk) pre.length (decide (lo < x)) (decide (hi > x)) = (decide (loGo f (rolesP d f r pre.length) pre.length lo < x), decide (hiGo f (rolesP d f r pre.length) pre.length hi > x))
 | [], pre, lo, hi, _ => by simp [stIn, rolesP, loGo, hiGo]
 | c :: r, pre, lo, hi, hb => by
  have ih := fun lo hi => st_in (x := x) h r (pre ++ [c]) lo hi (by rw [hb]; simp)
  have e : ((pre ++ [c]).length : Int) = pre.length + 1 := by simp
  rw [e] at ih
  rw [rolesP, List.map_cons, stIn, loGo, hiGo, ro_isJ h hb]
  cases (roP d f c pre.length == 0 || (roP d f c pre.length == 1 || (pre.length : Int) == f)) with
  | false => rw [cond_false, cond_false, cond_false, ih]
  | true =>
   rw [cond_true, cond_true, cond_true, ← ih]
   have e1 : (decide (lo < x) || decide ((pre.length : Int) < x)) = decide (imin lo pre.length < x) := by
    rw [Bool.eq_iff_iff]
    simp only [Bool.or_eq_true, decide_eq_true_eq]
    unfold imin
    split <;> omega
   have e2 : (decide (hi > x) || decide ((pre.length : Int) > x)) = decide (imax hi pre.length > x) := by
    rw [Bool.eq_iff_iff]
    simp only [Bool.or_eq_true, decide_eq_true_eq]
    unfold imax
    split <;> omega
   rw [e1, e2]
theorem ro_still {b pre r : List Int} {c d f : Int} (h : DrP b d f) (hb : b = pre ++ c :: r) : ((roP d f c pre.length == 4 || roP d f c pre.length == 5) && (pre.length : Int) != f) = (hasZ [36, 83, 43, 45] c && !(c == d)) := by
 obtain ⟨h1, h2⟩ := h.eq hb
 by_cases hc : c = d
 ·have a2 : (c == d) = true := by simpa using hc
  rw [a2, Bool.not_true, Bool.and_false]
  by_cases hf : (pre.length : Int) = f
  ·have a1 : ((pre.length : Int) != f) = false := by simpa using hf
   rw [a1, Bool.and_false]
  ·have a3 : ((pre.length : Int) != f) = true := by simpa using hf
   have e : (c == 90 || (c == 42 || (c == d && (pre.length : Int) != f))) = true := by rw [a2, a3]; simp
   unfold roP
   rw [e]
   cases hasZ [57, 89, 84, 73, 82] c <;> rfl
 ·have a2 : (c == d) = false := by simpa using hc
  have hf : ¬ (pre.length : Int) = f := fun q => hc (h2.1 q).1
  have a3 : ((pre.length : Int) != f) = true := by simpa using hf
  rw [a2, a3, Bool.and_true, Bool.not_false, Bool.and_true]
  have e : (c == 90 || (c == 42 || (c == d && (pre.length : Int) != f))) = (c == 90 || c == 42) := by rw [a2]; simp
  unfold roP
  rw [e]
  by_cases m : c ∈ [36, 83, 43, (45 : Int)]
  ·have : c = 36 ∨ c = 83 ∨ c = 43 ∨ c = 45 := by simpa using m
   rcases this with rfl | rfl | rfl | rfl <;> rfl
  ·have hm : hasZ [36, 83, 43, 45] c = false := by
    cases q : hasZ [36, 83, 43, 45] c with
    | false => rfl
    | true => exact absurd (hasZ_iff.1 q) m
   rw [hm]
   simp only [List.mem_cons, List.not_mem_nil, or_false, not_or] at m
   have b1 : (c == 36) = false := by simpa using m.1
   have b2 : (c == 83 || (c == 43 || c == 45)) = false := by simp [m.2.1, m.2.2.1, m.2.2.2]
   rw [b1, b2]
   cases hasZ [57, 89, 84, 73, 82] c <;> cases (c == 90 || c == 42) <;> cases c == 86 <;> rfl
theorem st_law {b ms : List Int} {d f lo hi : Int} (h : DrP b d f) (hin : ∀ x : Int, 0 ≤ x → x ≤ b.length → stIn d x b ms 0 false false = (decide (lo < x), decide (hi > x))) : ∀ (r pre : List Int), b = pre ++ r →
  stP f lo hi (rolesP d f r pre.length) pre.length = stGo d b ms r pre.length
 | [], _, _ => rfl
 | c :: r, pre, hb => by
  have ih := st_law h hin r (pre ++ [c]) (by rw [hb]; simp)
  have e : ((pre ++ [c]).length : Int) = pre.length + 1 := by simp
  rw [e] at ih
  have hl : (b.length : Int) = pre.length + 1 + r.length := by rw [hb]; simp; omega
  rw [rolesP, stP, stGo, ih, hin _ (by omega) (by omega)]
  congr 1
  have s := ro_still h hb
  have e3 : ((roP d f c pre.length == 4 || roP d f c pre.length == 5) && ((pre.length : Int) != f && (decide ((pre.length : Int) > lo) && decide ((pre.length : Int) < hi)))) = (((roP d f c pre.length == 4 || roP d f c pre.length == 5) && (pre.length : Int) != f) && (decide (lo < (pre.length : Int)) && decide (hi > (pre.length : Int)))) := by
   rw [Bool.and_assoc]
  rw [e3, s]
  cases hasZ [36, 83, 43, 45] c <;> cases (c == d) <;> rfl
theorem cnt_cons (c x : Int) (l : List Int) : (cntZ (c :: l) x : Int) = (if c = x then 1 else 0) + cntZ l x := by
 unfold cntZ
 rw [List.filter_cons]
 by_cases h : c = x
 ·rw [if_pos (by simpa using h), if_pos h, List.length_cons]; omega
 ·rw [if_neg (by simpa using h), if_neg h]; omega
theorem has_cons (c x : Int) (l : List Int) : hasZ (c :: l) x = (c == x || hasZ l x) := rfl
def sgX (d x : Int) (pre r : List Int) : Int := if x = d then (if d ∈ pre then 0 else b2i (hasZ r x)) else cntZ r x
theorem sgX_cons {d x c : Int} {pre r : List Int} : sgX d x pre (c :: r) = (if c = x ∧ ¬ (x = d ∧ d ∈ pre) then 1 else 0) + sgX d x (pre ++ [c]) r := by
 unfold sgX
 by_cases hx : x = d
 ·rw [if_pos hx, if_pos hx]
  by_cases hp : d ∈ pre
  ·have hp2 : d ∈ pre ++ [c] := List.mem_append.2 (.inl hp)
   rw [if_pos hp, if_pos hp2, if_neg (fun q => q.2 ⟨hx, hp⟩)]
   rfl
  ·rw [if_neg hp, has_cons]
   by_cases hc : c = x
   ·have hp2 : d ∈ pre ++ [c] := List.mem_append.2 (.inr (by rw [hc, hx]; exact List.mem_singleton.2 rfl))
    rw [if_pos ⟨hc, fun q => hp q.2⟩, if_pos hp2]
    have : (c == x) = true := by simpa using hc
    rw [this]
    rfl
   ·have : (c == x) = false := by simpa using hc
    have hp2 : d ∉ pre ++ [c] := fun q => by
     rcases List.mem_append.1 q with q | q
     ·exact hp q
     ·exact hc (by rw [hx]; exact (List.mem_singleton.1 q).symm)
    rw [if_neg (fun q => hc q.1), if_neg hp2, this, Bool.false_or]
    omega
 ·rw [if_neg hx, if_neg hx, cnt_cons]
  by_cases hc : c = x
  ·rw [if_pos hc, if_pos ⟨hc, fun q => hx q.1⟩]
  ·rw [if_neg hc, if_neg (fun q => hc q.1)]
theorem si_law {b : List Int} {d f : Int} (h : DrP b d f) : ∀ (r pre : List Int), b = pre ++ r →
  siGo r (rolesP d f r pre.length) = sgX d 83 pre r + sgX d 43 pre r + sgX d 45 pre r + cntZ r 84 + cntZ r 73 + cntZ r 82
 | [], pre, _ => by
  have : ∀ x, sgX d x pre [] = 0 := fun x => by unfold sgX; split <;> (try split) <;> rfl
  rw [this, this, this]
  rfl
 | c :: r, pre, hb => by
  have ih := si_law h r (pre ++ [c]) (by rw [hb]; simp)
  have e : ((pre ++ [c]).length : Int) = pre.length + 1 := by simp
  rw [e] at ih
  rw [rolesP, siGo, ih, sgX_cons, sgX_cons, sgX_cons, cnt_cons, cnt_cons, cnt_cons]
  have key : (bif roP d f c pre.length == 4 || hasZ [84, 73, 82] c then (1 : Int) else 0) = (if c = 83 ∧ ¬ ((83 : Int) = d ∧ d ∈ pre) then 1 else 0) + (if c = 43 ∧ ¬ ((43 : Int) = d ∧ d ∈ pre) then 1 else 0) + (if c = 45 ∧ ¬ ((45 : Int) = d ∧ d ∈ pre) then 1 else 0) + (if c = 84 then 1 else 0) + (if c = 73 then 1 else 0) + (if c = 82 then 1 else 0) := by
   obtain ⟨h1, h2⟩ := h.eq hb
   by_cases m : c = 83 ∨ c = 43 ∨ c = 45
   ·-- a sign
    have hc0 : c ≠ 0 := by omega
    have hl : (c = d ∧ (pre.length : Int) ≠ f) ↔ (c = d ∧ d ∈ pre) := by
     rw [h1]
     exact ⟨fun q => ⟨q.1, q.2.2⟩, fun q => ⟨q.1, by rw [← q.1]; exact hc0, q.2⟩⟩
    by_cases hs : c = d ∧ d ∈ pre
    ·have hq := hl.2 hs
     have e1 : (c == d && (pre.length : Int) != f) = true := by simpa using hq
     have hr : roP d f c pre.length = 1 := by
      unfold roP
      rw [e1]
      rcases m with rfl | rfl | rfl <;> simp <;> rfl
     rw [hr]
     rcases m with rfl | rfl | rfl
     ·rw [if_neg (fun q => q.2 hs)]; rfl
     ·rw [if_neg (fun q => by omega), if_neg (fun q => q.2 hs)]; rfl
     ·rw [if_neg (fun q => by omega), if_neg (fun q => by omega), if_neg (fun q => q.2 hs)]; rfl
    ·have hq : ¬ (c = d ∧ (pre.length : Int) ≠ f) := fun q => hs (hl.1 q)
     have e1 : (c == d && (pre.length : Int) != f) = false := by
      cases q : (c == d && (pre.length : Int) != f) with
      | false => rfl
      | true => exact absurd (by simpa using q) hq
     have hr : roP d f c pre.length = 4 := by
      unfold roP
      rw [e1]
      rcases m with rfl | rfl | rfl <;> rfl
     rw [hr]
     rcases m with rfl | rfl | rfl
     ·rw [if_pos ⟨rfl, hs⟩]; rfl
     ·rw [if_neg (fun q => by omega), if_pos ⟨rfl, hs⟩]; rfl
     ·rw [if_neg (fun q => by omega), if_neg (fun q => by omega), if_pos ⟨rfl, hs⟩]; rfl
   ·have hr : (roP d f c pre.length == 4) = false := by
     have e2 : (c == 83 || (c == 43 || c == 45)) = false := by simp; omega
     unfold roP
     rw [e2]
     cases hasZ [57, 89, 84, 73, 82] c <;> cases (c == 90 || (c == 42 || (c == d && (pre.length : Int) != f))) <;> cases c == 86 <;> cases c == 36 <;> rfl
    rw [hr, Bool.false_or, if_neg (fun q => by omega), if_neg (fun q => by omega), if_neg (fun q => by omega)]
    by_cases k : c = 84 ∨ c = 73 ∨ c = 82
    ·rcases k with rfl | rfl | rfl <;> rfl
    ·have : hasZ [84, 73, 82] c = false := by
      cases q : hasZ [84, 73, 82] c with
      | false => rfl
      | true => rw [hasZ_iff] at q; simp at q; omega
     rw [this, if_neg (by omega), if_neg (by omega), if_neg (by omega)]
     rfl
  rw [key]
  omega
theorem cnt_app' (a b : List Int) (c : Int) : (cntZ (a ++ b) c : Int) = cntZ a c + cntZ b c := by rw [cnt_app]; omega
theorem mk_118 {dr : Int} (hd : dr = 0 ∨ hasZ [36, 83, 43, 45] dr = true) : ∀ (l : List Int) (seen : Bool), (cntZ (mkGo dr seen l) 118 : Int) = cntZ l 86
 | [], _ => rfl
 | c :: r, seen => by
  have hm := mk1_pt hd seen c
  rw [mkGo, cnt_cons, cnt_cons, mk_118 hd r]
  by_cases h : c = 86
  ·rw [if_pos h, if_pos (hm.2 h)]
  ·rw [if_neg h, if_neg fun e => h (hm.1 e)]
theorem has_cnt {l : List Int} {c : Int} (h : (cntZ l c : Int) ≤ 1) : (cntZ l c : Int) = b2i (hasZ l c) := by
 induction l with
 | nil => rfl
 | cons x l ih =>
  rw [cnt_cons] at h ⊢
  rw [has_cons]
  by_cases hx : x = c
  ·have : (x == c) = true := by simpa using hx
   rw [if_pos hx] at h ⊢
   rw [this, Bool.true_or]
   have : (cntZ l c : Int) = 0 := by omega
   rw [this]
   rfl
  ·have : (x == c) = false := by simpa using hx
   rw [if_neg hx] at h ⊢
   rw [this, Bool.false_or, Int.zero_add]
   exact ih (by omega)
theorem q_law {dr : Int} (hd : dr = 0 ∨ hasZ [36, 83, 43, 45] dr = true) {l t : List Int} : ∀ (r pre : List Int) (seen : Bool), l = pre ++ r ++ t → (cntZ (pre ++ r) 86 : Int) ≤ 1 →
  qgo (mkGo dr seen r) (cntZ pre 86) = pqGo l (mkGo dr seen r) pre.length
 | [], _, _, _, _ => rfl
 | c :: r, pre, seen, hl, hc => by
  have ih := q_law hd (l := l) (t := t) r (pre ++ [c]) (seen || (dr != 0 && c == dr)) (by rw [hl]; simp) (by simpa using hc)
  have hm := mk1_pt hd seen c
  have e : ((pre ++ [c]).length : Int) = pre.length + 1 := by simp
  have hk : (cntZ pre 86 : Int) ≤ 1 := by
   rw [cnt_app'] at hc
   omega
  have ht : l.take (pre.length : Int).toNat = pre := by
   rw [hl, Int.toNat_natCast, List.append_assoc]
   simp
  rw [cnt_app', e] at ih
  have e1 : (cntZ [c] 86 : Int) = if c = 86 then 1 else 0 := by
   have := cnt_cons c 86 []
   rw [this]
   have : (cntZ [] 86 : Int) = 0 := rfl
   omega
  rw [e1] at ih
  rw [mkGo, qgo, pqGo, ht, ← ih]
  by_cases h : c = 86
  ·have hm2 := hm.2 h
   rw [hm2]
   have : isP 118 = false := rfl
   rw [this, if_pos h]
   show qgo _ _ = 0 + qgo _ _
   rw [Int.zero_add]
  ·have hn : (mk1 dr seen c == 118) = false := by
    cases q : (mk1 dr seen c == 118) with
    | false => rfl
    | true => exact absurd (hm.1 (eq_of_beq q)) h
   rw [hn, cond_false, if_neg h, Int.add_zero, has_cnt hk]
   cases isP (mk1 dr seen c) <;> cases hasZ pre 86 <;> rfl
theorem pq_app (s : List Int) : ∀ (a b : List Int) (i : Int), pqGo s (a ++ b) i = pqGo s a i + pqGo s b (i + a.length)
 | [], b, i => by simp [pqGo]
 | m :: a, b, i => by
  rw [List.cons_append, pqGo, pqGo, pq_app s a b, List.length_cons]
  have : i + 1 + (a.length : Int) = i + ((a.length + 1 : Nat) : Int) := by omega
  rw [this]
  omega
theorem char_any {l : List Int} (h : (bodyZ l).any (hasZ [65, 88, 67, 68]) = false) : charZ l = false := by
 cases hc : charZ l with
 | false => rfl
 | true =>
  exfalso
  simp only [charZ, Bool.and_eq_true, List.all_eq_true, Bool.or_eq_true] at hc
  obtain ⟨h1, h2⟩ := hc
  have hcr : crZ l = false := by
   cases q : crZ l with
   | false => rfl
   | true =>
    exfalso
    simp only [crZ, Bool.and_eq_true, Bool.or_eq_true, decide_eq_true_eq] at q
    rcases q.2 with q | q
    ·have hm : (67 : Int) ∈ l.drop (l.length - 2) := by rw [q]; simp
     exact absurd (h1 _ (List.mem_of_mem_drop hm)) (by decide)
    ·have hm : (68 : Int) ∈ l.drop (l.length - 2) := by rw [q]; simp
     exact absurd (h1 _ (List.mem_of_mem_drop hm)) (by decide)
  have hb : bodyZ l = l := by rw [body_at hcr]; rfl
  rw [hb, List.any_eq_false] at h
  rcases h2 with q | q
  ·exact h 65 (hasZ_iff.1 q) (by decide)
  ·exact h 88 (hasZ_iff.1 q) (by decide)
structure NumL (l : List Int) : Prop where
 drP : DrP (bodyZ l) (drZ (bodyZ l)) (nD (bodyZ l)).2.2
 d : (nD (bodyZ l)).2.1 = drZ (bodyZ l)
 roles : (nR (bodyZ l)).map rmk = mkGo (drZ (bodyZ l)) false (bodyZ l)
 ok : okR (nR (bodyZ l))
 w : (nP (bodyZ l)).2.w + (bif crZ l then 2 else 0) = l.length - cntZ l 86
 dg : (nP (bodyZ l)).2.dg = pdGo (marksZ l)
 q : (nP (bodyZ l)).2.q = pqGo l (marksZ l) 0
 g : nG (bodyZ l) (crZ l) = signsZ l
 fm : (nP (bodyZ l)).2.fm = cntZ (mkGo (drZ (bodyZ l)) false (bodyZ l)) 100
theorem num_law {l : List Int} (hz : ∀ c ∈ bodyZ l, c ≠ 0) : numQ (bodyZ l) (crZ l) = numV l ∧ (numV l = true → NumL l) := by
 cases hA : anyZ (bodyZ l) [65, 88, 67, 68] with
 | true =>
  have hA' : (bodyZ l).any (hasZ [65, 88, 67, 68]) = true := hA
  have e1 : numQ (bodyZ l) (crZ l) = false := by rw [numQ, hA]; rfl
  have e2 : numV l = false := by rw [numV, hA']; cases charZ l <;> rfl
  rw [e1, e2]
  exact ⟨rfl, fun h => by cases h⟩
 | false =>
  have hA' : (bodyZ l).any (hasZ [65, 88, 67, 68]) = false := hA
  have hch := char_any hA'
  obtain ⟨d1, d2⟩ := nD_law (bodyZ l)
  cases hD : driftsZ (bodyZ l) with
  | false =>
   have e1 : numQ (bodyZ l) (crZ l) = false := by rw [numQ, d1, hD]; simp
   have e2 : numV l = false := by rw [numV, hD]; simp
   rw [e1, e2]
   exact ⟨rfl, fun h => by cases h⟩
  | true =>
   obtain ⟨d2, d3⟩ := d2 hD
   have hP : DrP (bodyZ l) (drZ (bodyZ l)) (nD (bodyZ l)).2.2 := by
    refine ⟨hz, ?_⟩
    by_cases h0 : drZ (bodyZ l) = 0
    ·rw [if_pos h0] at d3
     exact .inl ⟨h0, d3⟩
    ·rw [if_neg h0] at d3
     obtain ⟨f1, f2⟩ := (drGo_spec (bodyZ l) (bodyZ l)).resolve_left h0
     exact .inr ⟨h0, f2, d3, (flg_mem f1).1⟩
   have hd : drZ (bodyZ l) = 0 ∨ hasZ [36, 83, 43, 45] (drZ (bodyZ l)) = true := (dr_sign _ _).imp id And.left
   have eR : nR (bodyZ l) = rolesP (drZ (bodyZ l)) (nD (bodyZ l)).2.2 (bodyZ l) 0 := by rw [nR, d2]
   have hroles : (nR (bodyZ l)).map rmk = mkGo (drZ (bodyZ l)) false (bodyZ l) := by
    have := roles_marks hP (bodyZ l) [] rfl
    rw [eR]
    simpa using this
   have hok : okR (nR (bodyZ l)) := by rw [eR]; exact roles_ok _ _ _ _
   obtain ⟨p1, p2⟩ := pl_ld (nR (bodyZ l)) ⟨0, false, 0, 0, 0, 0⟩ hok (by simp only; omega) (by simp only; omega)
   simp only [hroles] at p1 p2
   have z0 : decide ((0 : Int) > 0) = false := rfl
   rw [z0] at p1 p2
   rw [mk_118 hd] at p2
   have p1 : (nP (bodyZ l)).1 = (ldGo (mkGo (drZ (bodyZ l)) false (bodyZ l)) false false false 0).1 := p1
   have eSt : nSt (bodyZ l) = (hasZ (bodyZ l) 90 && hasZ (bodyZ l) 42 || (hasZ (bodyZ l) 90 || hasZ (bodyZ l) 42) && drZ (bodyZ l) != 0) := by
    rw [nSt, d2]
    cases hasZ (bodyZ l) 42 <;> cases hasZ (bodyZ l) 90 <;> rfl
   have eS : nS (bodyZ l) = statsZ (bodyZ l) (mkGo (drZ (bodyZ l)) false (bodyZ l)) := by
    have hin : ∀ x : Int, 0 ≤ x → x ≤ (bodyZ l).length → stIn (drZ (bodyZ l)) x (bodyZ l) (mkGo (drZ (bodyZ l)) false (bodyZ l)) 0 false false =
      (decide (loGo (nD (bodyZ l)).2.2 (nR (bodyZ l)) 0 (bodyZ l).length < x), decide (hiGo (nD (bodyZ l)).2.2 (nR (bodyZ l)) 0 (-1) > x)) := fun x h0 h1 => by
     have := st_in (x := x) hP (bodyZ l) [] (bodyZ l).length (-1) rfl
     rw [decide_eq_false (show ¬ ((bodyZ l).length : Int) < x by omega), decide_eq_false (show ¬ (-1 : Int) > x by omega)] at this
     rw [← hroles, eR]
     exact this
    rw [nS, statsZ]
    have := st_law hP hin (bodyZ l) [] rfl
    rw [eR]
    rw [eR] at this
    exact this
   have eG : nG (bodyZ l) (crZ l) = signsZ l := by
    have hs := si_law hP (bodyZ l) [] rfl
    have one : ∀ x ∈ [36, 83, 43, (45 : Int)], x ≠ drZ (bodyZ l) → (cntZ (bodyZ l) x : Int) ≤ 1 := fun x hx hne => by
     cases hq : decide ((cntZ (bodyZ l) x : Int) < 2) with
     | true => have := of_decide_eq_true hq; omega
     | false =>
      have hf := (flg_iff hx).2 (of_decide_eq_false hq)
      have hm := cnt_mem (flg_mem hf).2
      have h0 : drZ (bodyZ l) ≠ 0 := drGo_ne (bodyZ l) hf (bodyZ l) hm
      have h0' : (drZ (bodyZ l) == 0) = false := by simpa using h0
      rw [driftsZ, h0', Bool.false_or, Bool.and_eq_true, df1_all, List.all_eq_true] at hD
      have := hD.1 x hm
      rw [hf] at this
      simp only [Bool.not_true, Bool.or_false, beq_iff_eq] at this
      exact absurd this hne
    have sx : ∀ x ∈ [36, 83, 43, (45 : Int)], sgX (drZ (bodyZ l)) x [] (bodyZ l) = b2i (hasZ (bodyZ l) x) := fun x hx => by
     unfold sgX
     split
     ·simp
     ·rename_i hne
      exact has_cnt (one x hx hne)
    rw [sx 83 (by simp), sx 43 (by simp), sx 45 (by simp)] at hs
    rw [nG, signsZ, eR]
    have hs' : siGo (bodyZ l) (rolesP (drZ (bodyZ l)) (nD (bodyZ l)).2.2 (bodyZ l) 0) = _ := hs
    rw [hs']
    cases crZ l <;> simp [b2i] <;> omega
   have eQ : numQ (bodyZ l) (crZ l) = numV l := by
    rw [numQ, numV, hA, hA', hch, d1, hD, eG, eS, eSt, marks_body hA', leadsZ, nPok, p1]
    cases hl : (ldGo (mkGo (drZ (bodyZ l)) false (bodyZ l)) false false false 0).1 with
    | false => cases hasZ (bodyZ l) 90 <;> cases hasZ (bodyZ l) 42 <;> cases drZ (bodyZ l) != 0 <;> simp
    | true =>
     obtain ⟨g1, g2, g3, g4, g5, g6, g7⟩ := p2 (p1.trans hl)
     have g1 : (nP (bodyZ l)).2.dg = _ := g1
     have g2 : (nP (bodyZ l)).2.bh = _ := g2
     have g3 : decide ((nP (bodyZ l)).2.fm > 0) = _ := g3
     have g4 : (nP (bodyZ l)).2.pts = _ := g4
     rw [g1, g2, g3, g4]
     simp only [Int.zero_add]
     generalize (ldGo (mkGo (drZ (bodyZ l)) false (bodyZ l)) false false false 0).2.2.2 = dg
     generalize (ldGo (mkGo (drZ (bodyZ l)) false (bodyZ l)) false false false 0).2.2.1 = bh
     generalize (ldGo (mkGo (drZ (bodyZ l)) false (bodyZ l)) false false false 0).2.1 = fm
     cases hasZ (bodyZ l) 90 <;> cases hasZ (bodyZ l) 42 <;> cases drZ (bodyZ l) != 0 <;> cases decide ((cntZ (bodyZ l) 86 : Int) ≤ 1) <;> cases decide (dg ≥ 1) <;> cases decide (dg ≤ 9) <;> cases bh <;> cases fm <;> cases decide (signsZ l ≤ 1) <;> cases statsZ (bodyZ l) (mkGo (drZ (bodyZ l)) false (bodyZ l)) <;> rfl
   refine ⟨eQ, fun hV => ?_⟩
   have hN := numV_iff.1 hV
   have hl : (ldGo (mkGo (drZ (bodyZ l)) false (bodyZ l)) false false false 0).1 = true := by
    have := hN.ld
    unfold leadsZ at this
    cases h1 : (hasZ (bodyZ l) 90 && hasZ (bodyZ l) 42) with
    | true => rw [h1] at this; cases this
    | false =>
     rw [h1, cond_false] at this
     cases h2 : ((hasZ (bodyZ l) 90 || hasZ (bodyZ l) 42) && drZ (bodyZ l) != 0) with
     | true => rw [h2] at this; cases this
     | false =>
      rw [h2, cond_false] at this
      simp only [Bool.and_eq_true] at this
      exact this.1
   obtain ⟨g1, g2, g3, g4, g5, g6, g7⟩ := p2 (p1.trans hl)
   simp only [Int.zero_add] at g5 g6 g7
   have eM : marksZ l = mkGo (drZ (bodyZ l)) false (bodyZ l) ++ (if crZ l = true then [115, 115] else []) := rfl
   refine ⟨hP, d2, hroles, hok, ?_, ?_, ?_, eG, g7⟩
   ·have := marks_nv l
    rw [eM, nv_app] at this
    have h5 : (nP (bodyZ l)).2.w = _ := g5
    rw [h5]
    cases hc : crZ l with
    | false => rw [hc] at this; have e0 : nv (if (false : Bool) = true then [115, 115] else []) = 0 := rfl; rw [e0] at this; simp only [cond_false]; omega
    | true => rw [hc] at this; have e0 : nv (if (true : Bool) = true then [115, 115] else []) = 2 := rfl; rw [e0] at this; simp only [cond_true]; omega
   ·have h1 : (nP (bodyZ l)).2.dg = _ := g1
    rw [h1, ld_cnt _ _ _ _ _ hl, eM, pd_app]
    cases crZ l <;> simp [pdGo, isP]
   ·have h6 : (nP (bodyZ l)).2.q = _ := g6
    rw [h6, eM, pq_app]
    obtain ⟨t, h, ht⟩ := body_app l
    have := q_law hd (l := l) (t := t) (bodyZ l) [] false (by simpa using h) (by simpa using hN.one)
    have e0 : ((cntZ [] 86 : Nat) : Int) = 0 := rfl
    rw [e0] at this
    have e1 : (([] : List Int).length : Int) = 0 := rfl
    rw [e1] at this
    rw [this]
    cases crZ l with
    | false => simp [pqGo]
    | true => simp [pqGo, isP]
end Go.Px
end
