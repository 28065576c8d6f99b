/-
  The run and the laws that serve these rows (part 2)
-/
import Derived.Test.YtpflidodnhbeoaaGreatDoorD1
set_option linter.unusedVariables false
set_option linter.unusedSimpArgs false
section
namespace Go.Px
open Go Go.Ab Go.Proofs
def G2 : Env := (((((G1.add 270 (sp1 s77)).add 259 (sp1 s58)).add 262 (sp2 s85)).add 260 (sp3 s97)).add 150 (sp2 s72))
theorem ok_G2 : EnvOK Tryz.prog G2 := env_add (env_add (env_add (env_add (env_add (ok_G1) ok77) ok58) ok85) ok97) ok72
def drGo (s : List Int) : List Int → Int
 | [] => 0
 | c :: r => if hasZ [36, 83, 43, 45] c = true ∧ 2 ≤ cntZ s c then c else drGo s r
def drZ (s : List Int) : Int := drGo s s
def charZ (s : List Int) : Bool := s.all (fun c => hasZ [65, 88, 57] c) && (hasZ s 65 || hasZ s 88)
def crZ (s : List Int) : Bool := decide (2 ≤ s.length) && (decide (s.drop (s.length - 2) = [67, 82]) || decide (s.drop (s.length - 2) = [68, 66]))
theorem has_dr {c : Int} : hasZ [36, 83, 43, 45] c = true ↔ c = 36 ∨ c = 83 ∨ c = 43 ∨ c = 45 := by simp [hasZ_iff]
theorem drop0 (l : List Int) : List.drop (Int.toNat 0) l = l := rfl
def V96_0 : ByteArray × Int × Int → List Value := fun (s, b, i) => [S s, C8 b, I i]
def B96_0 : ByteArray × Int × Int → List (Option Blk) := fun _ => []
def S96_0 : LSpec (ByteArray × Int × Int) where
 live := [0, 2, 3]
 mid := []
 n := 60
 dec vs bs := match vs, bs with | [.string s, .int .u8 b, .int .i64 i], [] => some (s, b, i) | _, _ => none
 pre := fun (s, b, i) => decide (0 ≤ i ∧ i ≤ s.size ∧ s.size ≤ 9223372036854775807)
 fin := fun (s, b, i) Z => (bif drGo (bz s) ((bz s).drop i.toNat) == 0 then Z (.exit 0) [S s, C8 b, I s.size] [] else (∀ i', Z .ret [S s, C8 (drGo (bz s) ((bz s).drop i.toNat)), I i'] []))
theorem r96_0 (s : ByteArray) (b : Int) (i : Int) (jk : Tmps) (R : Exit → List Value → List (Option Blk) → Prop) : (codeQ Tryz.prog G2 noL Tryz.f242.ntmps (loopOf Tryz.f242 0) (tl S96_0.live (V96_0 (s, b, i)) jk) (ml S96_0.mid (B96_0 (s, b, i))) S96_0.n fun e t' m' _ => R e (List.map t' S96_0.live) (List.map m' S96_0.mid)) = ( bif decide (i < (↑(ByteArray.size s) : Int)) then bif decide (0 ≤ i ∧ i < (↑(ByteArray.size s) : Int)) && bif hasZ (bz (ByteArray.mk #[36, 83, 43, 45])) (byteAt s (Int.toNat i)) then decide (0 ≤ i ∧ i < (↑(ByteArray.size s) : Int)) && (decide (ByteArray.size s ≤ 9223372036854775807) && true) else true then bif hasZ (bz (ByteArray.mk #[36, 83, 43, 45])) (byteAt s (Int.toNat i)) && decide ((↑(cntZ (bz s) (byteAt s (Int.toNat i))) : Int) ≥ 2) then bif decide (0 ≤ i ∧ i < (↑(ByteArray.size s) : Int)) then R Exit.ret [S s, .int .u8 (byteAt s (Int.toNat i)), I i] [] else False else R Exit.normal [S s, .int .u8 b, I (IntKind.wrap .i64 (i + 1))] [] else False else R (Exit.exit 0) [S s, .int .u8 b, I i] []) := by kernel_rfl
theorem l96_0 : LOKf Tryz.prog (oneL 0 S96_0.h) Tryz.f242 := by
 refine lokf_one (h := S96_0.h) (by kernel_rfl) (loop_specQ ok_G2 hmix (by kernel_rfl) (lok_none _) S96_0 V96_0 B96_0 (fun (s, b, i) => (s.size - i).toNat) ?_ ?_ ?_)
 ·intro vs bs s h
  simp only [S96_0] at h
  split at h
  all_goals first | (cases h; exact ⟨rfl, rfl⟩) | cases h
 ·exact fun _ _ _ h => h
 ·intro ⟨s, b, i⟩ jk Z hp hf
  rw [r96_0]
  simp only [S96_0] at hp hf
  simp only [decide_eq_true_eq] at hp
  refine cond_intro (fun h => ?_) (fun h => ?_)
  ·have h := of_decide_eq_true h
   rw [bz_at hp.1 h] at hf
   have h1 : decide (0 ≤ i ∧ i < (s.size : Int)) = true := decide_eq_true (by omega)
   have h2 : decide (s.size ≤ 9223372036854775807) = true := decide_eq_true (by omega)
   have k : bz ⟨#[36, 83, 43, 45]⟩ = [36, 83, 43, 45] := rfl
   rw [k]
   refine c_t (by rw [h1, h2]; cases hasZ [36, 83, 43, 45] (byteAt s i.toNat) <;> rfl) ?_
   rw [drGo] at hf
   refine cond_intro (fun hd => c_t h1 ?_) (fun hd => ?_)
   ·simp only [Bool.and_eq_true, decide_eq_true_eq] at hd
    have hne : (byteAt s i.toNat == 0) = false := by
     have := has_dr.1 hd.1
     simp only [beq_eq_false_iff_ne]
     omega
    rw [if_pos ⟨hd.1, by omega⟩, hne] at hf
    exact hf i
   ·have hd' : ¬ (hasZ [36, 83, 43, 45] (byteAt s i.toNat) = true ∧ 2 ≤ cntZ (bz s) (byteAt s i.toNat)) := by
     rintro ⟨q1, q2⟩
     rw [q1, Bool.true_and, decide_eq_false_iff_not] at hd
     omega
    rw [if_neg hd'] at hf
    rw [w64 (by omega)]
    exact ⟨(s, b, i + 1), rfl, rfl, by simp only [S96_0, decide_eq_true_eq]; omega, by simp only; omega, hf⟩
  ·have h := of_decide_eq_false h
   rw [bz_end (by omega)] at hf
   obtain rfl : i = s.size := by omega
   exact hf
def s96 (s : ByteArray) : Bool × Value := (decide (s.size ≤ 9223372036854775807), .int .u8 (drZ (bz s)))
theorem fn96 : Fn1 Tryz.prog 242 Tryz.f242 := ⟨Tryz.func242, by kernel_rfl, by kernel_rfl, by kernel_rfl⟩
theorem v96 (s : ByteArray) (R : Value → Prop) : bodyQ Tryz.prog G2 (oneL 0 S96_0.h) Tryz.f242 [Enc.enc s] (fun _ => none) 0 (fun v _ _ => R v) = ( bif LSpec.pre S96_0 (s, 0, 0) then bif drGo (bz s) (List.drop (Int.toNat 0) (bz s)) == 0 then ∀ (x : Tmps), R (.int .u8 0) else ∀ (i' : Int) (x : Tmps), R (.int .u8 (drGo (bz s) (List.drop (Int.toNat 0) (bz s)))) else False) := by kernel_rfl
theorem ok96 : PureOK Tryz.prog 242 (sp1 s96) := by
 refine qure1 ok_G2 hmix fn96 l96_0 (Nat.le_of_ble_eq_true (by kernel_rfl)) fun s hc => ?_
 rw [DoesQ, v96]
 have hc : (s.size ≤ 9223372036854775807) := of_decide_eq_true hc
 dsimp only [s96]
 refine c_t (by simp only [S96_0, decide_eq_true_eq]; omega) ?_
 rw [drop0]
 refine cond_intro (fun h _ => ?_) (fun h _ _ => rfl)
 rw [drZ, eq_of_beq h]
def V73_0 : ByteArray × Bool × Int → List Value := fun (s, b, i) => [S s, B b, I i]
def B73_0 : ByteArray × Bool × Int → List (Option Blk) := fun _ => []
def S73_0 : LSpec (ByteArray × Bool × Int) where
 live := [0, 2, 3]
 mid := []
 n := 60
 dec vs bs := match vs, bs with | [.string s, .bool b, .int .i64 i], [] => some (s, b, i) | _, _ => none
 pre := fun (s, b, i) => decide (0 ≤ i ∧ i ≤ s.size ∧ s.size ≤ 9223372036854775807)
 fin := fun (s, b, i) Z => (bif ((bz s).drop i.toNat).all (fun c => hasZ [65, 88, 57] c) then Z (.exit 0) [S s, B b, I s.size] [] else (∀ i', Z .ret [S s, B false, I i'] []))
theorem r73_0 (s : ByteArray) (b : Bool) (i : Int) (jk : Tmps) (R : Exit → List Value → List (Option Blk) → Prop) : (codeQ Tryz.prog G2 noL Tryz.f197.ntmps (loopOf Tryz.f197 0) (tl S73_0.live (V73_0 (s, b, i)) jk) (ml S73_0.mid (B73_0 (s, b, i))) S73_0.n fun e t' m' _ => R e (List.map t' S73_0.live) (List.map m' S73_0.mid)) = ( bif decide (i < (↑(ByteArray.size s) : Int)) then bif decide (0 ≤ i ∧ i < (↑(ByteArray.size s) : Int)) then bif !hasZ (bz (ByteArray.mk #[65, 88, 57])) (byteAt s (Int.toNat i)) then R Exit.ret [S s, B false, I i] [] else R Exit.normal [S s, B b, I (IntKind.wrap .i64 (i + 1))] [] else False else R (Exit.exit 0) [S s, B b, I i] []) := by kernel_rfl
theorem l73_0 : LOKf Tryz.prog (oneL 0 S73_0.h) Tryz.f197 := by
 refine lokf_one (h := S73_0.h) (by kernel_rfl) (loop_specQ ok_G2 hmix (by kernel_rfl) (lok_none _) S73_0 V73_0 B73_0 (fun (s, b, i) => (s.size - i).toNat) ?_ ?_ ?_)
 ·intro vs bs s h
  simp only [S73_0] at h
  split at h
  all_goals first | (cases h; exact ⟨rfl, rfl⟩) | cases h
 ·exact fun _ _ _ h => h
 ·intro ⟨s, b, i⟩ jk Z hp hf
  rw [r73_0]
  simp only [S73_0] at hp hf
  simp only [decide_eq_true_eq] at hp
  refine cond_intro (fun h => ?_) (fun h => ?_)
  ·have h := of_decide_eq_true h
   rw [bz_at hp.1 h, List.all_cons] at hf
   have k : bz ⟨#[65, 88, 57]⟩ = [65, 88, 57] := rfl
   rw [k]
   refine c_t (decide_eq_true (by omega)) ?_
   refine cond_intro (fun hd => ?_) (fun hd => ?_)
   ·simp only [Bool.not_eq_true'] at hd
    rw [hd] at hf
    exact hf i
   ·simp only [Bool.not_eq_false'] at hd
    rw [hd, Bool.true_and] at hf
    rw [w64 (by omega)]
    exact ⟨(s, b, i + 1), rfl, rfl, by simp only [S73_0, decide_eq_true_eq]; omega, by simp only; omega, hf⟩
  ·have h := of_decide_eq_false h
   rw [bz_end (by omega)] at hf
   obtain rfl : i = s.size := by omega
   exact hf
def s73 (s : ByteArray) : Bool × Value := (decide (s.size ≤ 9223372036854775807), .bool (charZ (bz s)))
theorem fn73 : Fn1 Tryz.prog 197 Tryz.f197 := ⟨Tryz.func197, by kernel_rfl, by kernel_rfl, by kernel_rfl⟩
theorem v73 (s : ByteArray) (R : Value → Prop) : bodyQ Tryz.prog G2 (oneL 0 S73_0.h) Tryz.f197 [Enc.enc s] (fun _ => none) 0 (fun v _ _ => R v) = ( bif LSpec.pre S73_0 (s, false, 0) then bif List.all (List.drop (Int.toNat 0) (bz s)) fun c => hasZ [65, 88, 57] c then ∀ (x : Tmps), bif decide (ByteArray.size s ≤ 9223372036854775807) && (hasZ (bz s) 65 || decide (ByteArray.size s ≤ 9223372036854775807) && true) then R (B (hasZ (bz s) 65 || hasZ (bz s) 88)) else False else ∀ (i' : Int) (x : Tmps), R (B false) else False) := by kernel_rfl
theorem ok73 : PureOK Tryz.prog 197 (sp1 s73) := by
 refine qure1 ok_G2 hmix fn73 l73_0 (Nat.le_of_ble_eq_true (by kernel_rfl)) fun s hc => ?_
 rw [DoesQ, v73]
 have hc : (s.size ≤ 9223372036854775807) := of_decide_eq_true hc
 dsimp only [s73]
 refine c_t (by simp only [S73_0, decide_eq_true_eq]; omega) ?_
 rw [drop0]
 refine cond_intro (fun h _ => c_t (by rw [decide_eq_true hc]; cases hasZ (bz s) 65 <;> rfl) ?_) (fun h _ _ => ?_)
 ·simp only [charZ, h, Bool.true_and]
 ·simp only [charZ, h, Bool.false_and]
def s101 (s : ByteArray) : Bool × Value := (decide (s.size ≤ 9223372036854775807), .bool (crZ (bz s)))
theorem fn101 : Fn1 Tryz.prog 238 Tryz.f238 := ⟨Tryz.func238, by kernel_rfl, by kernel_rfl, by kernel_rfl⟩
theorem v101 (s : ByteArray) (R : Value → Prop) : bodyQ Tryz.prog G2 noL Tryz.f238 [Enc.enc s] (fun _ => none) 0 (fun v _ _ => R v) = ( bif bif decide ((↑(ByteArray.size s) : Int) ≥ 2) then decide (0 ≤ IntKind.wrap .i64 ((↑(ByteArray.size s) : Int) - 2) ∧ IntKind.wrap .i64 ((↑(ByteArray.size s) : Int) - 2) ≤ (↑(ByteArray.size s) : Int) ∧ (↑(ByteArray.size s) : Int) ≤ (↑(ByteArray.size s) : Int)) && (ByteArray.toList (ByteArray.extract s (Int.toNat (IntKind.wrap .i64 ((↑(ByteArray.size s) : Int) - 2))) (ByteArray.size s)) == ByteArray.toList (ByteArray.mk #[67, 82]) || decide (0 ≤ IntKind.wrap .i64 ((↑(ByteArray.size s) : Int) - 2) ∧ IntKind.wrap .i64 ((↑(ByteArray.size s) : Int) - 2) ≤ (↑(ByteArray.size s) : Int) ∧ (↑(ByteArray.size s) : Int) ≤ (↑(ByteArray.size s) : Int)) && true) else true then R (B (decide ((↑(ByteArray.size s) : Int) ≥ 2) && (ByteArray.toList (ByteArray.extract s (Int.toNat (IntKind.wrap .i64 ((↑(ByteArray.size s) : Int) - 2))) (ByteArray.size s)) == ByteArray.toList (ByteArray.mk #[67, 82]) || ByteArray.toList (ByteArray.extract s (Int.toNat (IntKind.wrap .i64 ((↑(ByteArray.size s) : Int) - 2))) (ByteArray.size s)) == ByteArray.toList (ByteArray.mk #[68, 66])))) else False) := by kernel_rfl
theorem ok101 : PureOK Tryz.prog 238 (sp1 s101) := by
 refine qure1 ok_G2 hmix fn101 lokf_none (Nat.le_of_ble_eq_true (by kernel_rfl)) fun s hc => ?_
 rw [DoesQ, v101]
 have hc : (s.size ≤ 9223372036854775807) := of_decide_eq_true hc
 dsimp only [s101]
 have e : ((s.size : Int) - 2).toNat = s.size - 2 := by omega
 have ex : bz (s.extract (s.size - 2) s.size) = (bz s).drop (s.size - 2) := by rw [bz_extract, List.take_of_length_le (by rw [bz_length]; omega)]
 have k1 : bz ⟨#[67, 82]⟩ = [67, 82] := rfl
 have k2 : bz ⟨#[68, 66]⟩ = [68, 66] := rfl
 rw [w64 (by omega), e, toList_beq, toList_beq, ex, k1, k2]
 by_cases h2 : 2 ≤ s.size
 ·have d1 : decide ((s.size : Int) ≥ 2) = true := decide_eq_true (by omega)
  have d2 : decide (0 ≤ (s.size : Int) - 2 ∧ (s.size : Int) - 2 ≤ s.size ∧ (s.size : Int) ≤ s.size) = true := decide_eq_true (by omega)
  rw [d1, d2]
  refine c_t (by simp) ?_
  simp [crZ, h2]
 ·have d1 : decide ((s.size : Int) ≥ 2) = false := decide_eq_false (by omega)
  rw [d1]
  refine c_t rfl ?_
  simp [crZ, h2]
def cdGo : List Int → Int → Int → Bool × Int × Int
 | [], n, i => (true, n, i)
 | c :: r, n, i => if isDig c = true then (if 1 ≤ n * 10 + (c - 48) ∧ n * 10 + (c - 48) ≤ 32 then cdGo r (n * 10 + (c - 48)) (i + 1) else (false, 0, 0)) else (true, n, i)
def ctP (l : List Int) (i : Int) : Prop := (cdGo (l.drop i.toNat) 0 i).1 = true ∧ 1 ≤ (cdGo (l.drop i.toNat) 0 i).2.1 ∧ (cdGo (l.drop i.toNat) 0 i).2.2 < l.length ∧ l.getD (cdGo (l.drop i.toNat) 0 i).2.2.toNat 0 = 41
instance (l : List Int) (i : Int) : Decidable (ctP l i) := by unfold ctP; infer_instance
def ctZ (l : List Int) (i : Int) : Int × Int := if ctP l i then ((cdGo (l.drop i.toNat) 0 i).2.1, (cdGo (l.drop i.toNat) 0 i).2.2 + 1) else (0, 0)
theorem cdGo_rng : ∀ (l : List Int) (n i : Int), 0 ≤ n ∧ n ≤ 32 → (cdGo l n i).1 = true → 0 ≤ (cdGo l n i).2.1 ∧ (cdGo l n i).2.1 ≤ 32 ∧ i ≤ (cdGo l n i).2.2 ∧ (cdGo l n i).2.2 ≤ i + l.length
 | [], n, i, h, _ => by simp only [cdGo, List.length_nil]; omega
 | c :: r, n, i, h, hok => by
  simp only [cdGo] at hok ⊢
  split
  ·rename_i hd
   rw [if_pos hd] at hok
   split
   ·rename_i hq
    rw [if_pos hq] at hok
    have := cdGo_rng r _ _ (by omega) hok
    simp only [List.length_cons]
    omega
   ·rename_i hq
    rw [if_neg hq] at hok
    cases hok
  ·simp only [List.length_cons]; omega
def V81_0 : ByteArray × Int × Int × Int × Int → List Value := fun (s, r1, r2, n, i) => [S s, I r1, I r2, I n, I i]
def B81_0 : ByteArray × Int × Int × Int × Int → List (Option Blk) := fun _ => []
def S81_0 : LSpec (ByteArray × Int × Int × Int × Int) where
 live := [0, 4, 5, 6, 7]
 mid := []
 n := 80
 dec vs bs := match vs, bs with | [.string s, .int .i64 r1, .int .i64 r2, .int .i64 n, .int .i64 i], [] => some (s, r1, r2, n, i) | _, _ => none
 pre := fun (s, r1, r2, n, i) => decide (0 ≤ i ∧ i ≤ s.size ∧ s.size ≤ 9223372036854775807 ∧ 0 ≤ n ∧ n ≤ 32)
 fin := fun (s, r1, r2, n, i) Z => (bif (cdGo ((bz s).drop i.toNat) n i).1 then Z (.exit 0) [S s, I r1, I r2, I (cdGo ((bz s).drop i.toNat) n i).2.1, I (cdGo ((bz s).drop i.toNat) n i).2.2] [] else (∀ n' i', Z .ret [S s, I 0, I 0, I n', I i'] []))
theorem r81_0 (s : ByteArray) (r1 : Int) (r2 : Int) (n : Int) (i : Int) (jk : Tmps) (R : Exit → List Value → List (Option Blk) → Prop) : (codeQ Tryz.prog G2 noL Tryz.f237.ntmps (loopOf Tryz.f237 0) (tl S81_0.live (V81_0 (s, r1, r2, n, i)) jk) (ml S81_0.mid (B81_0 (s, r1, r2, n, i))) S81_0.n fun e t' m' _ => R e (List.map t' S81_0.live) (List.map m' S81_0.mid)) = ( bif bif decide (i < (↑(ByteArray.size s) : Int)) then decide (0 ≤ i ∧ i < (↑(ByteArray.size s) : Int)) && bif decide (byteAt s (Int.toNat i) ≥ 48) then decide (0 ≤ i ∧ i < (↑(ByteArray.size s) : Int)) && true else true else true then bif decide (i < (↑(ByteArray.size s) : Int)) && (decide (byteAt s (Int.toNat i) ≥ 48) && decide (byteAt s (Int.toNat i) ≤ 57)) then bif decide (0 ≤ i ∧ i < (↑(ByteArray.size s) : Int)) then bif decide (IntKind.wrap .i64 (IntKind.wrap .i64 (n * 10) + IntKind.wrap .i64 (IntKind.wrap .u8 (byteAt s (Int.toNat i) - 48))) < 1) || true then bif decide (IntKind.wrap .i64 (IntKind.wrap .i64 (n * 10) + IntKind.wrap .i64 (IntKind.wrap .u8 (byteAt s (Int.toNat i) - 48))) < 1) || decide (IntKind.wrap .i64 (IntKind.wrap .i64 (n * 10) + IntKind.wrap .i64 (IntKind.wrap .u8 (byteAt s (Int.toNat i) - 48))) > 32) then R Exit.ret [S s, I 0, I 0, I (IntKind.wrap .i64 (IntKind.wrap .i64 (n * 10) + IntKind.wrap .i64 (IntKind.wrap .u8 (byteAt s (Int.toNat i) - 48)))), I i] [] else R Exit.normal [S s, I r1, I r2, I (IntKind.wrap .i64 (IntKind.wrap .i64 (n * 10) + IntKind.wrap .i64 (IntKind.wrap .u8 (byteAt s (Int.toNat i) - 48)))), I (IntKind.wrap .i64 (i + 1))] [] else False else False else R (Exit.exit 0) [S s, I r1, I r2, I n, I i] [] else False) := by kernel_rfl
theorem l81_0 : LOKf Tryz.prog (oneL 0 S81_0.h) Tryz.f237 := by
 refine lokf_one (h := S81_0.h) (by kernel_rfl) (loop_specQ ok_G2 hmix (by kernel_rfl) (lok_none _) S81_0 V81_0 B81_0 (fun (s, r1, r2, n, i) => (s.size - i).toNat) ?_ ?_ ?_)
 ·intro vs bs s h
  simp only [S81_0] at h
  split at h
  all_goals first | (cases h; exact ⟨rfl, rfl⟩) | cases h
 ·exact fun _ _ _ h => h
 ·intro ⟨s, r1, r2, n, i⟩ jk Z hp hf
  rw [r81_0]
  simp only [S81_0] at hp hf
  simp only [decide_eq_true_eq] at hp
  have h1 : i < (s.size : Int) → decide (0 ≤ i ∧ i < (s.size : Int)) = true := fun h => decide_eq_true (by omega)
  refine c_t ?_ ?_
  ·by_cases hi : i < (s.size : Int)
   ·rw [decide_eq_true hi, h1 hi]
    cases decide (byteAt s i.toNat ≥ 48) <;> rfl
   ·rw [decide_eq_false hi]
    rfl
  refine cond_intro (fun h => ?_) (fun h => ?_)
  ·simp only [Bool.and_eq_true, decide_eq_true_eq] at h
   obtain ⟨hi, hd1, hd2⟩ := h
   rw [bz_at hp.1 hi] at hf
   refine c_t (h1 hi) (c_t (by simp) ?_)
   have hdig : isDig (byteAt s i.toNat) = true := decide_eq_true (by omega)
   rw [cdGo, if_pos hdig] at hf
   rw [w8 (n := byteAt s i.toNat - 48) (by omega), w64 (n := byteAt s i.toNat - 48) (by omega), w64 (n := n * 10) (by omega), w64 (n := n * 10 + (byteAt s i.toNat - 48)) (by omega)]
   refine cond_intro (fun hd => ?_) (fun hd => ?_)
   ·simp only [Bool.or_eq_true, decide_eq_true_eq] at hd
    rw [if_neg (by omega)] at hf
    exact hf _ i
   ·simp only [Bool.or_eq_false_iff, decide_eq_false_iff_not] at hd
    rw [if_pos (by omega)] at hf
    rw [w64 (by omega)]
    exact ⟨(s, r1, r2, _, i + 1), rfl, rfl, by simp only [S81_0, decide_eq_true_eq]; omega, by simp only; omega, hf⟩
  ·by_cases hi : i < (s.size : Int)
   ·rw [decide_eq_true hi, Bool.true_and] at h
    have hdig : ¬ isDig (byteAt s i.toNat) = true := by
     intro hq
     have := of_decide_eq_true hq
     rw [decide_eq_true (by omega), decide_eq_true (by omega)] at h
     cases h
    rw [bz_at hp.1 hi, cdGo, if_neg hdig] at hf
    exact hf
   ·rw [bz_end (by omega)] at hf
    exact hf
def s81 (s : ByteArray) (i : Int) : Bool × Value := (decide (0 ≤ i ∧ i ≤ s.size ∧ s.size ≤ 9223372036854775807), .tuple ⟨[.int .i64 (ctZ (bz s) i).1, .int .i64 (ctZ (bz s) i).2]⟩)
theorem fn81 : Fn1 Tryz.prog 237 Tryz.f237 := ⟨Tryz.func237, by kernel_rfl, by kernel_rfl, by kernel_rfl⟩
theorem v81 (s : ByteArray) (i : Int) (R : Value → Prop) : bodyQ Tryz.prog G2 (oneL 0 S81_0.h) Tryz.f237 [Enc.enc s, Enc.enc i] (fun _ => none) 0 (fun v _ _ => R v) = ( bif LSpec.pre S81_0 (s, 0, 0, 0, i) then bif Prod.fst (cdGo (List.drop (Int.toNat i) (bz s)) 0 i) then ∀ (x : Tmps), bif decide (Prod.fst (Prod.snd (cdGo (List.drop (Int.toNat i) (bz s)) 0 i)) < 1) || (decide (Prod.snd (Prod.snd (cdGo (List.drop (Int.toNat i) (bz s)) 0 i)) ≥ (↑(ByteArray.size s) : Int)) || decide (0 ≤ Prod.snd (Prod.snd (cdGo (List.drop (Int.toNat i) (bz s)) 0 i)) ∧ Prod.snd (Prod.snd (cdGo (List.drop (Int.toNat i) (bz s)) 0 i)) < (↑(ByteArray.size s) : Int)) && true) then bif decide (Prod.fst (Prod.snd (cdGo (List.drop (Int.toNat i) (bz s)) 0 i)) < 1) || (decide (Prod.snd (Prod.snd (cdGo (List.drop (Int.toNat i) (bz s)) 0 i)) ≥ (↑(ByteArray.size s) : Int)) || byteAt s (Int.toNat (Prod.snd (Prod.snd (cdGo (List.drop (Int.toNat i) (bz s)) 0 i)))) != 41) then R (.tuple (.mk [I 0, I 0])) else R (.tuple (.mk [I (Prod.fst (Prod.snd (cdGo (List.drop (Int.toNat i) (bz s)) 0 i))), I (IntKind.wrap .i64 (Prod.snd (Prod.snd (cdGo (List.drop (Int.toNat i) (bz s)) 0 i)) + 1))])) else False else ∀ (n' i' : Int) (x : Tmps), R (.tuple (.mk [I 0, I 0])) else False) := by kernel_rfl
theorem ok81 : PureOK Tryz.prog 237 (sp2 s81) := by
 refine qure2 ok_G2 hmix fn81 l81_0 (Nat.le_of_ble_eq_true (by kernel_rfl)) fun s i hc => ?_
 rw [DoesQ, v81]
 have hc : (0 ≤ i ∧ i ≤ s.size ∧ s.size ≤ 9223372036854775807) := of_decide_eq_true hc
 dsimp only [s81]
 refine c_t (by simp only [S81_0, decide_eq_true_eq]; omega) ?_
 refine cond_intro (fun h _ => ?_) (fun h _ _ _ => ?_)
 ·have hr := cdGo_rng ((bz s).drop i.toNat) 0 i (by omega) h
  rw [List.length_drop, bz_length] at hr
  have hP : ctP (bz s) i ↔ 1 ≤ (cdGo ((bz s).drop i.toNat) 0 i).2.1 ∧ (cdGo ((bz s).drop i.toNat) 0 i).2.2 < s.size ∧ byteAt s (cdGo ((bz s).drop i.toNat) 0 i).2.2.toNat = 41 := by
   simp only [ctP, h, true_and, bz_length, byteAt_eq]
  have hz : ctZ (bz s) i = if ctP (bz s) i then ((cdGo ((bz s).drop i.toNat) 0 i).2.1, (cdGo ((bz s).drop i.toNat) 0 i).2.2 + 1) else (0, 0) := rfl
  rw [hz]
  generalize cdGo ((bz s).drop i.toNat) 0 i = q at *
  refine c_t ?_ (cond_intro (fun hd => ?_) (fun hd => ?_))
  ·by_cases h1 : q.2.2 < s.size
   ·rw [decide_eq_true (p := 0 ≤ q.2.2 ∧ q.2.2 < (s.size : Int)) (by omega)]
    simp
   ·rw [decide_eq_true (p := q.2.2 ≥ (s.size : Int)) (by omega)]
    simp
  ·have hn : ¬ ctP (bz s) i := by
    rw [hP]
    simp only [Bool.or_eq_true, decide_eq_true_eq, bne_iff_ne, ne_eq] at hd
    omega
   rw [if_neg hn]
  ·have hn : ctP (bz s) i := by
    rw [hP]
    simp only [Bool.or_eq_false_iff, decide_eq_false_iff_not, bne_eq_false_iff_eq] at hd
    omega
   have := hP.1 hn
   rw [if_pos hn, w64 (by omega)]
 ·have hn : ¬ ctP (bz s) i := fun hq => by rw [hq.1] at h; cases h
  rw [ctZ, if_neg hn]
def kL : List Int := [57, 86, 90, 42, 89, 84, 73, 82, 83, 43, 45, 36, 44, 46, 47, 66, 67, 68, 65, 88]
def xpGo : List Int → Int → Int → List Int → List Int × Bool
 | [], st, _, out => (out, decide (st = 0))
 | c :: r, st, n, out =>
  if st = 1 then
   (if c = 41 then (if 0 < n then xpGo r 2 n out else ([], false))
   else if isDig c = true ∧ ¬ (n = 0 ∧ c = 48) ∧ 10 * n + (c - 48) ≤ 32 then xpGo r 1 (10 * n + (c - 48)) out else ([], false))
  else if c = 41 ∨ st = 2 ∧ c = 40 then ([], false)
  else if c = 40 then xpGo r 1 0 out
  else if hasZ kL (upZ c) = true ∧ (out.length : Int) + (if st = 2 then n else 1) ≤ 32 then xpGo r 0 0 (out ++ rep1 (upZ c) (if st = 2 then n else 1).toNat) else ([], false)
theorem xp_put {c : Int} {r : List Int} {st n : Int} {out : List Int} (hs : st = 2 ∨ st = 0 ∧ c ≠ 40) :
  xpGo (c :: r) st n out = if hasZ kL (upZ c) = true ∧ (out.length : Int) + (if st = 2 then n else 1) ≤ 32 then xpGo r 0 0 (out ++ rep1 (upZ c) (if st = 2 then n else 1).toNat) else ([], false) := by
 rw [xpGo, if_neg (by omega)]
 by_cases h1 : c = 41
 ·subst h1
  rw [if_pos (.inl rfl), if_neg (by intro h; exact absurd h.1 (by decide))]
 ·by_cases h2 : c = 40
  ·subst h2
   have : st = 2 := by omega
   subst this
   rw [if_pos (.inr ⟨rfl, rfl⟩), if_neg (by intro h; exact absurd h.1 (by decide))]
  ·rw [if_neg (by omega), if_neg h2]
theorem xp_num : ∀ (l : List Int) (n i : Int) (out : List Int), 0 ≤ n ∧ n ≤ 32 →
  if (cdGo l n i).1 = true ∧ 1 ≤ (cdGo l n i).2.1 ∧ (l.drop ((cdGo l n i).2.2 - i).toNat).head? = some 41 then xpGo l 1 n out = xpGo (l.drop ((cdGo l n i).2.2 - i + 1).toNat) 2 (cdGo l n i).2.1 out
  else (xpGo l 1 n out).2 = false
 | [], n, i, out, _ => by
  rw [if_neg (by simp [cdGo])]
  rfl
 | c :: r, n, i, out, h => by
  by_cases hd : isDig c = true
  ·have hd' := of_decide_eq_true hd
   by_cases hq : 1 ≤ n * 10 + (c - 48) ∧ n * 10 + (c - 48) ≤ 32
   ·have e : cdGo (c :: r) n i = cdGo r (n * 10 + (c - 48)) (i + 1) := by rw [cdGo, if_pos hd, if_pos hq]
    have e2 : xpGo (c :: r) 1 n out = xpGo r 1 (n * 10 + (c - 48)) out := by
     rw [xpGo, if_pos rfl, if_neg (by omega), if_pos ⟨hd, by omega, by omega⟩, show 10 * n + (c - 48) = n * 10 + (c - 48) by omega]
    have ih := xp_num r (n * 10 + (c - 48)) (i + 1) out (by omega)
    rw [e, e2]
    by_cases hk : (cdGo r (n * 10 + (c - 48)) (i + 1)).1 = true
    ·have hr := cdGo_rng r _ (i + 1) (by omega) hk
     have e3 : ((cdGo r (n * 10 + (c - 48)) (i + 1)).2.2 - i).toNat = ((cdGo r (n * 10 + (c - 48)) (i + 1)).2.2 - (i + 1)).toNat + 1 := by omega
     have e4 : ((cdGo r (n * 10 + (c - 48)) (i + 1)).2.2 - i + 1).toNat = ((cdGo r (n * 10 + (c - 48)) (i + 1)).2.2 - (i + 1) + 1).toNat + 1 := by omega
     rw [e3, e4, List.drop_succ_cons, List.drop_succ_cons]
     exact ih
    ·rw [if_neg (fun q => hk q.1)] at ih ⊢
     exact ih
   ·have e : cdGo (c :: r) n i = (false, 0, 0) := by rw [cdGo, if_pos hd, if_neg hq]
    rw [e, if_neg (by simp)]
    rw [xpGo, if_pos rfl, if_neg (by omega), if_neg (by omega)]
  ·have e : cdGo (c :: r) n i = (true, n, i) := by rw [cdGo, if_neg hd]
   rw [e]
   simp only [Int.sub_self, Int.toNat_zero, List.drop_zero, List.head?_cons, Option.some.injEq, true_and, Int.zero_add, Int.toNat_one, List.drop_succ_cons]
   rw [xpGo, if_pos rfl]
   by_cases h41 : c = 41
   ·rw [if_pos h41]
    by_cases hn : 0 < n
    ·rw [if_pos hn, if_pos ⟨by omega, h41⟩]
    ·rw [if_neg hn, if_neg (by omega)]
   ·rw [if_neg h41, if_neg (show ¬ (isDig c = true ∧ ¬ (n = 0 ∧ c = 48) ∧ 10 * n + (c - 48) ≤ 32) from fun q => hd q.1), if_neg (show ¬ (1 ≤ n ∧ c = 41) from fun q => h41 q.2)]
theorem xp_ct (l : List Int) (i : Int) (out : List Int) (hi : 0 ≤ i) (hl : i ≤ l.length) :
  if ctP l i then xpGo (l.drop i.toNat) 1 0 out = xpGo (l.drop (ctZ l i).2.toNat) 2 (ctZ l i).1 out ∧ 1 ≤ (ctZ l i).1 ∧ (ctZ l i).1 ≤ 32 ∧ i < (ctZ l i).2 ∧ (ctZ l i).2 ≤ l.length
  else (xpGo (l.drop i.toNat) 1 0 out).2 = false ∧ ctZ l i = (0, 0) := by
 have N := xp_num (l.drop i.toNat) 0 i out (by omega)
 by_cases hk : (cdGo (l.drop i.toNat) 0 i).1 = true
 ·have hr := cdGo_rng _ 0 i (by omega) hk
  rw [List.length_drop] at hr
  have e1 : i.toNat + ((cdGo (l.drop i.toNat) 0 i).2.2 - i).toNat = (cdGo (l.drop i.toNat) 0 i).2.2.toNat := by omega
  have e2 : i.toNat + ((cdGo (l.drop i.toNat) 0 i).2.2 - i + 1).toNat = ((cdGo (l.drop i.toNat) 0 i).2.2 + 1).toNat := by omega
  have hh : ((l.drop i.toNat).drop ((cdGo (l.drop i.toNat) 0 i).2.2 - i).toNat).head? = some 41 ↔ (cdGo (l.drop i.toNat) 0 i).2.2 < l.length ∧ l.getD (cdGo (l.drop i.toNat) 0 i).2.2.toNat 0 = 41 := by
   rw [List.drop_drop, e1, List.head?_drop, List.getD_eq_getElem?_getD]
   constructor
   ·intro h
    have := (List.getElem?_eq_some_iff.1 h).1
    exact ⟨by omega, by rw [h]; rfl⟩
   ·rintro ⟨h1, h2⟩
    rw [List.getElem?_eq_getElem (by omega)] at h2 ⊢
    simpa using h2
  by_cases hP : ctP l i
  ·rw [if_pos hP]
   rw [if_pos ⟨hk, hP.2.1, hh.2 ⟨hP.2.2.1, hP.2.2.2⟩⟩, List.drop_drop, e2] at N
   have hz : ctZ l i = ((cdGo (l.drop i.toNat) 0 i).2.1, (cdGo (l.drop i.toNat) 0 i).2.2 + 1) := if_pos hP
   have := hP.2.1
   have := hP.2.2.1
   rw [hz]
   exact ⟨N, by simp only; omega, by simp only; omega, by simp only; omega, by simp only; omega⟩
  ·rw [if_neg hP]
   rw [if_neg (fun q => hP ⟨hk, q.2.1, (hh.1 q.2.2).1, (hh.1 q.2.2).2⟩)] at N
   exact ⟨N, if_neg hP⟩
 ·have hP : ¬ ctP l i := fun q => hk q.1
  rw [if_neg hP]
  rw [if_neg (fun q => hk q.1)] at N
  exact ⟨N, if_neg hP⟩
def G3 : Env := ((((G2.add 242 (sp1 s96)).add 197 (sp1 s73)).add 238 (sp1 s101)).add 237 (sp2 s81))
theorem ok_G3 : EnvOK Tryz.prog G3 := env_add (env_add (env_add (env_add (ok_G2) ok96) ok73) ok101) ok81
def V45_0 : ByteArray × ByteArray × Int × ByteArray × Int → List Value := fun (s, r, e, o, i) => [S s, S r, I e, S o, I i]
def B45_0 : ByteArray × ByteArray × Int × ByteArray × Int → List (Option Blk) := fun _ => []
def S45_0 : LSpec (ByteArray × ByteArray × Int × ByteArray × Int) where
 live := [0, 2, 3, 4, 5]
 mid := []
 n := 80
 dec vs bs := match vs, bs with | [.string s, .string r, .int .i64 e, .string o, .int .i64 i], [] => some (s, r, e, o, i) | _, _ => none
 pre := fun (s, r, e, o, i) => decide (0 ≤ i ∧ i ≤ s.size ∧ s.size ≤ 9223372036854775807 ∧ o.size ≤ 32)
 fin := fun (s, r, e, o, i) Z => (bif (xpGo ((bz s).drop i.toNat) 0 0 (bz o)).2 then Z (.exit 0) [S s, S r, I e, S (sz (xpGo ((bz s).drop i.toNat) 0 0 (bz o)).1), I s.size] [] else (∀ o' i', Z .ret [S s, S e0, I 30, S o', I i'] []))
theorem r45_0 (s : ByteArray) (r : ByteArray) (e : Int) (o : ByteArray) (i : Int) (jk : Tmps) (R : Exit → List Value → List (Option Blk) → Prop) : (codeQ Tryz.prog G3 noL Tryz.f196.ntmps (loopOf Tryz.f196 0) (tl S45_0.live (V45_0 (s, r, e, o, i)) jk) (ml S45_0.mid (B45_0 (s, r, e, o, i))) S45_0.n fun e t' m' _ => R e (List.map t' S45_0.live) (List.map m' S45_0.mid)) = ( bif decide (i < (↑(ByteArray.size s) : Int)) then bif decide (0 ≤ i ∧ i < (↑(ByteArray.size s) : Int)) then bif byteAt s (Int.toNat i) == 40 then bif decide (0 ≤ IntKind.wrap .i64 (i + 1) ∧ IntKind.wrap .i64 (i + 1) ≤ (↑(ByteArray.size s) : Int) ∧ ByteArray.size s ≤ 9223372036854775807) then bif decide (Prod.fst (ctZ (bz s) (IntKind.wrap .i64 (i + 1))) < 1) || true then bif decide (Prod.fst (ctZ (bz s) (IntKind.wrap .i64 (i + 1))) < 1) || decide (Prod.snd (ctZ (bz s) (IntKind.wrap .i64 (i + 1))) ≥ (↑(ByteArray.size s) : Int)) then R Exit.ret [S s, S (ByteArray.mk #[]), I 30, S o, I (Prod.snd (ctZ (bz s) (IntKind.wrap .i64 (i + 1))))] [] else bif decide (0 ≤ Prod.snd (ctZ (bz s) (IntKind.wrap .i64 (i + 1))) ∧ Prod.snd (ctZ (bz s) (IntKind.wrap .i64 (i + 1))) < (↑(ByteArray.size s) : Int)) then bif decide (0 ≤ byteAt s (Int.toNat (Prod.snd (ctZ (bz s) (IntKind.wrap .i64 (i + 1))))) ∧ byteAt s (Int.toNat (Prod.snd (ctZ (bz s) (IntKind.wrap .i64 (i + 1))))) < 256) then bif !hasZ (bz (ByteArray.mk #[57, 86, 90, 42, 89, 84, 73, 82, 83, 43, 45, 36, 44, 46, 47, 66, 67, 68, 65, 88])) (upZ (byteAt s (Int.toNat (Prod.snd (ctZ (bz s) (IntKind.wrap .i64 (i + 1))))))) || true then bif !hasZ (bz (ByteArray.mk #[57, 86, 90, 42, 89, 84, 73, 82, 83, 43, 45, 36, 44, 46, 47, 66, 67, 68, 65, 88])) (upZ (byteAt s (Int.toNat (Prod.snd (ctZ (bz s) (IntKind.wrap .i64 (i + 1))))))) || decide (IntKind.wrap .i64 ((↑(ByteArray.size o) : Int) + Prod.fst (ctZ (bz s) (IntKind.wrap .i64 (i + 1)))) > 32) then R Exit.ret [S s, S (ByteArray.mk #[]), I 30, S o, I (Prod.snd (ctZ (bz s) (IntKind.wrap .i64 (i + 1))))] [] else bif decide (0 ≤ Prod.fst (ctZ (bz s) (IntKind.wrap .i64 (i + 1))) ∧ Prod.fst (ctZ (bz s) (IntKind.wrap .i64 (i + 1))) ≤ 1000) then bif strFit (ByteArray.size o + ByteArray.size (sz (rep1 (upZ (byteAt s (Int.toNat (Prod.snd (ctZ (bz s) (IntKind.wrap .i64 (i + 1))))))) (Int.toNat (Prod.fst (ctZ (bz s) (IntKind.wrap .i64 (i + 1)))))))) then R Exit.normal [S s, S r, I e, S (o ++ sz (rep1 (upZ (byteAt s (Int.toNat (Prod.snd (ctZ (bz s) (IntKind.wrap .i64 (i + 1))))))) (Int.toNat (Prod.fst (ctZ (bz s) (IntKind.wrap .i64 (i + 1))))))), I (IntKind.wrap .i64 (Prod.snd (ctZ (bz s) (IntKind.wrap .i64 (i + 1))) + 1))] [] else False else False else False else False else False else False else False else bif decide (0 ≤ i ∧ i < (↑(ByteArray.size s) : Int)) then bif decide (0 ≤ byteAt s (Int.toNat i) ∧ byteAt s (Int.toNat i) < 256) then bif !hasZ (bz (ByteArray.mk #[57, 86, 90, 42, 89, 84, 73, 82, 83, 43, 45, 36, 44, 46, 47, 66, 67, 68, 65, 88])) (upZ (byteAt s (Int.toNat i))) || true then bif !hasZ (bz (ByteArray.mk #[57, 86, 90, 42, 89, 84, 73, 82, 83, 43, 45, 36, 44, 46, 47, 66, 67, 68, 65, 88])) (upZ (byteAt s (Int.toNat i))) || decide (IntKind.wrap .i64 ((↑(ByteArray.size o) : Int) + 1) > 32) then R Exit.ret [S s, S (ByteArray.mk #[]), I 30, S o, I i] [] else bif strFit (ByteArray.size o + ByteArray.size (sz (rep1 (upZ (byteAt s (Int.toNat i))) (Int.toNat 1)))) then R Exit.normal [S s, S r, I e, S (o ++ sz (rep1 (upZ (byteAt s (Int.toNat i))) (Int.toNat 1))), I (IntKind.wrap .i64 (i + 1))] [] else False else False else False else False else False else R (Exit.exit 0) [S s, S r, I e, S o, I i] []) := by kernel_rfl
theorem l45_0 : LOKf Tryz.prog (oneL 0 S45_0.h) Tryz.f196 := by
 refine lokf_one (h := S45_0.h) (by kernel_rfl) (loop_specQ ok_G3 hmix (by kernel_rfl) (lok_none _) S45_0 V45_0 B45_0 (fun (s, r, e, o, i) => (s.size - i).toNat) ?_ ?_ ?_)
 ·intro vs bs s h
  simp only [S45_0] at h
  split at h
  all_goals first | (cases h; exact ⟨rfl, rfl⟩) | cases h
 ·exact fun _ _ _ h => h
 ·intro ⟨s, r, e, o, i⟩ jk Z hp hf
  rw [r45_0]
  simp only [S45_0] at hp hf
  simp only [decide_eq_true_eq] at hp
  refine cond_intro (fun h => ?_) (fun h => ?_)
  ·have h := of_decide_eq_true h
   have hc := byte_rng s i.toNat
   rw [bz_at hp.1 h] at hf
   have k : bz ⟨#[57, 86, 90, 42, 89, 84, 73, 82, 83, 43, 45, 36, 44, 46, 47, 66, 67, 68, 65, 88]⟩ = kL := rfl
   have put : ∀ (c : Int) (q : Nat), 0 ≤ c ∧ c < 256 → bz (o ++ sz (rep1 (upZ c) q)) = bz o ++ rep1 (upZ c) q ∧ (o ++ sz (rep1 (upZ c) q)).size = o.size + q := fun c q hc => by
    have hb : IsB (rep1 (upZ c) q) := fun x hx => by
     rw [List.eq_of_mem_replicate hx]
     unfold upZ
     split <;> omega
    have e : bz (o ++ sz (rep1 (upZ c) q)) = bz o ++ rep1 (upZ c) q := by rw [bz_append, bz_sz hb]
    exact ⟨e, by rw [← bz_length, e, List.length_append, bz_length]; simp [rep1]⟩
   refine c_t (decide_eq_true (by omega)) (cond_intro (fun h40 => ?_) (fun h40 => ?_))
   ·have h40 := eq_of_beq h40
    rw [h40] at hf
    have e1 : xpGo (40 :: (bz s).drop (i + 1).toNat) 0 0 (bz o) = xpGo ((bz s).drop (i + 1).toNat) 1 0 (bz o) := by
     rw [xpGo, if_neg (by decide), if_neg (by decide), if_pos rfl]
    rw [e1] at hf
    rw [w64 (n := i + 1) (by omega), k]
    have N := xp_ct (bz s) (i + 1) (bz o) (by omega) (by rw [bz_length]; omega)
    refine c_t (decide_eq_true (by omega)) (c_t (by simp) ?_)
    by_cases hP : ctP (bz s) (i + 1)
    ·rw [if_pos hP] at N
     obtain ⟨n1, n2, n3, n4, n5⟩ := N
     rw [n1] at hf
     rw [bz_length] at n5
     generalize (ctZ (bz s) (i + 1)).1 = n' at *
     generalize (ctZ (bz s) (i + 1)).2 = a' at *
     refine cond_intro (fun hd => ?_) (fun hd => ?_)
     ·simp only [Bool.or_eq_true, decide_eq_true_eq] at hd
      rw [bz_end (by omega)] at hf
      exact hf o a'
     ·simp only [Bool.or_eq_false_iff, decide_eq_false_iff_not] at hd
      have hc2 := byte_rng s a'.toNat
      obtain ⟨u1, u2⟩ := put (byteAt s a'.toNat) n'.toNat hc2
      rw [bz_at (by omega) (show a' < s.size by omega), xp_put (.inl rfl), bz_length, if_pos rfl] at hf
      rw [w64 (n := (o.size : Int) + n') (by omega)]
      refine c_t (decide_eq_true (by omega)) (c_t (decide_eq_true hc2) (c_t (by simp) (cond_intro (fun hq => ?_) (fun hq => ?_))))
      ·rw [if_neg (by
        intro hz
        rw [hz.1] at hq
        simp only [Bool.not_true, Bool.false_or, decide_eq_true_eq] at hq
        omega)] at hf
       exact hf o a'
      ·simp only [Bool.or_eq_false_iff, Bool.not_eq_false', decide_eq_false_iff_not] at hq
       rw [if_pos ⟨hq.1, by omega⟩] at hf
       refine c_t (decide_eq_true (by omega)) (c_t ?_ ?_)
       ·rw [sz_size]
        simp only [strFit, Nat.ble_eq, rep1, List.length_replicate]
        omega
       ·rw [w64 (by omega)]
        refine ⟨(s, r, e, _, a' + 1), rfl, rfl, by simp only [S45_0, decide_eq_true_eq]; omega, by simp only; omega, ?_⟩
        simp only [S45_0, u1]
        exact hf
    ·rw [if_neg hP] at N
     rw [N.1] at hf
     rw [N.2]
     exact hf o 0
   ·have h40 : byteAt s i.toNat ≠ 40 := by simpa using h40
    obtain ⟨u1, u2⟩ := put (byteAt s i.toNat) (Int.toNat 1) hc
    rw [xp_put (.inr ⟨rfl, h40⟩), bz_length, if_neg (show ¬ ((0 : Int) = 2) by decide)] at hf
    rw [k, w64 (n := (o.size : Int) + 1) (by omega)]
    refine c_t (decide_eq_true (by omega)) (c_t (decide_eq_true hc) (c_t (by simp) (cond_intro (fun hq => ?_) (fun hq => ?_))))
    ·rw [if_neg (by
      intro hz
      rw [hz.1] at hq
      simp only [Bool.not_true, Bool.false_or, decide_eq_true_eq] at hq
      omega)] at hf
     exact hf o i
    ·simp only [Bool.or_eq_false_iff, Bool.not_eq_false', decide_eq_false_iff_not] at hq
     rw [if_pos ⟨hq.1, by omega⟩] at hf
     refine c_t ?_ ?_
     ·rw [sz_size]
      simp only [strFit, Nat.ble_eq, rep1, List.length_replicate]
      omega
     ·rw [w64 (by omega)]
      refine ⟨(s, r, e, _, i + 1), rfl, rfl, by simp only [S45_0, decide_eq_true_eq]; refine ⟨by omega, by omega, by omega, ?_⟩; rw [u2]; omega, by simp only; omega, ?_⟩
      simp only [S45_0]
      rw [u1]
      exact hf
  ·have h := of_decide_eq_false h
   rw [bz_end (by omega)] at hf
   obtain rfl : i = s.size := by omega
   have : sz (bz o) = o := sz_bz o
   simp only [xpGo, this] at hf
   exact hf
def exOK (l : List Int) : Bool := (xpGo l 0 0 []).2 && !(xpGo l 0 0 []).1.isEmpty
def eE (l : List Int) : Int := if exOK l = true then 0 else 30
def exZ (l : List Int) : List Int := if exOK l = true then (xpGo l 0 0 []).1 else []
theorem sz_empty (l : List Int) : decide (bz (sz l) = bz ⟨#[]⟩) = l.isEmpty := by
 cases l with
 | nil => rfl
 | cons c r =>
  have : bz (sz (c :: r)) ≠ [] := fun h => by
   have := congrArg List.length h
   rw [bz_length, sz_size] at this
   simp at this
  exact decide_eq_false this
def s45 (s : ByteArray) : Bool × Value := (decide (s.size ≤ 9223372036854775807), .tuple ⟨[.string (sz (exZ (bz s))), .int .i64 (eE (bz s))]⟩)
theorem fn45 : Fn1 Tryz.prog 196 Tryz.f196 := ⟨Tryz.func196, by kernel_rfl, by kernel_rfl, by kernel_rfl⟩
theorem v45 (s : ByteArray) (R : Value → Prop) : bodyQ Tryz.prog G3 (oneL 0 S45_0.h) Tryz.f196 [Enc.enc s] (fun _ => none) 0 (fun v _ _ => R v) = ( bif LSpec.pre S45_0 (s, ByteArray.mk #[], 0, ByteArray.mk #[], 0) then bif Prod.snd (xpGo (List.drop (Int.toNat 0) (bz s)) 0 0 (bz (ByteArray.mk #[]))) then ∀ (x : Tmps), bif ByteArray.toList (sz (Prod.fst (xpGo (List.drop (Int.toNat 0) (bz s)) 0 0 (bz (ByteArray.mk #[]))))) == ByteArray.toList (ByteArray.mk #[]) then R (.tuple (.mk [S (ByteArray.mk #[]), I 30])) else R (.tuple (.mk [S (sz (Prod.fst (xpGo (List.drop (Int.toNat 0) (bz s)) 0 0 (bz (ByteArray.mk #[]))))), I 0])) else ∀ (o' : ByteArray) (i' : Int) (x : Tmps), R (.tuple (.mk [S e0, I 30])) else False) := by kernel_rfl
theorem ok45 : PureOK Tryz.prog 196 (sp1 s45) := by
 refine qure1 ok_G3 hmix fn45 l45_0 (Nat.le_of_ble_eq_true (by kernel_rfl)) fun s hc => ?_
 rw [DoesQ, v45]
 have hc : (s.size ≤ 9223372036854775807) := of_decide_eq_true hc
 dsimp only [s45]
 refine c_t (by simp only [S45_0, decide_eq_true_eq]; exact ⟨by omega, by omega, by omega, by decide⟩) ?_
 rw [drop0, show bz ⟨#[]⟩ = [] from rfl]
 refine cond_intro (fun h x => ?_) (fun h _ _ _ => ?_)
 ·rw [toList_beq, sz_empty]
  refine cond_intro (fun he => ?_) (fun he => ?_)
  ·have : exOK (bz s) = false := by simp [exOK, he]
   simp only [exZ, eE, this]
   rfl
  ·have : exOK (bz s) = true := by simp [exOK, he, h]
   simp only [exZ, eE, this, if_true]
 ·have : exOK (bz s) = false := by simp [exOK, h]
  simp only [exZ, eE, this]
  rfl
def mk1 (dr : Int) (seen : Bool) (c : Int) : Int := bif hasZ [57, 89, 84, 73, 82] c then 100 else bif hasZ [90, 42] c || (dr != 0 && (c == dr && seen)) then 99
 else bif c == 86 then 118 else bif c == 36 then 109 else bif hasZ [83, 43, 45] c then 115 else 105
def mkGo (dr : Int) : Bool → List Int → List Int
 | _, [] => []
 | seen, c :: r => mk1 dr seen c :: mkGo dr (seen || (dr != 0 && c == dr)) r
def bodyZ (s : List Int) : List Int := if crZ s = true then s.take (s.length - 2) else s
def marksZ (s : List Int) : List Int := mkGo (drZ (bodyZ s)) false (bodyZ s) ++ (if crZ s = true then [115, 115] else [])
def V69_0 : ByteArray × ByteArray × ByteArray × Int × List Value × Nat × Nat × Bool × Int → List Value := fun (s, r, b, dr, d, m, cap, seen, i) => [S s, S r, S b, C8 dr, .slice (some ⟨200, 0, some 1⟩) m cap, B seen, I i]
def B69_0 : ByteArray × ByteArray × ByteArray × Int × List Value × Nat × Nat × Bool × Int → List (Option Blk) := fun (s, r, b, dr, d, m, cap, seen, i) => [some ⟨d, 5, true⟩]
def S69_0 : LSpecA (ByteArray × ByteArray × ByteArray × Int × List Value × Nat × Nat × Bool × Int) where
 live := [0, 2, 3, 4, 5, 6, 7]
 mid := [200]
 n := 260
 ap := [(.tmp 5, 200)]
 dec vs bs := match vs, bs with | [.string s, .string r, .string b, .int .u8 dr, .slice (some ⟨200, 0, some 1⟩) m cap, .bool seen, .int .i64 i], [some ⟨d, 5, true⟩] => some (s, r, b, dr, d, m, cap, seen, i) | _, _ => none
 pre := fun (s, r, b, dr, d, m, cap, seen, i) => rowOK d m cap && decide (0 ≤ i ∧ i ≤ b.size ∧ b.size ≤ 1000 ∧ i = m)
 fin := fun (s, r, b, dr, d, m, cap, seen, i) Z => ∀ d' cap' seen', rowOK d' b.size cap' = true → zc d' b.size = zc d m ++ mkGo dr seen ((bz b).drop i.toNat) → Z (.exit 0) [S s, S r, S b, C8 dr, .slice (some ⟨200, 0, some 1⟩) b.size cap', B seen', I b.size] [some ⟨d', 5, true⟩]
theorem r69_0 (s : ByteArray) (r : ByteArray) (b : ByteArray) (dr : Int) (d : List Value) (m : Nat) (cap : Nat) (seen : Bool) (i : Int) (jk : Tmps) (R : Exit → List Value → List (Option Blk) → Prop) : (codeQ Tryz.prog G3 noL Tryz.f201.ntmps (loopOf Tryz.f201 0) (tl S69_0.live (V69_0 (s, r, b, dr, d, m, cap, seen, i)) jk) (ml S69_0.mid (B69_0 (s, r, b, dr, d, m, cap, seen, i))) S69_0.n fun e t' m' _ => S69_0.out R e t' m') = ( bif decide (i < (↑(ByteArray.size b) : Int)) then bif decide (0 ≤ i ∧ i < (↑(ByteArray.size b) : Int)) then bif hasZ (bz (ByteArray.mk #[57, 89, 84, 73, 82])) (byteAt b (Int.toNat i)) then bif seen || (dr != 0 || true) then bif Nat.beq (List.length d) (cap * 1) && Nat.ble m cap && Nat.ble cap 9223372036854775807 && true && fitsA (m + 1) 1 then ∀ (cap : Nat) (tail : List Value), tailOK tail cap (m + 1) 1 = true → bif goodL [(286, 200)] (List.take (m * 1) d ++ [.int .u8 100] ++ tail) && true && true then R Exit.normal [S s, S r, S b, .int .u8 dr, .slice (some (.mk 200 0 (some 1))) (m + 1) cap, B (seen || dr != 0 && byteAt b (Int.toNat i) == dr), I (IntKind.wrap .i64 (i + 1))] [some (.mk (rlbL [(286, 200)] (List.take (m * 1) d ++ [.int .u8 100] ++ tail)) 5 true)] else False else False else False else bif hasZ (bz (ByteArray.mk #[90, 42])) (byteAt b (Int.toNat i)) || bif dr != 0 then byteAt b (Int.toNat i) == dr || true else true then bif hasZ (bz (ByteArray.mk #[90, 42])) (byteAt b (Int.toNat i)) || dr != 0 && (byteAt b (Int.toNat i) == dr && seen) then bif seen || (dr != 0 || true) then bif Nat.beq (List.length d) (cap * 1) && Nat.ble m cap && Nat.ble cap 9223372036854775807 && true && fitsA (m + 1) 1 then ∀ (cap : Nat) (tail : List Value), tailOK tail cap (m + 1) 1 = true → bif goodL [(300, 200)] (List.take (m * 1) d ++ [.int .u8 99] ++ tail) && true && true then R Exit.normal [S s, S r, S b, .int .u8 dr, .slice (some (.mk 200 0 (some 1))) (m + 1) cap, B (seen || dr != 0 && byteAt b (Int.toNat i) == dr), I (IntKind.wrap .i64 (i + 1))] [some (.mk (rlbL [(300, 200)] (List.take (m * 1) d ++ [.int .u8 99] ++ tail)) 5 true)] else False else False else False else bif byteAt b (Int.toNat i) == 86 then bif seen || (dr != 0 || true) then bif Nat.beq (List.length d) (cap * 1) && Nat.ble m cap && Nat.ble cap 9223372036854775807 && true && fitsA (m + 1) 1 then ∀ (cap : Nat) (tail : List Value), tailOK tail cap (m + 1) 1 = true → bif goodL [(302, 200)] (List.take (m * 1) d ++ [.int .u8 118] ++ tail) && true && true then R Exit.normal [S s, S r, S b, .int .u8 dr, .slice (some (.mk 200 0 (some 1))) (m + 1) cap, B (seen || dr != 0 && byteAt b (Int.toNat i) == dr), I (IntKind.wrap .i64 (i + 1))] [some (.mk (rlbL [(302, 200)] (List.take (m * 1) d ++ [.int .u8 118] ++ tail)) 5 true)] else False else False else False else bif byteAt b (Int.toNat i) == 36 then bif seen || (dr != 0 || true) then bif Nat.beq (List.length d) (cap * 1) && Nat.ble m cap && Nat.ble cap 9223372036854775807 && true && fitsA (m + 1) 1 then ∀ (cap : Nat) (tail : List Value), tailOK tail cap (m + 1) 1 = true → bif goodL [(304, 200)] (List.take (m * 1) d ++ [.int .u8 109] ++ tail) && true && true then R Exit.normal [S s, S r, S b, .int .u8 dr, .slice (some (.mk 200 0 (some 1))) (m + 1) cap, B (seen || dr != 0 && byteAt b (Int.toNat i) == dr), I (IntKind.wrap .i64 (i + 1))] [some (.mk (rlbL [(304, 200)] (List.take (m * 1) d ++ [.int .u8 109] ++ tail)) 5 true)] else False else False else False else bif hasZ (bz (ByteArray.mk #[83, 43, 45])) (byteAt b (Int.toNat i)) then bif seen || (dr != 0 || true) then bif Nat.beq (List.length d) (cap * 1) && Nat.ble m cap && Nat.ble cap 9223372036854775807 && true && fitsA (m + 1) 1 then ∀ (cap : Nat) (tail : List Value), tailOK tail cap (m + 1) 1 = true → bif goodL [(306, 200)] (List.take (m * 1) d ++ [.int .u8 115] ++ tail) && true && true then R Exit.normal [S s, S r, S b, .int .u8 dr, .slice (some (.mk 200 0 (some 1))) (m + 1) cap, B (seen || dr != 0 && byteAt b (Int.toNat i) == dr), I (IntKind.wrap .i64 (i + 1))] [some (.mk (rlbL [(306, 200)] (List.take (m * 1) d ++ [.int .u8 115] ++ tail)) 5 true)] else False else False else False else bif seen || (dr != 0 || true) then bif Nat.beq (List.length d) (cap * 1) && Nat.ble m cap && Nat.ble cap 9223372036854775807 && true && fitsA (m + 1) 1 then ∀ (cap : Nat) (tail : List Value), tailOK tail cap (m + 1) 1 = true → bif goodL [(305, 200)] (List.take (m * 1) d ++ [.int .u8 105] ++ tail) && true && true then R Exit.normal [S s, S r, S b, .int .u8 dr, .slice (some (.mk 200 0 (some 1))) (m + 1) cap, B (seen || dr != 0 && byteAt b (Int.toNat i) == dr), I (IntKind.wrap .i64 (i + 1))] [some (.mk (rlbL [(305, 200)] (List.take (m * 1) d ++ [.int .u8 105] ++ tail)) 5 true)] else False else False else False else False else False else bif goodL [(200, 200)] d && true && true then R (Exit.exit 0) [S s, S r, S b, .int .u8 dr, .slice (some (.mk 200 0 (some 1))) m cap, B seen, I i] [some (.mk (rlbL [(200, 200)] d) 5 true)] else False) := by kernel_rfl
theorem l69_0 : LOKf Tryz.prog (oneL 0 S69_0.hA) Tryz.f201 := by
 refine lokf_one (h := S69_0.hA) (by kernel_rfl) (loop_specA ok_G3 hmix (by kernel_rfl) (lok_none _) S69_0 V69_0 B69_0 (fun (s, r, b, dr, d, m, cap, seen, i) => (b.size - i).toNat) ?_ ?_ ?_)
 ·intro vs bs s h
  simp only [S69_0] at h
  split at h
  all_goals first | (cases h; exact ⟨rfl, rfl⟩) | cases h
 ·exact fun ⟨s, r, b, dr, d, m, cap, seen, i⟩ hp => by
   simp only [S69_0, Bool.and_eq_true] at hp
   simp [V69_0, B69_0, S69_0, idsLt, idsLtB, idsL, ids, ids_plainL (rowOK_iff.1 hp.1).plain]
 ·intro ⟨s, r, b, dr, d, m, cap, seen, i⟩ jk Z hp hf
  rw [r69_0]
  simp only [S69_0] at hp hf
  simp only [Bool.and_eq_true, decide_eq_true_eq] at hp
  obtain ⟨hr, hp⟩ := hp
  have hr := rowOK_iff.1 hr
  refine cond_intro (fun h => ?_) (fun h => ?_)
  ·have h := of_decide_eq_true h
   have k1 : bz ⟨#[57, 89, 84, 73, 82]⟩ = [57, 89, 84, 73, 82] := rfl
   have k2 : bz ⟨#[90, 42]⟩ = [90, 42] := rfl
   have k3 : bz ⟨#[83, 43, 45]⟩ = [83, 43, 45] := rfl
   rw [k1, k2, k3]
   rw [bz_at hp.1 h] at hf
   refine c_t (decide_eq_true (by omega)) ?_
   have fin : ∀ (cap' : Nat) (d' : List Value) (x : Int), mk1 dr seen (byteAt b i.toNat) = x → RowP d' (m + 1) cap' → zc d' (m + 1) = zc d m ++ [x] →
     S69_0.step V69_0 B69_0 (fun (s, r, b, dr, d, m, cap, seen, i) => (b.size - i).toNat) (s, r, b, dr, d, m, cap, seen, i) Z Exit.normal [S s, S r, S b, C8 dr, .slice (some ⟨200, 0, some 1⟩) (m + 1) cap', B (seen || dr != 0 && byteAt b i.toNat == dr), I (IntKind.wrap .i64 (i + 1))] [some ⟨d', 5, true⟩] := by
    intro cap' d' x hx g1 g2
    rw [w64 (by omega)]
    refine ⟨(s, r, b, dr, d', m + 1, cap', _, i + 1), rfl, rfl, by simp only [S69_0, Bool.and_eq_true, decide_eq_true_eq]; exact ⟨rowOK_iff.2 g1, by omega⟩, by simp only; omega, ?_⟩
    intro d'' cap'' seen'' h1 h2
    refine hf d'' cap'' seen'' h1 ?_
    rw [h2, g2, mkGo, hx, List.append_assoc]
    rfl
   have sn : (seen || (dr != 0 || true)) = true := by simp
   have K : Nat → Nat → List Value → Prop := fun _ _ _ => True
   refine cond_intro (fun h1 => ?_) (fun h1 => ?_)
   ·exact c_t sn (app_step hr (by omega) 100 _ (fun cap' d' => S69_0.step V69_0 B69_0 _ (s, r, b, dr, d, m, cap, seen, i) Z Exit.normal [S s, S r, S b, C8 dr, .slice (some ⟨200, 0, some 1⟩) (m + 1) cap', B (seen || dr != 0 && byteAt b i.toNat == dr), I (IntKind.wrap .i64 (i + 1))] [some ⟨d', 5, true⟩]) (fun cap' d' g1 g2 => fin cap' d' 100 (by simp only [mk1, h1, cond_true]) g1 g2))
   ·refine c_t (by cases hasZ [90, 42] (byteAt b i.toNat) <;> cases (dr != 0) <;> simp) (cond_intro (fun h2 => ?_) (fun h2 => ?_))
    ·exact c_t sn (app_step hr (by omega) 99 _ (fun cap' d' => S69_0.step V69_0 B69_0 _ (s, r, b, dr, d, m, cap, seen, i) Z Exit.normal [S s, S r, S b, C8 dr, .slice (some ⟨200, 0, some 1⟩) (m + 1) cap', B (seen || dr != 0 && byteAt b i.toNat == dr), I (IntKind.wrap .i64 (i + 1))] [some ⟨d', 5, true⟩]) (fun cap' d' g1 g2 => fin cap' d' 99 (by simp only [mk1, h1, h2, cond_true, cond_false]) g1 g2))
    ·refine cond_intro (fun h3 => ?_) (fun h3 => ?_)
     ·exact c_t sn (app_step hr (by omega) 118 _ (fun cap' d' => S69_0.step V69_0 B69_0 _ (s, r, b, dr, d, m, cap, seen, i) Z Exit.normal [S s, S r, S b, C8 dr, .slice (some ⟨200, 0, some 1⟩) (m + 1) cap', B (seen || dr != 0 && byteAt b i.toNat == dr), I (IntKind.wrap .i64 (i + 1))] [some ⟨d', 5, true⟩]) (fun cap' d' g1 g2 => fin cap' d' 118 (by simp only [mk1, h1, h2, h3, cond_true, cond_false]) g1 g2))
     ·refine cond_intro (fun h4 => ?_) (fun h4 => ?_)
      ·exact c_t sn (app_step hr (by omega) 109 _ (fun cap' d' => S69_0.step V69_0 B69_0 _ (s, r, b, dr, d, m, cap, seen, i) Z Exit.normal [S s, S r, S b, C8 dr, .slice (some ⟨200, 0, some 1⟩) (m + 1) cap', B (seen || dr != 0 && byteAt b i.toNat == dr), I (IntKind.wrap .i64 (i + 1))] [some ⟨d', 5, true⟩]) (fun cap' d' g1 g2 => fin cap' d' 109 (by simp only [mk1, h1, h2, h3, h4, cond_true, cond_false]) g1 g2))
      ·refine cond_intro (fun h5 => ?_) (fun h5 => ?_)
       ·exact c_t sn (app_step hr (by omega) 115 _ (fun cap' d' => S69_0.step V69_0 B69_0 _ (s, r, b, dr, d, m, cap, seen, i) Z Exit.normal [S s, S r, S b, C8 dr, .slice (some ⟨200, 0, some 1⟩) (m + 1) cap', B (seen || dr != 0 && byteAt b i.toNat == dr), I (IntKind.wrap .i64 (i + 1))] [some ⟨d', 5, true⟩]) (fun cap' d' g1 g2 => fin cap' d' 115 (by simp only [mk1, h1, h2, h3, h4, h5, cond_true, cond_false]) g1 g2))
       ·exact c_t sn (app_step hr (by omega) 105 _ (fun cap' d' => S69_0.step V69_0 B69_0 _ (s, r, b, dr, d, m, cap, seen, i) Z Exit.normal [S s, S r, S b, C8 dr, .slice (some ⟨200, 0, some 1⟩) (m + 1) cap', B (seen || dr != 0 && byteAt b i.toNat == dr), I (IntKind.wrap .i64 (i + 1))] [some ⟨d', 5, true⟩]) (fun cap' d' g1 g2 => fin cap' d' 105 (by simp only [mk1, h1, h2, h3, h4, h5, cond_true, cond_false]) g1 g2))
  ·have h := of_decide_eq_false h
   refine c_t (by rw [hr.good]; rfl) ?_
   rw [hr.rlb]
   obtain rfl : i = b.size := by omega
   have e : b.size = m := by omega
   have := hf d cap seen (by rw [e]; exact rowOK_iff.2 hr) (by rw [bz_end (Int.le_refl _), e]; simp [mkGo])
   rw [e] at this ⊢
   exact this
def s69 (s : ByteArray) : Bool × Value := (decide (s.size ≤ 1000), .string (sz (marksZ (bz s))))
theorem fn69 : Fn1 Tryz.prog 201 Tryz.f201 := ⟨Tryz.func201, by kernel_rfl, by kernel_rfl, by kernel_rfl⟩
theorem v69 (s : ByteArray) (R : Value → Prop) : bodyQ Tryz.prog G3 (oneL 0 S69_0.hA) Tryz.f201 [Enc.enc s] (fun _ => none) 0 (fun v _ _ => R v) = ( bif decide (ByteArray.size s ≤ 9223372036854775807) then bif crZ (bz s) then bif decide ((0 : Int) ≤ 0 ∧ 0 ≤ IntKind.wrap .i64 ((↑(ByteArray.size s) : Int) - 2) ∧ IntKind.wrap .i64 ((↑(ByteArray.size s) : Int) - 2) ≤ (↑(ByteArray.size s) : Int)) then bif decide (ByteArray.size (ByteArray.extract s 0 (Int.toNat (IntKind.wrap .i64 ((↑(ByteArray.size s) : Int) - 2)))) ≤ 9223372036854775807) then bif LSpec.pre (LSpecA.toLSpec S69_0) (s, ByteArray.mk #[], ByteArray.extract s 0 (Int.toNat (IntKind.wrap .i64 ((↑(ByteArray.size s) : Int) - 2))), drZ (bz (ByteArray.extract s 0 (Int.toNat (IntKind.wrap .i64 ((↑(ByteArray.size s) : Int) - 2))))), [], 0, 0, false, 0) then ∀ (d' : List Value) (cap' : Nat) (seen' : Bool), rowOK d' (ByteArray.size (ByteArray.extract s 0 (Int.toNat (IntKind.wrap .i64 ((↑(ByteArray.size s) : Int) - 2))))) cap' = true → zc d' (ByteArray.size (ByteArray.extract s 0 (Int.toNat (IntKind.wrap .i64 ((↑(ByteArray.size s) : Int) - 2))))) = zc [] 0 ++ mkGo (drZ (bz (ByteArray.extract s 0 (Int.toNat (IntKind.wrap .i64 ((↑(ByteArray.size s) : Int) - 2)))))) false (List.drop (Int.toNat 0) (bz (ByteArray.extract s 0 (Int.toNat (IntKind.wrap .i64 ((↑(ByteArray.size s) : Int) - 2)))))) → bif idsLt 260 d' && true then ∀ (x : Tmps), bif decide (ByteArray.size s ≤ 9223372036854775807) then bif crZ (bz s) then bif bytesOK d' 0 (ByteArray.size (ByteArray.extract s 0 (Int.toNat (IntKind.wrap .i64 ((↑(ByteArray.size s) : Int) - 2))))) then bif strFit (ByteArray.size (bytesOf d' 0 (ByteArray.size (ByteArray.extract s 0 (Int.toNat (IntKind.wrap .i64 ((↑(ByteArray.size s) : Int) - 2)))))) + ByteArray.size (ByteArray.mk #[115, 115])) then R (S (bytesOf d' 0 (ByteArray.size (ByteArray.extract s 0 (Int.toNat (IntKind.wrap .i64 ((↑(ByteArray.size s) : Int) - 2))))) ++ ByteArray.mk #[115, 115])) else False else False else bif bytesOK d' 0 (ByteArray.size (ByteArray.extract s 0 (Int.toNat (IntKind.wrap .i64 ((↑(ByteArray.size s) : Int) - 2))))) then R (S (bytesOf d' 0 (ByteArray.size (ByteArray.extract s 0 (Int.toNat (IntKind.wrap .i64 ((↑(ByteArray.size s) : Int) - 2))))))) else False else False else False else False else False else False else bif decide (ByteArray.size s ≤ 9223372036854775807) then bif LSpec.pre (LSpecA.toLSpec S69_0) (s, ByteArray.mk #[], s, drZ (bz s), [], 0, 0, false, 0) then ∀ (d' : List Value) (cap' : Nat) (seen' : Bool), rowOK d' (ByteArray.size s) cap' = true → zc d' (ByteArray.size s) = zc [] 0 ++ mkGo (drZ (bz s)) false (List.drop (Int.toNat 0) (bz s)) → bif idsLt 260 d' && true then ∀ (x : Tmps), bif decide (ByteArray.size s ≤ 9223372036854775807) then bif crZ (bz s) then bif bytesOK d' 0 (ByteArray.size s) then bif strFit (ByteArray.size (bytesOf d' 0 (ByteArray.size s)) + ByteArray.size (ByteArray.mk #[115, 115])) then R (S (bytesOf d' 0 (ByteArray.size s) ++ ByteArray.mk #[115, 115])) else False else False else bif bytesOK d' 0 (ByteArray.size s) then R (S (bytesOf d' 0 (ByteArray.size s))) else False else False else False else False else False else False) := by kernel_rfl
theorem ok69 : PureOK Tryz.prog 201 (sp1 s69) := by
 refine qure1 ok_G3 hmix fn69 l69_0 (Nat.le_of_ble_eq_true (by kernel_rfl)) fun s hc => ?_
 rw [DoesQ, v69]
 have hc : (s.size ≤ 1000) := of_decide_eq_true hc
 dsimp only [s69]
 have hz0 : zc [] 0 = [] := rfl
 have kss : (⟨#[115, 115]⟩ : ByteArray) = sz [115, 115] := rfl
 refine c_t (decide_eq_true (by omega)) (cond_intro (fun hcr => ?_) (fun hcr => ?_))
 ·have h2 : 2 ≤ s.size := by
   simp only [crZ, Bool.and_eq_true, decide_eq_true_eq, bz_length] at hcr
   exact hcr.1
  have e : ((s.size : Int) - 2).toNat = s.size - 2 := by omega
  rw [w64 (by omega), e]
  have eb : bz (s.extract 0 (s.size - 2)) = (bz s).take (s.size - 2) := by rw [bz_extract]; simp
  have hbs : (s.extract 0 (s.size - 2)).size = s.size - 2 := by rw [← bz_length, eb, List.length_take, bz_length]; omega
  generalize s.extract 0 (s.size - 2) = b at *
  refine c_t (decide_eq_true (by omega)) (c_t (decide_eq_true (by omega)) (c_t ?_ (fun d' cap' seen' h1 h3 => ?_)))
  ·simp only [S69_0, Bool.and_eq_true, decide_eq_true_eq]
   exact ⟨rfl, by omega⟩
  have h1 := rowOK_iff.1 h1
  have hsz : (bytesOf d' 0 b.size).size = b.size := by rw [h1.str.2, sz_size, zc_length h1]
  refine c_t (by rw [ids_plainB h1.plain]; rfl) (fun _ => c_t (decide_eq_true (by omega)) (c_t hcr (c_t h1.str.1 (c_t ?_ ?_))))
  ·rw [hsz]
   simp only [strFit, Nat.ble_eq]
   show b.size + 2 ≤ _
   omega
  ·rw [h1.str.2, h3, hz0, drop0, kss, ← sz_append]
   simp only [marksZ, bodyZ, hcr, if_true, bz_length, eb, List.nil_append]
 ·refine c_t (decide_eq_true (by omega)) (c_t ?_ (fun d' cap' seen' h1 h3 => ?_))
  ·simp only [S69_0, Bool.and_eq_true, decide_eq_true_eq]
   exact ⟨rfl, by omega⟩
  have h1 := rowOK_iff.1 h1
  refine c_t (by rw [ids_plainB h1.plain]; rfl) (fun _ => c_t (decide_eq_true (by omega)) (c_f hcr (c_t h1.str.1 ?_)))
  rw [h1.str.2, h3, hz0, drop0]
  simp [marksZ, bodyZ, hcr]
def G4 : Env := (G3.add 201 (sp1 s69))
theorem ok_G4 : EnvOK Tryz.prog G4 := env_add (ok_G3) ok69
def df1 (s : List Int) (dr : Int) : List Int → Int → Int → Int → Bool × Int × Int
 | [], _, f, l => (true, f, l)
 | c :: r, i, f, l => bif c == dr then df1 s dr r (i + 1) (if f < 0 then i else f) i
  else bif hasZ [36, 83, 43, 45] c && decide (2 ≤ cntZ s c) then (false, 0, 0) else df1 s dr r (i + 1) f l
def d2Go (dr f : Int) : List Int → Int → Bool
 | [], _ => true
 | c :: r, i => !(decide (i < f) && c == 86) && (!(decide (i > f) && (c != dr && !hasZ [44, 46, 47, 66, 86] c)) && d2Go dr f r (i + 1))
def driftsZ (s : List Int) : Bool := drZ s == 0 || ((df1 s (drZ s) s 0 (-1) (-1)).1 && d2Go (drZ s) (df1 s (drZ s) s 0 (-1) (-1)).2.1 (s.take (df1 s (drZ s) s 0 (-1) (-1)).2.2.toNat) 0)
theorem df1_rng (s : List Int) (dr : Int) : ∀ (r : List Int) (i f l : Int), 0 ≤ i → -1 ≤ f → f ≤ i → -1 ≤ l → l ≤ i → (df1 s dr r i f l).1 = true → -1 ≤ (df1 s dr r i f l).2.1 ∧ (df1 s dr r i f l).2.1 ≤ i + r.length ∧ -1 ≤ (df1 s dr r i f l).2.2 ∧ (df1 s dr r i f l).2.2 ≤ i + r.length
 | [], i, f, l, h0, h1, h2, h3, h4, _ => by simp only [df1, List.length_nil]; omega
 | c :: r, i, f, l, h0, h1, h2, h3, h4, hk => by
  simp only [df1, List.length_cons] at hk ⊢
  cases hc : (c == dr) with
  | true =>
   rw [hc] at hk
   simp only [cond_true] at hk ⊢
   have := df1_rng s dr r (i + 1) _ i (by omega) (by split <;> omega) (by split <;> omega) (by omega) (by omega) hk
   omega
  | false =>
   rw [hc] at hk
   simp only [cond_false] at hk ⊢
   cases hq : (hasZ [36, 83, 43, 45] c && decide (2 ≤ cntZ s c)) with
   | true => rw [hq] at hk; cases hk
   | false =>
    rw [hq] at hk
    simp only [cond_false] at hk ⊢
    have := df1_rng s dr r (i + 1) f l (by omega) h1 (by omega) h3 (by omega) hk
    omega
def V104_0 : ByteArray × Bool × Int × Int × Int × Int → List Value := fun (s, b, dr, f, l, i) => [S s, B b, C8 dr, I f, I l, I i]
def B104_0 : ByteArray × Bool × Int × Int × Int × Int → List (Option Blk) := fun _ => []
def S104_0 : LSpec (ByteArray × Bool × Int × Int × Int × Int) where
 live := [0, 2, 3, 4, 5, 6]
 mid := []
 n := 60
 dec vs bs := match vs, bs with | [.string s, .bool b, .int .u8 dr, .int .i64 f, .int .i64 l, .int .i64 i], [] => some (s, b, dr, f, l, i) | _, _ => none
 pre := fun (s, b, dr, f, l, i) => decide (0 ≤ i ∧ i ≤ s.size ∧ s.size ≤ 9223372036854775807 ∧ -1 ≤ f ∧ f ≤ i ∧ -1 ≤ l ∧ l ≤ i)
 fin := fun (s, b, dr, f, l, i) Z => (bif (df1 (bz s) dr ((bz s).drop i.toNat) i f l).1 then Z (.exit 0) [S s, B b, C8 dr, I (df1 (bz s) dr ((bz s).drop i.toNat) i f l).2.1, I (df1 (bz s) dr ((bz s).drop i.toNat) i f l).2.2, I s.size] [] else (∀ f' l' i', Z .ret [S s, B false, C8 dr, I f', I l', I i'] []))
theorem r104_0 (s : ByteArray) (b : Bool) (dr : Int) (f : Int) (l : Int) (i : Int) (jk : Tmps) (R : Exit → List Value → List (Option Blk) → Prop) : (codeQ Tryz.prog G4 noL Tryz.f239.ntmps (loopOf Tryz.f239 0) (tl S104_0.live (V104_0 (s, b, dr, f, l, i)) jk) (ml S104_0.mid (B104_0 (s, b, dr, f, l, i))) S104_0.n fun e t' m' _ => R e (List.map t' S104_0.live) (List.map m' S104_0.mid)) = ( bif decide (i < (↑(ByteArray.size s) : Int)) then bif decide (0 ≤ i ∧ i < (↑(ByteArray.size s) : Int)) then bif byteAt s (Int.toNat i) == dr then bif decide (f < 0) then R Exit.normal [S s, B b, .int .u8 dr, I i, I i, I (IntKind.wrap .i64 (i + 1))] [] else R Exit.normal [S s, B b, .int .u8 dr, I f, I i, I (IntKind.wrap .i64 (i + 1))] [] else bif decide (0 ≤ i ∧ i < (↑(ByteArray.size s) : Int)) && bif hasZ (bz (ByteArray.mk #[36, 83, 43, 45])) (byteAt s (Int.toNat i)) then decide (0 ≤ i ∧ i < (↑(ByteArray.size s) : Int)) && (decide (ByteArray.size s ≤ 9223372036854775807) && true) else true then bif hasZ (bz (ByteArray.mk #[36, 83, 43, 45])) (byteAt s (Int.toNat i)) && decide ((↑(cntZ (bz s) (byteAt s (Int.toNat i))) : Int) ≥ 2) then R Exit.ret [S s, B false, .int .u8 dr, I f, I l, I i] [] else R Exit.normal [S s, B b, .int .u8 dr, I f, I l, I (IntKind.wrap .i64 (i + 1))] [] else False else False else R (Exit.exit 0) [S s, B b, .int .u8 dr, I f, I l, I i] []) := by kernel_rfl
theorem l104_0 : ∀ t m n K, S104_0.h t m n K → Ab.Sem Tryz.prog Tryz.f239.ntmps (.loop (loopOf Tryz.f239 0)) t m n K := by
 refine loop_specQ ok_G4 hmix (by kernel_rfl) (lok_none _) S104_0 V104_0 B104_0 (fun (s, b, dr, f, l, i) => (s.size - i).toNat) ?_ ?_ ?_
 ·intro vs bs s h
  simp only [S104_0] at h
  split at h
  all_goals first | (cases h; exact ⟨rfl, rfl⟩) | cases h
 ·exact fun _ _ _ h => h
 ·intro ⟨s, b, dr, f, l, i⟩ jk Z hp hf
  rw [r104_0]
  simp only [S104_0] at hp hf
  simp only [decide_eq_true_eq] at hp
  refine cond_intro (fun h => ?_) (fun h => ?_)
  ·have h := of_decide_eq_true h
   rw [bz_at hp.1 h, df1] at hf
   have h1 : decide (0 ≤ i ∧ i < (s.size : Int)) = true := decide_eq_true (by omega)
   have k : bz ⟨#[36, 83, 43, 45]⟩ = [36, 83, 43, 45] := rfl
   rw [k]
   refine c_t h1 (cond_intro (fun hc => ?_) (fun hc => ?_))
   ·rw [hc, cond_true] at hf
    rw [w64 (n := i + 1) (by omega)]
    refine cond_intro (fun hd => ?_) (fun hd => ?_)
    ·rw [if_pos (of_decide_eq_true hd)] at hf
     exact ⟨(s, b, dr, i, i, i + 1), rfl, rfl, by simp only [S104_0, decide_eq_true_eq]; omega, by simp only; omega, hf⟩
    ·rw [if_neg (of_decide_eq_false hd)] at hf
     exact ⟨(s, b, dr, f, i, i + 1), rfl, rfl, by simp only [S104_0, decide_eq_true_eq]; omega, by simp only; omega, hf⟩
   ·rw [hc, cond_false] at hf
    refine c_t (by rw [h1, decide_eq_true hp.2.2.1]; cases hasZ [36, 83, 43, 45] (byteAt s i.toNat) <;> rfl) (cond_intro (fun hd => ?_) (fun hd => ?_))
    ·have hd' : (hasZ [36, 83, 43, 45] (byteAt s i.toNat) && decide (2 ≤ cntZ (bz s) (byteAt s i.toNat))) = true := by
      simp only [Bool.and_eq_true, decide_eq_true_eq] at hd ⊢
      exact ⟨hd.1, by omega⟩
     rw [hd', cond_true] at hf
     exact hf f l i
    ·have hd' : (hasZ [36, 83, 43, 45] (byteAt s i.toNat) && decide (2 ≤ cntZ (bz s) (byteAt s i.toNat))) = false := by
      cases q : hasZ [36, 83, 43, 45] (byteAt s i.toNat) with
      | false => rfl
      | true =>
       rw [q, Bool.true_and, decide_eq_false_iff_not] at hd
       rw [Bool.true_and]
       exact decide_eq_false (by omega)
     rw [hd', cond_false] at hf
     rw [w64 (by omega)]
     exact ⟨(s, b, dr, f, l, i + 1), rfl, rfl, by simp only [S104_0, decide_eq_true_eq]; omega, by simp only; omega, hf⟩
  ·have h := of_decide_eq_false h
   rw [bz_end (by omega)] at hf
   obtain rfl : i = s.size := by omega
   exact hf
def V104_2 : ByteArray × Bool × Int × Int × Int × Int → List Value := fun (s, b, dr, f, l, i) => [S s, B b, C8 dr, I f, I l, I i]
def B104_2 : ByteArray × Bool × Int × Int × Int × Int → List (Option Blk) := fun _ => []
def S104_2 : LSpec (ByteArray × Bool × Int × Int × Int × Int) where
 live := [0, 2, 3, 4, 5, 7]
 mid := []
 n := 90
 dec vs bs := match vs, bs with | [.string s, .bool b, .int .u8 dr, .int .i64 f, .int .i64 l, .int .i64 i], [] => some (s, b, dr, f, l, i) | _, _ => none
 pre := fun (s, b, dr, f, l, i) => decide (0 ≤ i ∧ s.size ≤ 9223372036854775807 ∧ l ≤ s.size)
 fin := fun (s, b, dr, f, l, i) Z => (bif d2Go dr f (((bz s).take l.toNat).drop i.toNat) i then (∀ i', Z (.exit 2) [S s, B b, C8 dr, I f, I l, I i'] []) else (∀ i', Z .ret [S s, B false, C8 dr, I f, I l, I i'] []))
theorem r104_2 (s : ByteArray) (b : Bool) (dr : Int) (f : Int) (l : Int) (i : Int) (jk : Tmps) (R : Exit → List Value → List (Option Blk) → Prop) : (codeQ Tryz.prog G4 noL Tryz.f239.ntmps (loopOf Tryz.f239 2) (tl S104_2.live (V104_2 (s, b, dr, f, l, i)) jk) (ml S104_2.mid (B104_2 (s, b, dr, f, l, i))) S104_2.n fun e t' m' _ => R e (List.map t' S104_2.live) (List.map m' S104_2.mid)) = ( bif decide (i < l) then bif bif decide (i < f) then decide (0 ≤ i ∧ i < (↑(ByteArray.size s) : Int)) && true else true then bif decide (i < f) && byteAt s (Int.toNat i) == 86 then R Exit.ret [S s, B false, .int .u8 dr, I f, I l, I i] [] else bif bif decide (i > f) then decide (0 ≤ i ∧ i < (↑(ByteArray.size s) : Int)) && bif byteAt s (Int.toNat i) != dr then decide (0 ≤ i ∧ i < (↑(ByteArray.size s) : Int)) && true else true else true then bif decide (i > f) && (byteAt s (Int.toNat i) != dr && !hasZ (bz (ByteArray.mk #[44, 46, 47, 66, 86])) (byteAt s (Int.toNat i))) then R Exit.ret [S s, B false, .int .u8 dr, I f, I l, I i] [] else R Exit.normal [S s, B b, .int .u8 dr, I f, I l, I (IntKind.wrap .i64 (i + 1))] [] else False else False else R (Exit.exit 2) [S s, B b, .int .u8 dr, I f, I l, I i] []) := by kernel_rfl
theorem l104_2 : ∀ t m n K, S104_2.h t m n K → Ab.Sem Tryz.prog Tryz.f239.ntmps (.loop (loopOf Tryz.f239 2)) t m n K := by
 refine loop_specQ ok_G4 hmix (by kernel_rfl) (lok_none _) S104_2 V104_2 B104_2 (fun (s, b, dr, f, l, i) => (l - i).toNat) ?_ ?_ ?_
 ·intro vs bs s h
  simp only [S104_2] at h
  split at h
  all_goals first | (cases h; exact ⟨rfl, rfl⟩) | cases h
 ·exact fun _ _ _ h => h
 ·intro ⟨s, b, dr, f, l, i⟩ jk Z hp hf
  rw [r104_2]
  simp only [S104_2] at hp hf
  simp only [decide_eq_true_eq] at hp
  have k : bz ⟨#[44, 46, 47, 66, 86]⟩ = [44, 46, 47, 66, 86] := rfl
  rw [k]
  refine cond_intro (fun h => ?_) (fun h => ?_)
  ·have h := of_decide_eq_true h
   rw [bz_take_at hp.1 h hp.2.2, d2Go] at hf
   have h1 : decide (0 ≤ i ∧ i < (s.size : Int)) = true := decide_eq_true (by omega)
   refine c_t (by rw [h1]; cases decide (i < f) <;> rfl) (cond_intro (fun ha => ?_) (fun ha => ?_))
   ·rw [ha] at hf
    exact hf i
   ·rw [ha, Bool.not_false, Bool.true_and] at hf
    refine c_t (by rw [h1]; cases decide (i > f) <;> cases (byteAt s i.toNat != dr) <;> rfl) (cond_intro (fun hb => ?_) (fun hb => ?_))
    ·rw [hb] at hf
     exact hf i
    ·rw [hb, Bool.not_false, Bool.true_and] at hf
     rw [w64 (by omega)]
     exact ⟨(s, b, dr, f, l, i + 1), rfl, rfl, by simp only [S104_2, decide_eq_true_eq]; omega, by simp only; omega, hf⟩
  ·have h := of_decide_eq_false h
   rw [List.drop_eq_nil_of_le (by rw [List.length_take]; omega)] at hf
   exact hf i
theorem lok104 : LOKf Tryz.prog (twoL 0 S104_0.h 2 S104_2.h) Tryz.f239 := lokf_two (by kernel_rfl) (by kernel_rfl) l104_0 l104_2
def s104 (s : ByteArray) : Bool × Value := (decide (s.size ≤ 1000), .bool (driftsZ (bz s)))
theorem fn104 : Fn1 Tryz.prog 239 Tryz.f239 := ⟨Tryz.func239, by kernel_rfl, by kernel_rfl, by kernel_rfl⟩
theorem v104 (s : ByteArray) (R : Value → Prop) : bodyQ Tryz.prog G4 (twoL 0 S104_0.h 2 S104_2.h) Tryz.f239 [Enc.enc s] (fun _ => none) 0 (fun v _ _ => R v) = ( bif decide (ByteArray.size s ≤ 9223372036854775807) then bif drZ (bz s) == 0 then R (B true) else bif LSpec.pre S104_0 (s, false, drZ (bz s), -1, -1, 0) then bif Prod.fst (df1 (bz s) (drZ (bz s)) (List.drop (Int.toNat 0) (bz s)) 0 (-1) (-1)) then ∀ (x : Tmps), bif LSpec.pre S104_2 (s, false, drZ (bz s), Prod.fst (Prod.snd (df1 (bz s) (drZ (bz s)) (List.drop (Int.toNat 0) (bz s)) 0 (-1) (-1))), Prod.snd (Prod.snd (df1 (bz s) (drZ (bz s)) (List.drop (Int.toNat 0) (bz s)) 0 (-1) (-1))), 0) then bif d2Go (drZ (bz s)) (Prod.fst (Prod.snd (df1 (bz s) (drZ (bz s)) (List.drop (Int.toNat 0) (bz s)) 0 (-1) (-1)))) (List.drop (Int.toNat 0) (List.take (Int.toNat (Prod.snd (Prod.snd (df1 (bz s) (drZ (bz s)) (List.drop (Int.toNat 0) (bz s)) 0 (-1) (-1))))) (bz s))) 0 then ∀ (i' : Int) (x : Tmps), R (B true) else ∀ (i' : Int) (x : Tmps), R (B false) else False else ∀ (f' l' i' : Int) (x : Tmps), R (B false) else False else False) := by kernel_rfl
theorem ok104 : PureOK Tryz.prog 239 (sp1 s104) := by
 refine qure1 ok_G4 hmix fn104 lok104 (Nat.le_of_ble_eq_true (by kernel_rfl)) fun s hc => ?_
 rw [DoesQ, v104]
 have hc : (s.size ≤ 1000) := of_decide_eq_true hc
 dsimp only [s104]
 refine c_t (decide_eq_true (by omega)) (cond_intro (fun h => by simp only [driftsZ, h, Bool.true_or]) (fun h => c_t (by simp only [S104_0, decide_eq_true_eq]; omega) ?_))
 rw [drop0]
 have hr := df1_rng (bz s) (drZ (bz s)) (bz s) 0 (-1) (-1) (by omega) (by omega) (by omega) (by omega) (by omega)
 rw [bz_length] at hr
 simp only [driftsZ, h, Bool.false_or]
 generalize df1 (bz s) (drZ (bz s)) (bz s) 0 (-1) (-1) = q at *
 refine cond_intro (fun h1 x => c_t ?_ ?_) (fun h1 _ _ _ _ => by rw [h1]; rfl)
 ·have := hr h1
  simp only [S104_2, decide_eq_true_eq]
  omega
 ·rw [drop0]
  exact cond_intro (fun h2 _ _ => by rw [h1, h2]; rfl) (fun h2 _ _ => by rw [h1, h2]; rfl)
def ldGo : List Int → Bool → Bool → Bool → Int → Bool × Bool × Bool × Int
 | [], fm, bh, _, dg => (true, fm, bh, dg)
 | m :: r, fm, bh, pt, dg => bif m == 118 then ldGo r fm bh true dg else bif m == 100 then ldGo r true bh pt (dg + 1)
  else bif m == 99 then (bif fm then (false, false, false, 0) else ldGo r fm (bh || pt) pt (dg + 1)) else ldGo r fm bh pt dg
def leadsZ (b ms : List Int) : Bool := bif hasZ b 90 && hasZ b 42 then false else bif (hasZ b 90 || hasZ b 42) && drZ b != 0 then false
 else (ldGo ms false false false 0).1 && (decide (1 ≤ (ldGo ms false false false 0).2.2.2) && (decide ((ldGo ms false false false 0).2.2.2 ≤ 9) && !((ldGo ms false false false 0).2.2.1 && (ldGo ms false false false 0).2.1)))
def V105_0 : ByteArray × ByteArray × Bool × Bool × Bool × Bool × Int × Int → List Value := fun (s, ms, b, fm, bh, pt, dg, i) => [S s, S ms, B b, B fm, B bh, B pt, I dg, I i]
def B105_0 : ByteArray × ByteArray × Bool × Bool × Bool × Bool × Int × Int → List (Option Blk) := fun _ => []
def S105_0 : LSpec (ByteArray × ByteArray × Bool × Bool × Bool × Bool × Int × Int) where
 live := [0, 1, 4, 5, 6, 7, 8, 9]
 mid := []
 n := 60
 dec vs bs := match vs, bs with | [.string s, .string ms, .bool b, .bool fm, .bool bh, .bool pt, .int .i64 dg, .int .i64 i], [] => some (s, ms, b, fm, bh, pt, dg, i) | _, _ => none
 pre := fun (s, ms, b, fm, bh, pt, dg, i) => decide (0 ≤ i ∧ i ≤ s.size ∧ s.size = ms.size ∧ s.size ≤ 1000 ∧ 0 ≤ dg ∧ dg ≤ i)
 fin := fun (s, ms, b, fm, bh, pt, dg, i) Z => (bif (ldGo ((bz ms).drop i.toNat) fm bh pt dg).1 then (∀ pt', Z (.exit 0) [S s, S ms, B b, B (ldGo ((bz ms).drop i.toNat) fm bh pt dg).2.1, B (ldGo ((bz ms).drop i.toNat) fm bh pt dg).2.2.1, B pt', I (ldGo ((bz ms).drop i.toNat) fm bh pt dg).2.2.2, I s.size] []) else (∀ fm' bh' pt' dg' i', Z .ret [S s, S ms, B false, B fm', B bh', B pt', I dg', I i'] []))
theorem r105_0 (s : ByteArray) (ms : ByteArray) (b : Bool) (fm : Bool) (bh : Bool) (pt : Bool) (dg : Int) (i : Int) (jk : Tmps) (R : Exit → List Value → List (Option Blk) → Prop) : (codeQ Tryz.prog G4 noL Tryz.f240.ntmps (loopOf Tryz.f240 0) (tl S105_0.live (V105_0 (s, ms, b, fm, bh, pt, dg, i)) jk) (ml S105_0.mid (B105_0 (s, ms, b, fm, bh, pt, dg, i))) S105_0.n fun e t' m' _ => R e (List.map t' S105_0.live) (List.map m' S105_0.mid)) = ( bif decide (i < (↑(ByteArray.size s) : Int)) then bif decide (0 ≤ i ∧ i < (↑(ByteArray.size ms) : Int)) then bif byteAt ms (Int.toNat i) == 118 then R Exit.normal [S s, S ms, B b, B fm, B bh, B true, I dg, I (IntKind.wrap .i64 (i + 1))] [] else bif decide (0 ≤ i ∧ i < (↑(ByteArray.size ms) : Int)) then bif byteAt ms (Int.toNat i) == 100 then R Exit.normal [S s, S ms, B b, B true, B bh, B pt, I (IntKind.wrap .i64 (dg + 1)), I (IntKind.wrap .i64 (i + 1))] [] else bif decide (0 ≤ i ∧ i < (↑(ByteArray.size ms) : Int)) then bif byteAt ms (Int.toNat i) == 99 then bif fm then R Exit.ret [S s, S ms, B false, B fm, B bh, B pt, I dg, I i] [] else bif bh || true then R Exit.normal [S s, S ms, B b, B fm, B (bh || pt), B pt, I (IntKind.wrap .i64 (dg + 1)), I (IntKind.wrap .i64 (i + 1))] [] else False else R Exit.normal [S s, S ms, B b, B fm, B bh, B pt, I dg, I (IntKind.wrap .i64 (i + 1))] [] else False else False else False else R (Exit.exit 0) [S s, S ms, B b, B fm, B bh, B pt, I dg, I i] []) := by kernel_rfl
theorem l105_0 : LOKf Tryz.prog (oneL 0 S105_0.h) Tryz.f240 := by
 refine lokf_one (h := S105_0.h) (by kernel_rfl) (loop_specQ ok_G4 hmix (by kernel_rfl) (lok_none _) S105_0 V105_0 B105_0 (fun (s, ms, b, fm, bh, pt, dg, i) => (s.size - i).toNat) ?_ ?_ ?_)
 ·intro vs bs s h
  simp only [S105_0] at h
  split at h
  all_goals first | (cases h; exact ⟨rfl, rfl⟩) | cases h
 ·exact fun _ _ _ h => h
 ·intro ⟨s, ms, b, fm, bh, pt, dg, i⟩ jk Z hp hf
  rw [r105_0]
  simp only [S105_0] at hp hf
  simp only [decide_eq_true_eq] at hp
  refine cond_intro (fun h => ?_) (fun h => ?_)
  ·have h := of_decide_eq_true h
   rw [bz_at (s := ms) hp.1 (by omega), ldGo] at hf
   have h1 : decide (0 ≤ i ∧ i < (ms.size : Int)) = true := decide_eq_true (by omega)
   refine c_t h1 (cond_intro (fun q1 => ?_) (fun q1 => c_t h1 (cond_intro (fun q2 => ?_) (fun q2 => c_t h1 (cond_intro (fun q3 => cond_intro (fun q4 => ?_) (fun q4 => c_t (by simp) ?_)) (fun q3 => ?_))))))
   ·rw [q1, cond_true] at hf
    rw [w64 (by omega)]
    exact ⟨(s, ms, b, fm, bh, true, dg, i + 1), rfl, rfl, by simp only [S105_0, decide_eq_true_eq]; omega, by simp only; omega, hf⟩
   ·rw [q1, q2, cond_false, cond_true] at hf
    rw [w64 (n := dg + 1) (by omega), w64 (by omega)]
    exact ⟨(s, ms, b, true, bh, pt, dg + 1, i + 1), rfl, rfl, by simp only [S105_0, decide_eq_true_eq]; omega, by simp only; omega, hf⟩
   ·rw [q1, q2, q3, cond_false, cond_false, cond_true, q4, cond_true] at hf
    exact hf fm bh pt dg i
   ·rw [q1, q2, q3, cond_false, cond_false, cond_true, q4, cond_false] at hf
    rw [w64 (n := dg + 1) (by omega), w64 (by omega), q4]
    exact ⟨(s, ms, b, false, bh || pt, pt, dg + 1, i + 1), rfl, rfl, by simp only [S105_0, decide_eq_true_eq]; omega, by simp only; omega, hf⟩
   ·rw [q1, q2, q3, cond_false, cond_false, cond_false] at hf
    rw [w64 (by omega)]
    exact ⟨(s, ms, b, fm, bh, pt, dg, i + 1), rfl, rfl, by simp only [S105_0, decide_eq_true_eq]; omega, by simp only; omega, hf⟩
  ·have h := of_decide_eq_false h
   rw [bz_end (by omega)] at hf
   obtain rfl : i = s.size := by omega
   exact hf pt
def s105 (s : ByteArray) (ms : ByteArray) : Bool × Value := (decide (s.size = ms.size ∧ s.size ≤ 1000), .bool (leadsZ (bz s) (bz ms)))
theorem fn105 : Fn1 Tryz.prog 240 Tryz.f240 := ⟨Tryz.func240, by kernel_rfl, by kernel_rfl, by kernel_rfl⟩
theorem v105 (s : ByteArray) (ms : ByteArray) (R : Value → Prop) : bodyQ Tryz.prog G4 (oneL 0 S105_0.h) Tryz.f240 [Enc.enc s, Enc.enc ms] (fun _ => none) 0 (fun v _ _ => R v) = ( bif decide (ByteArray.size s ≤ 9223372036854775807) && bif hasZ (bz s) 90 then decide (ByteArray.size s ≤ 9223372036854775807) && true else true then bif hasZ (bz s) 90 && hasZ (bz s) 42 then R (B false) else bif decide (ByteArray.size s ≤ 9223372036854775807) && bif hasZ (bz s) 90 then decide (ByteArray.size s ≤ 9223372036854775807) && true else decide (ByteArray.size s ≤ 9223372036854775807) && bif hasZ (bz s) 42 then decide (ByteArray.size s ≤ 9223372036854775807) && true else true then bif bif hasZ (bz s) 90 then drZ (bz s) != 0 else hasZ (bz s) 42 && drZ (bz s) != 0 then R (B false) else bif LSpec.pre S105_0 (s, ms, false, false, false, false, 0, 0) then bif Prod.fst (ldGo (List.drop (Int.toNat 0) (bz ms)) false false false 0) then ∀ (pt' : Bool) (x : Tmps), bif bif decide (Prod.snd (Prod.snd (Prod.snd (ldGo (List.drop (Int.toNat 0) (bz ms)) false false false 0))) ≥ 1) then bif decide (Prod.snd (Prod.snd (Prod.snd (ldGo (List.drop (Int.toNat 0) (bz ms)) false false false 0))) ≤ 9) then Prod.fst (Prod.snd (Prod.snd (ldGo (List.drop (Int.toNat 0) (bz ms)) false false false 0))) || true else true else true then R (B (decide (Prod.snd (Prod.snd (Prod.snd (ldGo (List.drop (Int.toNat 0) (bz ms)) false false false 0))) ≥ 1) && (decide (Prod.snd (Prod.snd (Prod.snd (ldGo (List.drop (Int.toNat 0) (bz ms)) false false false 0))) ≤ 9) && bif Prod.fst (Prod.snd (Prod.snd (ldGo (List.drop (Int.toNat 0) (bz ms)) false false false 0))) then !Prod.fst (Prod.snd (ldGo (List.drop (Int.toNat 0) (bz ms)) false false false 0)) else !false))) else False else ∀ (fm' bh' pt' : Bool) (dg' i' : Int) (x : Tmps), R (B false) else False else False else False) := by kernel_rfl
theorem ok105 : PureOK Tryz.prog 240 (sp2 s105) := by
 refine qure2 ok_G4 hmix fn105 l105_0 (Nat.le_of_ble_eq_true (by kernel_rfl)) fun s ms hc => ?_
 rw [DoesQ, v105]
 have hc : (s.size = ms.size ∧ s.size ≤ 1000) := of_decide_eq_true hc
 dsimp only [s105]
 have d : decide (s.size ≤ 9223372036854775807) = true := decide_eq_true (by omega)
 rw [d]
 refine c_t (by cases hasZ (bz s) 90 <;> rfl) (cond_intro (fun a => ?_) (fun a => ?_))
 ·simp only [leadsZ, a, cond_true]
 ·refine c_t (by cases hasZ (bz s) 90 <;> cases hasZ (bz s) 42 <;> rfl) ?_
  have e : (bif hasZ (bz s) 90 then drZ (bz s) != 0 else hasZ (bz s) 42 && drZ (bz s) != 0) = ((hasZ (bz s) 90 || hasZ (bz s) 42) && drZ (bz s) != 0) := by cases hasZ (bz s) 90 <;> cases hasZ (bz s) 42 <;> rfl
  rw [e]
  refine cond_intro (fun q => ?_) (fun q => ?_)
  ·simp only [leadsZ, a, q, cond_true, cond_false]
  ·refine c_t (by simp only [S105_0, decide_eq_true_eq]; omega) ?_
   rw [drop0]
   simp only [leadsZ, a, q, cond_false]
   generalize ldGo (bz ms) false false false 0 = w
   obtain ⟨w1, fm, bh, dg⟩ := w
   refine cond_intro (fun r pt' x => c_t ?_ ?_) (fun r _ _ _ _ _ _ => ?_)
   ·simp only
    cases decide (dg ≥ 1) <;> cases decide (dg ≤ 9) <;> cases bh <;> rfl
   ·simp only at r ⊢
    rw [r]
    cases fm <;> cases bh <;> rfl
   ·simp only at r ⊢
    rw [r]
    rfl
def b2i (b : Bool) : Int := if b then 1 else 0
def signsZ (s : List Int) : Int := b2i (crZ s) + b2i (hasZ (bodyZ s) 83) + b2i (hasZ (bodyZ s) 43) + b2i (hasZ (bodyZ s) 45) + cntZ (bodyZ s) 84 + cntZ (bodyZ s) 73 + cntZ (bodyZ s) 82
def s76 (s : ByteArray) : Bool × Value := (decide (s.size ≤ 1000), .int .i64 (signsZ (bz s)))
theorem fn76 : Fn1 Tryz.prog 200 Tryz.f200 := ⟨Tryz.func200, by kernel_rfl, by kernel_rfl, by kernel_rfl⟩
theorem v76 (s : ByteArray) (R : Value → Prop) : bodyQ Tryz.prog G4 noL Tryz.f200 [Enc.enc s] (fun _ => none) 0 (fun v _ _ => R v) = ( bif decide (ByteArray.size s ≤ 9223372036854775807) then bif crZ (bz s) then bif decide ((0 : Int) ≤ 0 ∧ 0 ≤ IntKind.wrap .i64 ((↑(ByteArray.size s) : Int) - 2) ∧ IntKind.wrap .i64 ((↑(ByteArray.size s) : Int) - 2) ≤ (↑(ByteArray.size s) : Int)) then bif decide (ByteArray.size (ByteArray.extract s 0 (Int.toNat (IntKind.wrap .i64 ((↑(ByteArray.size s) : Int) - 2)))) ≤ 9223372036854775807) then bif hasZ (bz (ByteArray.extract s 0 (Int.toNat (IntKind.wrap .i64 ((↑(ByteArray.size s) : Int) - 2))))) 83 then bif decide (ByteArray.size (ByteArray.extract s 0 (Int.toNat (IntKind.wrap .i64 ((↑(ByteArray.size s) : Int) - 2)))) ≤ 9223372036854775807) then bif hasZ (bz (ByteArray.extract s 0 (Int.toNat (IntKind.wrap .i64 ((↑(ByteArray.size s) : Int) - 2))))) 43 then bif decide (ByteArray.size (ByteArray.extract s 0 (Int.toNat (IntKind.wrap .i64 ((↑(ByteArray.size s) : Int) - 2)))) ≤ 9223372036854775807) then bif hasZ (bz (ByteArray.extract s 0 (Int.toNat (IntKind.wrap .i64 ((↑(ByteArray.size s) : Int) - 2))))) 45 then bif decide (ByteArray.size (ByteArray.extract s 0 (Int.toNat (IntKind.wrap .i64 ((↑(ByteArray.size s) : Int) - 2)))) ≤ 9223372036854775807) then bif decide (ByteArray.size (ByteArray.extract s 0 (Int.toNat (IntKind.wrap .i64 ((↑(ByteArray.size s) : Int) - 2)))) ≤ 9223372036854775807) then bif decide (ByteArray.size (ByteArray.extract s 0 (Int.toNat (IntKind.wrap .i64 ((↑(ByteArray.size s) : Int) - 2)))) ≤ 9223372036854775807) then R (I (IntKind.wrap .i64 (IntKind.wrap .i64 (IntKind.wrap .i64 (4 + (↑(cntZ (bz (ByteArray.extract s 0 (Int.toNat (IntKind.wrap .i64 ((↑(ByteArray.size s) : Int) - 2))))) 84) : Int)) + (↑(cntZ (bz (ByteArray.extract s 0 (Int.toNat (IntKind.wrap .i64 ((↑(ByteArray.size s) : Int) - 2))))) 73) : Int)) + (↑(cntZ (bz (ByteArray.extract s 0 (Int.toNat (IntKind.wrap .i64 ((↑(ByteArray.size s) : Int) - 2))))) 82) : Int)))) else False else False else False else bif decide (ByteArray.size (ByteArray.extract s 0 (Int.toNat (IntKind.wrap .i64 ((↑(ByteArray.size s) : Int) - 2)))) ≤ 9223372036854775807) then bif decide (ByteArray.size (ByteArray.extract s 0 (Int.toNat (IntKind.wrap .i64 ((↑(ByteArray.size s) : Int) - 2)))) ≤ 9223372036854775807) then bif decide (ByteArray.size (ByteArray.extract s 0 (Int.toNat (IntKind.wrap .i64 ((↑(ByteArray.size s) : Int) - 2)))) ≤ 9223372036854775807) then R (I (IntKind.wrap .i64 (IntKind.wrap .i64 (IntKind.wrap .i64 (3 + (↑(cntZ (bz (ByteArray.extract s 0 (Int.toNat (IntKind.wrap .i64 ((↑(ByteArray.size s) : Int) - 2))))) 84) : Int)) + (↑(cntZ (bz (ByteArray.extract s 0 (Int.toNat (IntKind.wrap .i64 ((↑(ByteArray.size s) : Int) - 2))))) 73) : Int)) + (↑(cntZ (bz (ByteArray.extract s 0 (Int.toNat (IntKind.wrap .i64 ((↑(ByteArray.size s) : Int) - 2))))) 82) : Int)))) else False else False else False else False else bif decide (ByteArray.size (ByteArray.extract s 0 (Int.toNat (IntKind.wrap .i64 ((↑(ByteArray.size s) : Int) - 2)))) ≤ 9223372036854775807) then bif hasZ (bz (ByteArray.extract s 0 (Int.toNat (IntKind.wrap .i64 ((↑(ByteArray.size s) : Int) - 2))))) 45 then bif decide (ByteArray.size (ByteArray.extract s 0 (Int.toNat (IntKind.wrap .i64 ((↑(ByteArray.size s) : Int) - 2)))) ≤ 9223372036854775807) then bif decide (ByteArray.size (ByteArray.extract s 0 (Int.toNat (IntKind.wrap .i64 ((↑(ByteArray.size s) : Int) - 2)))) ≤ 9223372036854775807) then bif decide (ByteArray.size (ByteArray.extract s 0 (Int.toNat (IntKind.wrap .i64 ((↑(ByteArray.size s) : Int) - 2)))) ≤ 9223372036854775807) then R (I (IntKind.wrap .i64 (IntKind.wrap .i64 (IntKind.wrap .i64 (3 + (↑(cntZ (bz (ByteArray.extract s 0 (Int.toNat (IntKind.wrap .i64 ((↑(ByteArray.size s) : Int) - 2))))) 84) : Int)) + (↑(cntZ (bz (ByteArray.extract s 0 (Int.toNat (IntKind.wrap .i64 ((↑(ByteArray.size s) : Int) - 2))))) 73) : Int)) + (↑(cntZ (bz (ByteArray.extract s 0 (Int.toNat (IntKind.wrap .i64 ((↑(ByteArray.size s) : Int) - 2))))) 82) : Int)))) else False else False else False else bif decide (ByteArray.size (ByteArray.extract s 0 (Int.toNat (IntKind.wrap .i64 ((↑(ByteArray.size s) : Int) - 2)))) ≤ 9223372036854775807) then bif decide (ByteArray.size (ByteArray.extract s 0 (Int.toNat (IntKind.wrap .i64 ((↑(ByteArray.size s) : Int) - 2)))) ≤ 9223372036854775807) then bif decide (ByteArray.size (ByteArray.extract s 0 (Int.toNat (IntKind.wrap .i64 ((↑(ByteArray.size s) : Int) - 2)))) ≤ 9223372036854775807) then R (I (IntKind.wrap .i64 (IntKind.wrap .i64 (IntKind.wrap .i64 (2 + (↑(cntZ (bz (ByteArray.extract s 0 (Int.toNat (IntKind.wrap .i64 ((↑(ByteArray.size s) : Int) - 2))))) 84) : Int)) + (↑(cntZ (bz (ByteArray.extract s 0 (Int.toNat (IntKind.wrap .i64 ((↑(ByteArray.size s) : Int) - 2))))) 73) : Int)) + (↑(cntZ (bz (ByteArray.extract s 0 (Int.toNat (IntKind.wrap .i64 ((↑(ByteArray.size s) : Int) - 2))))) 82) : Int)))) else False else False else False else False else False else bif decide (ByteArray.size (ByteArray.extract s 0 (Int.toNat (IntKind.wrap .i64 ((↑(ByteArray.size s) : Int) - 2)))) ≤ 9223372036854775807) then bif hasZ (bz (ByteArray.extract s 0 (Int.toNat (IntKind.wrap .i64 ((↑(ByteArray.size s) : Int) - 2))))) 43 then bif decide (ByteArray.size (ByteArray.extract s 0 (Int.toNat (IntKind.wrap .i64 ((↑(ByteArray.size s) : Int) - 2)))) ≤ 9223372036854775807) then bif hasZ (bz (ByteArray.extract s 0 (Int.toNat (IntKind.wrap .i64 ((↑(ByteArray.size s) : Int) - 2))))) 45 then bif decide (ByteArray.size (ByteArray.extract s 0 (Int.toNat (IntKind.wrap .i64 ((↑(ByteArray.size s) : Int) - 2)))) ≤ 9223372036854775807) then bif decide (ByteArray.size (ByteArray.extract s 0 (Int.toNat (IntKind.wrap .i64 ((↑(ByteArray.size s) : Int) - 2)))) ≤ 9223372036854775807) then bif decide (ByteArray.size (ByteArray.extract s 0 (Int.toNat (IntKind.wrap .i64 ((↑(ByteArray.size s) : Int) - 2)))) ≤ 9223372036854775807) then R (I (IntKind.wrap .i64 (IntKind.wrap .i64 (IntKind.wrap .i64 (3 + (↑(cntZ (bz (ByteArray.extract s 0 (Int.toNat (IntKind.wrap .i64 ((↑(ByteArray.size s) : Int) - 2))))) 84) : Int)) + (↑(cntZ (bz (ByteArray.extract s 0 (Int.toNat (IntKind.wrap .i64 ((↑(ByteArray.size s) : Int) - 2))))) 73) : Int)) + (↑(cntZ (bz (ByteArray.extract s 0 (Int.toNat (IntKind.wrap .i64 ((↑(ByteArray.size s) : Int) - 2))))) 82) : Int)))) else False else False else False else bif decide (ByteArray.size (ByteArray.extract s 0 (Int.toNat (IntKind.wrap .i64 ((↑(ByteArray.size s) : Int) - 2)))) ≤ 9223372036854775807) then bif decide (ByteArray.size (ByteArray.extract s 0 (Int.toNat (IntKind.wrap .i64 ((↑(ByteArray.size s) : Int) - 2)))) ≤ 9223372036854775807) then bif decide (ByteArray.size (ByteArray.extract s 0 (Int.toNat (IntKind.wrap .i64 ((↑(ByteArray.size s) : Int) - 2)))) ≤ 9223372036854775807) then R (I (IntKind.wrap .i64 (IntKind.wrap .i64 (IntKind.wrap .i64 (2 + (↑(cntZ (bz (ByteArray.extract s 0 (Int.toNat (IntKind.wrap .i64 ((↑(ByteArray.size s) : Int) - 2))))) 84) : Int)) + (↑(cntZ (bz (ByteArray.extract s 0 (Int.toNat (IntKind.wrap .i64 ((↑(ByteArray.size s) : Int) - 2))))) 73) : Int)) + (↑(cntZ (bz (ByteArray.extract s 0 (Int.toNat (IntKind.wrap .i64 ((↑(ByteArray.size s) : Int) - 2))))) 82) : Int)))) else False else False else False else False else bif decide (ByteArray.size (ByteArray.extract s 0 (Int.toNat (IntKind.wrap .i64 ((↑(ByteArray.size s) : Int) - 2)))) ≤ 9223372036854775807) then bif hasZ (bz (ByteArray.extract s 0 (Int.toNat (IntKind.wrap .i64 ((↑(ByteArray.size s) : Int) - 2))))) 45 then bif decide (ByteArray.size (ByteArray.extract s 0 (Int.toNat (IntKind.wrap .i64 ((↑(ByteArray.size s) : Int) - 2)))) ≤ 9223372036854775807) then bif decide (ByteArray.size (ByteArray.extract s 0 (Int.toNat (IntKind.wrap .i64 ((↑(ByteArray.size s) : Int) - 2)))) ≤ 9223372036854775807) then bif decide (ByteArray.size (ByteArray.extract s 0 (Int.toNat (IntKind.wrap .i64 ((↑(ByteArray.size s) : Int) - 2)))) ≤ 9223372036854775807) then R (I (IntKind.wrap .i64 (IntKind.wrap .i64 (IntKind.wrap .i64 (2 + (↑(cntZ (bz (ByteArray.extract s 0 (Int.toNat (IntKind.wrap .i64 ((↑(ByteArray.size s) : Int) - 2))))) 84) : Int)) + (↑(cntZ (bz (ByteArray.extract s 0 (Int.toNat (IntKind.wrap .i64 ((↑(ByteArray.size s) : Int) - 2))))) 73) : Int)) + (↑(cntZ (bz (ByteArray.extract s 0 (Int.toNat (IntKind.wrap .i64 ((↑(ByteArray.size s) : Int) - 2))))) 82) : Int)))) else False else False else False else bif decide (ByteArray.size (ByteArray.extract s 0 (Int.toNat (IntKind.wrap .i64 ((↑(ByteArray.size s) : Int) - 2)))) ≤ 9223372036854775807) then bif decide (ByteArray.size (ByteArray.extract s 0 (Int.toNat (IntKind.wrap .i64 ((↑(ByteArray.size s) : Int) - 2)))) ≤ 9223372036854775807) then bif decide (ByteArray.size (ByteArray.extract s 0 (Int.toNat (IntKind.wrap .i64 ((↑(ByteArray.size s) : Int) - 2)))) ≤ 9223372036854775807) then R (I (IntKind.wrap .i64 (IntKind.wrap .i64 (IntKind.wrap .i64 (1 + (↑(cntZ (bz (ByteArray.extract s 0 (Int.toNat (IntKind.wrap .i64 ((↑(ByteArray.size s) : Int) - 2))))) 84) : Int)) + (↑(cntZ (bz (ByteArray.extract s 0 (Int.toNat (IntKind.wrap .i64 ((↑(ByteArray.size s) : Int) - 2))))) 73) : Int)) + (↑(cntZ (bz (ByteArray.extract s 0 (Int.toNat (IntKind.wrap .i64 ((↑(ByteArray.size s) : Int) - 2))))) 82) : Int)))) else False else False else False else False else False else False else False else bif decide (ByteArray.size s ≤ 9223372036854775807) then bif hasZ (bz s) 83 then bif decide (ByteArray.size s ≤ 9223372036854775807) then bif hasZ (bz s) 43 then bif decide (ByteArray.size s ≤ 9223372036854775807) then bif hasZ (bz s) 45 then bif decide (ByteArray.size s ≤ 9223372036854775807) then bif decide (ByteArray.size s ≤ 9223372036854775807) then bif decide (ByteArray.size s ≤ 9223372036854775807) then R (I (IntKind.wrap .i64 (IntKind.wrap .i64 (IntKind.wrap .i64 (3 + (↑(cntZ (bz s) 84) : Int)) + (↑(cntZ (bz s) 73) : Int)) + (↑(cntZ (bz s) 82) : Int)))) else False else False else False else bif decide (ByteArray.size s ≤ 9223372036854775807) then bif decide (ByteArray.size s ≤ 9223372036854775807) then bif decide (ByteArray.size s ≤ 9223372036854775807) then R (I (IntKind.wrap .i64 (IntKind.wrap .i64 (IntKind.wrap .i64 (2 + (↑(cntZ (bz s) 84) : Int)) + (↑(cntZ (bz s) 73) : Int)) + (↑(cntZ (bz s) 82) : Int)))) else False else False else False else False else bif decide (ByteArray.size s ≤ 9223372036854775807) then bif hasZ (bz s) 45 then bif decide (ByteArray.size s ≤ 9223372036854775807) then bif decide (ByteArray.size s ≤ 9223372036854775807) then bif decide (ByteArray.size s ≤ 9223372036854775807) then R (I (IntKind.wrap .i64 (IntKind.wrap .i64 (IntKind.wrap .i64 (2 + (↑(cntZ (bz s) 84) : Int)) + (↑(cntZ (bz s) 73) : Int)) + (↑(cntZ (bz s) 82) : Int)))) else False else False else False else bif decide (ByteArray.size s ≤ 9223372036854775807) then bif decide (ByteArray.size s ≤ 9223372036854775807) then bif decide (ByteArray.size s ≤ 9223372036854775807) then R (I (IntKind.wrap .i64 (IntKind.wrap .i64 (IntKind.wrap .i64 (1 + (↑(cntZ (bz s) 84) : Int)) + (↑(cntZ (bz s) 73) : Int)) + (↑(cntZ (bz s) 82) : Int)))) else False else False else False else False else False else bif decide (ByteArray.size s ≤ 9223372036854775807) then bif hasZ (bz s) 43 then bif decide (ByteArray.size s ≤ 9223372036854775807) then bif hasZ (bz s) 45 then bif decide (ByteArray.size s ≤ 9223372036854775807) then bif decide (ByteArray.size s ≤ 9223372036854775807) then bif decide (ByteArray.size s ≤ 9223372036854775807) then R (I (IntKind.wrap .i64 (IntKind.wrap .i64 (IntKind.wrap .i64 (2 + (↑(cntZ (bz s) 84) : Int)) + (↑(cntZ (bz s) 73) : Int)) + (↑(cntZ (bz s) 82) : Int)))) else False else False else False else bif decide (ByteArray.size s ≤ 9223372036854775807) then bif decide (ByteArray.size s ≤ 9223372036854775807) then bif decide (ByteArray.size s ≤ 9223372036854775807) then R (I (IntKind.wrap .i64 (IntKind.wrap .i64 (IntKind.wrap .i64 (1 + (↑(cntZ (bz s) 84) : Int)) + (↑(cntZ (bz s) 73) : Int)) + (↑(cntZ (bz s) 82) : Int)))) else False else False else False else False else bif decide (ByteArray.size s ≤ 9223372036854775807) then bif hasZ (bz s) 45 then bif decide (ByteArray.size s ≤ 9223372036854775807) then bif decide (ByteArray.size s ≤ 9223372036854775807) then bif decide (ByteArray.size s ≤ 9223372036854775807) then R (I (IntKind.wrap .i64 (IntKind.wrap .i64 (IntKind.wrap .i64 (1 + (↑(cntZ (bz s) 84) : Int)) + (↑(cntZ (bz s) 73) : Int)) + (↑(cntZ (bz s) 82) : Int)))) else False else False else False else bif decide (ByteArray.size s ≤ 9223372036854775807) then bif decide (ByteArray.size s ≤ 9223372036854775807) then bif decide (ByteArray.size s ≤ 9223372036854775807) then R (I (IntKind.wrap .i64 (IntKind.wrap .i64 (IntKind.wrap .i64 (0 + (↑(cntZ (bz s) 84) : Int)) + (↑(cntZ (bz s) 73) : Int)) + (↑(cntZ (bz s) 82) : Int)))) else False else False else False else False else False else False else False) := by kernel_rfl
theorem ok76 : PureOK Tryz.prog 200 (sp1 s76) := by
 refine qure1 ok_G4 hmix fn76 lokf_none (Nat.le_of_ble_eq_true (by kernel_rfl)) fun s hc => ?_
 rw [DoesQ, v76]
 have hc : (s.size ≤ 1000) := of_decide_eq_true hc
 dsimp only [s76]
 refine c_t (decide_eq_true (by omega)) (cond_intro (fun hcr => ?_) (fun hcr => ?_))
 ·have h2 : 2 ≤ s.size := by
   simp only [crZ, Bool.and_eq_true, decide_eq_true_eq, bz_length] at hcr
   exact hcr.1
  have e : ((s.size : Int) - 2).toNat = s.size - 2 := by omega
  rw [w64 (n := (s.size : Int) - 2) (by omega), e]
  have eb : bz (s.extract 0 (s.size - 2)) = (bz s).take (s.size - 2) := by rw [bz_extract]; simp
  have hbs : (s.extract 0 (s.size - 2)).size = s.size - 2 := by rw [← bz_length, eb, List.length_take, bz_length]; omega
  have hB : bodyZ (bz s) = bz (s.extract 0 (s.size - 2)) := by simp [bodyZ, hcr, eb]
  clear eb
  generalize s.extract 0 (s.size - 2) = b at *
  have n1 := cnt_le (bz b) 84
  have n2 := cnt_le (bz b) 73
  have n3 := cnt_le (bz b) 82
  rw [bz_length] at n1 n2 n3
  refine c_t (decide_eq_true (by omega)) ?_
  repeat' (first | refine c_t (decide_eq_true (by omega)) ?_ | refine cond_intro (fun _ => ?_) (fun _ => ?_))
  all_goals
   simp only [signsZ, hB, hcr, b2i, *]
   rw [w3 (by omega) (by omega) (by omega) (by omega)]
   congr 1
 ·have hB : bodyZ (bz s) = bz s := by simp [bodyZ, hcr]
  have n1 := cnt_le (bz s) 84
  have n2 := cnt_le (bz s) 73
  have n3 := cnt_le (bz s) 82
  rw [bz_length] at n1 n2 n3
  repeat' (first | refine c_t (decide_eq_true (by omega)) ?_ | refine cond_intro (fun _ => ?_) (fun _ => ?_))
  all_goals
   simp only [signsZ, hB, hcr, b2i, *]
   rw [w3 (by omega) (by omega) (by omega) (by omega)]
   congr 1
def G5 : Env := ((((G4.add 196 (sp1 s45)).add 239 (sp1 s104)).add 240 (sp2 s105)).add 200 (sp1 s76))
theorem ok_G5 : EnvOK Tryz.prog G5 := env_add (env_add (env_add (env_add (ok_G4) ok45) ok104) ok105) ok76
def stIn (dr i : Int) : List Int → List Int → Int → Bool → Bool → Bool × Bool
 | c :: cs, m :: ms, j, a, b => bif m == 100 || (m == 99 || c == dr) then stIn dr i cs ms (j + 1) (a || decide (j < i)) (b || decide (j > i)) else stIn dr i cs ms (j + 1) a b
 | _, _, _, a, b => (a, b)
def stGo (dr : Int) (body ms : List Int) : List Int → Int → Bool
 | [], _ => true
 | c :: r, i => (bif !hasZ [36, 83, 43, 45] c || c == dr then true else !((stIn dr i body ms 0 false false).1 && (stIn dr i body ms 0 false false).2)) && stGo dr body ms r (i + 1)
def statsZ (body ms : List Int) : Bool := stGo (drZ body) body ms body 0
def V106_2 : ByteArray × ByteArray × Bool × Int × Int × Bool × Bool × Int → List Value := fun (s, ms, b, dr, i, a, bh, j) => [S s, S ms, B b, C8 dr, I i, B a, B bh, I j]
def B106_2 : ByteArray × ByteArray × Bool × Int × Int × Bool × Bool × Int → List (Option Blk) := fun _ => []
def S106_2 : LSpec (ByteArray × ByteArray × Bool × Int × Int × Bool × Bool × Int) where
 live := [0, 1, 4, 5, 6, 7, 8, 9]
 mid := []
 n := 200
 dec vs bs := match vs, bs with | [.string s, .string ms, .bool b, .int .u8 dr, .int .i64 i, .bool a, .bool bh, .int .i64 j], [] => some (s, ms, b, dr, i, a, bh, j) | _, _ => none
 pre := fun (s, ms, b, dr, i, a, bh, j) => decide (0 ≤ j ∧ j ≤ s.size ∧ s.size = ms.size ∧ s.size ≤ 1000)
 fin := fun (s, ms, b, dr, i, a, bh, j) Z => Z (.exit 2) [S s, S ms, B b, C8 dr, I i, B (stIn dr i ((bz s).drop j.toNat) ((bz ms).drop j.toNat) j a bh).1, B (stIn dr i ((bz s).drop j.toNat) ((bz ms).drop j.toNat) j a bh).2, I s.size] []
theorem r106_2 (s : ByteArray) (ms : ByteArray) (b : Bool) (dr : Int) (i : Int) (a : Bool) (bh : Bool) (j : Int) (jk : Tmps) (R : Exit → List Value → List (Option Blk) → Prop) : (codeQ Tryz.prog G5 noL Tryz.f241.ntmps (loopOf Tryz.f241 2) (tl S106_2.live (V106_2 (s, ms, b, dr, i, a, bh, j)) jk) (ml S106_2.mid (B106_2 (s, ms, b, dr, i, a, bh, j))) S106_2.n fun e t' m' _ => R e (List.map t' S106_2.live) (List.map m' S106_2.mid)) = ( bif decide (j < (↑(ByteArray.size s) : Int)) then bif decide (0 ≤ j ∧ j < (↑(ByteArray.size ms) : Int)) && (byteAt ms (Int.toNat j) == 100 || decide (0 ≤ j ∧ j < (↑(ByteArray.size ms) : Int)) && (byteAt ms (Int.toNat j) == 99 || decide (0 ≤ j ∧ j < (↑(ByteArray.size s) : Int)) && true)) then bif byteAt ms (Int.toNat j) == 100 || (byteAt ms (Int.toNat j) == 99 || byteAt s (Int.toNat j) == dr) then bif a || true then bif bh || true then R Exit.normal [S s, S ms, B b, .int .u8 dr, I i, B (a || decide (j < i)), B (bh || decide (j > i)), I (IntKind.wrap .i64 (j + 1))] [] else False else False else R Exit.normal [S s, S ms, B b, .int .u8 dr, I i, B a, B bh, I (IntKind.wrap .i64 (j + 1))] [] else False else R (Exit.exit 2) [S s, S ms, B b, .int .u8 dr, I i, B a, B bh, I j] []) := by kernel_rfl
theorem l106_2 : ∀ t m n K, S106_2.h t m n K → Ab.Sem Tryz.prog Tryz.f241.ntmps (.loop (loopOf Tryz.f241 2)) t m n K := by
 refine loop_specQ ok_G5 hmix (by kernel_rfl) (lok_none _) S106_2 V106_2 B106_2 (fun (s, ms, b, dr, i, a, bh, j) => (s.size - j).toNat) ?_ ?_ ?_
 ·intro vs bs s h
  simp only [S106_2] at h
  split at h
  all_goals first | (cases h; exact ⟨rfl, rfl⟩) | cases h
 ·exact fun _ _ _ h => h
 ·intro ⟨s, ms, b, dr, i, a, bh, j⟩ jk Z hp hf
  rw [r106_2]
  simp only [S106_2] at hp hf
  simp only [decide_eq_true_eq] at hp
  refine cond_intro (fun h => ?_) (fun h => ?_)
  ·have h := of_decide_eq_true h
   rw [bz_at hp.1 h, bz_at (s := ms) hp.1 (by omega), stIn] at hf
   have h1 : decide (0 ≤ j ∧ j < (ms.size : Int)) = true := decide_eq_true (by omega)
   have h2 : decide (0 ≤ j ∧ j < (s.size : Int)) = true := decide_eq_true (by omega)
   rw [w64 (n := j + 1) (by omega)]
   refine c_t (by rw [h1, h2]; simp) (cond_intro (fun q => ?_) (fun q => ?_))
   ·rw [q, cond_true] at hf
    exact c_t (by simp) (c_t (by simp) ⟨(s, ms, b, dr, i, _, _, j + 1), rfl, rfl, by simp only [S106_2, decide_eq_true_eq]; omega, by simp only; omega, hf⟩)
   ·rw [q, cond_false] at hf
    exact ⟨(s, ms, b, dr, i, a, bh, j + 1), rfl, rfl, by simp only [S106_2, decide_eq_true_eq]; omega, by simp only; omega, hf⟩
  ·have h := of_decide_eq_false h
   rw [bz_end (s := s) (by omega)] at hf
   obtain rfl : j = s.size := by omega
   exact hf
theorem lk106 : LOK Tryz.prog (oneL 2 S106_2.h) Tryz.f241.ntmps (loopOf Tryz.f241 0) := lok_one (by kernel_rfl) l106_2
def V106_0 : ByteArray × ByteArray × Bool × Int × Int → List Value := fun (s, ms, b, dr, i) => [S s, S ms, B b, C8 dr, I i]
def B106_0 : ByteArray × ByteArray × Bool × Int × Int → List (Option Blk) := fun _ => []
def S106_0 : LSpec (ByteArray × ByteArray × Bool × Int × Int) where
 live := [0, 1, 4, 5, 6]
 mid := []
 n := 100
 dec vs bs := match vs, bs with | [.string s, .string ms, .bool b, .int .u8 dr, .int .i64 i], [] => some (s, ms, b, dr, i) | _, _ => none
 pre := fun (s, ms, b, dr, i) => decide (0 ≤ i ∧ i ≤ s.size ∧ s.size = ms.size ∧ s.size ≤ 1000)
 fin := fun (s, ms, b, dr, i) Z => (bif stGo dr (bz s) (bz ms) ((bz s).drop i.toNat) i then Z (.exit 0) [S s, S ms, B b, C8 dr, I s.size] [] else (∀ i', Z .ret [S s, S ms, B false, C8 dr, I i'] []))
theorem r106_0 (s : ByteArray) (ms : ByteArray) (b : Bool) (dr : Int) (i : Int) (jk : Tmps) (R : Exit → List Value → List (Option Blk) → Prop) : (codeQ Tryz.prog G5 (oneL 2 S106_2.h) Tryz.f241.ntmps (loopOf Tryz.f241 0) (tl S106_0.live (V106_0 (s, ms, b, dr, i)) jk) (ml S106_0.mid (B106_0 (s, ms, b, dr, i))) S106_0.n fun e t' m' _ => R e (List.map t' S106_0.live) (List.map m' S106_0.mid)) = ( bif decide (i < (↑(ByteArray.size s) : Int)) then bif decide (0 ≤ i ∧ i < (↑(ByteArray.size s) : Int)) && (!hasZ (bz (ByteArray.mk #[36, 83, 43, 45])) (byteAt s (Int.toNat i)) || decide (0 ≤ i ∧ i < (↑(ByteArray.size s) : Int)) && true) then bif !hasZ (bz (ByteArray.mk #[36, 83, 43, 45])) (byteAt s (Int.toNat i)) || byteAt s (Int.toNat i) == dr then R Exit.normal [S s, S ms, B b, .int .u8 dr, I (IntKind.wrap .i64 (i + 1))] [] else bif LSpec.pre S106_2 (s, ms, b, dr, i, false, false, 0) then ∀ (x : Tmps), bif Prod.fst (stIn dr i (List.drop (Int.toNat 0) (bz s)) (List.drop (Int.toNat 0) (bz ms)) 0 false false) || true then bif Prod.fst (stIn dr i (List.drop (Int.toNat 0) (bz s)) (List.drop (Int.toNat 0) (bz ms)) 0 false false) && Prod.snd (stIn dr i (List.drop (Int.toNat 0) (bz s)) (List.drop (Int.toNat 0) (bz ms)) 0 false false) then R Exit.ret [S s, S ms, B false, .int .u8 dr, I i] [] else R Exit.normal [S s, S ms, B b, .int .u8 dr, I (IntKind.wrap .i64 (i + 1))] [] else False else False else False else R (Exit.exit 0) [S s, S ms, B b, .int .u8 dr, I i] []) := by kernel_rfl
theorem l106_0 : ∀ t m n K, S106_0.h t m n K → Ab.Sem Tryz.prog Tryz.f241.ntmps (.loop (loopOf Tryz.f241 0)) t m n K := by
 refine loop_specQ ok_G5 hmix (by kernel_rfl) lk106 S106_0 V106_0 B106_0 (fun (s, ms, b, dr, i) => (s.size - i).toNat) ?_ ?_ ?_
 ·intro vs bs s h
  simp only [S106_0] at h
  split at h
  all_goals first | (cases h; exact ⟨rfl, rfl⟩) | cases h
 ·exact fun _ _ _ h => h
 ·intro ⟨s, ms, b, dr, i⟩ jk Z hp hf
  rw [r106_0]
  simp only [S106_0] at hp hf
  simp only [decide_eq_true_eq] at hp
  refine cond_intro (fun h => ?_) (fun h => ?_)
  ·have h := of_decide_eq_true h
   rw [bz_at hp.1 h, stGo] at hf
   have h1 : decide (0 ≤ i ∧ i < (s.size : Int)) = true := decide_eq_true (by omega)
   have k : bz ⟨#[36, 83, 43, 45]⟩ = [36, 83, 43, 45] := rfl
   rw [k]
   refine c_t (by rw [h1]; simp) (cond_intro (fun q => ?_) (fun q => c_t ?_ (fun x => c_t (by simp) ?_)))
   ·rw [q, cond_true, Bool.true_and] at hf
    rw [w64 (by omega)]
    exact ⟨(s, ms, b, dr, i + 1), rfl, rfl, by simp only [S106_0, decide_eq_true_eq]; omega, by simp only; omega, hf⟩
   ·simp only [S106_2, decide_eq_true_eq]
    omega
   ·rw [q, cond_false] at hf
    rw [drop0, drop0]
    refine cond_intro (fun w => ?_) (fun w => ?_)
    ·rw [w] at hf
     exact hf i
    ·rw [w, Bool.not_false, Bool.true_and] at hf
     rw [w64 (by omega)]
     exact ⟨(s, ms, b, dr, i + 1), rfl, rfl, by simp only [S106_0, decide_eq_true_eq]; omega, by simp only; omega, hf⟩
  ·have h := of_decide_eq_false h
   rw [bz_end (by omega)] at hf
   obtain rfl : i = s.size := by omega
   exact hf
theorem lok106 : LOKf Tryz.prog (oneL 0 S106_0.h) Tryz.f241 := lokf_one (by kernel_rfl) l106_0
def s106 (s : ByteArray) (ms : ByteArray) : Bool × Value := (decide (s.size = ms.size ∧ s.size ≤ 1000), .bool (statsZ (bz s) (bz ms)))
theorem fn106 : Fn1 Tryz.prog 241 Tryz.f241 := ⟨Tryz.func241, by kernel_rfl, by kernel_rfl, by kernel_rfl⟩
theorem v106 (s : ByteArray) (ms : ByteArray) (R : Value → Prop) : bodyQ Tryz.prog G5 (oneL 0 S106_0.h) Tryz.f241 [Enc.enc s, Enc.enc ms] (fun _ => none) 0 (fun v _ _ => R v) = ( bif decide (ByteArray.size s ≤ 9223372036854775807) then bif LSpec.pre S106_0 (s, ms, false, drZ (bz s), 0) then bif stGo (drZ (bz s)) (bz s) (bz ms) (List.drop (Int.toNat 0) (bz s)) 0 then ∀ (x : Tmps), R (B true) else ∀ (i' : Int) (x : Tmps), R (B false) else False else False) := by kernel_rfl
theorem ok106 : PureOK Tryz.prog 241 (sp2 s106) := by
 refine qure2 ok_G5 hmix fn106 lok106 (Nat.le_of_ble_eq_true (by kernel_rfl)) fun s ms hc => ?_
 rw [DoesQ, v106]
 have hc : (s.size = ms.size ∧ s.size ≤ 1000) := of_decide_eq_true hc
 dsimp only [s106]
 refine c_t (decide_eq_true (by omega)) (c_t (by simp only [S106_0, decide_eq_true_eq]; omega) ?_)
 rw [drop0]
 exact cond_intro (fun h _ => by simp only [statsZ, h]) (fun h _ _ => by simp only [statsZ, h])
theorem mk_len (dr : Int) : ∀ (l : List Int) (b : Bool), (mkGo dr b l).length = l.length
 | [], _ => rfl
 | c :: r, b => by simp only [mkGo, List.length_cons, mk_len dr r]
theorem marks_len (l : List Int) : (marksZ l).length = l.length := by
 unfold marksZ bodyZ
 cases h : crZ l with
 | false => simp [mk_len]
 | true =>
  have : 2 ≤ l.length := by
   simp only [crZ, Bool.and_eq_true, decide_eq_true_eq] at h
   exact h.1
  simp [mk_len]
  omega
theorem mk1_rng (dr : Int) (b : Bool) (c : Int) : 0 ≤ mk1 dr b c ∧ mk1 dr b c < 256 := by
 unfold mk1
 cases hasZ [57, 89, 84, 73, 82] c <;> cases (hasZ [90, 42] c || (dr != 0 && (c == dr && b))) <;> cases (c == 86) <;> cases (c == 36) <;> cases hasZ [83, 43, 45] c <;> decide
theorem mk_isB (dr : Int) : ∀ (l : List Int) (b : Bool), IsB (mkGo dr b l)
 | [], _ => IsB.nil
 | c :: r, b => IsB.cons (mk1_rng dr b c) (mk_isB dr r _)
theorem marks_isB (l : List Int) : IsB (marksZ l) := by
 unfold marksZ
 refine (mk_isB _ _ _).append ?_
 split
 ·intro c hc
  simp at hc
  omega
 ·exact IsB.nil
def numV (s : List Int) : Bool := !charZ s && (!(bodyZ s).any (hasZ [65, 88, 67, 68]) && (decide ((cntZ (bodyZ s) 86 : Int) ≤ 1) && (driftsZ (bodyZ s) && (leadsZ (bodyZ s) (marksZ (bodyZ s)) && (decide (signsZ s ≤ 1) && statsZ (bodyZ s) (marksZ (bodyZ s)))))))
def G6 : Env := (G5.add 241 (sp2 s106))
theorem ok_G6 : EnvOK Tryz.prog G6 := env_add (ok_G5) ok106
def V74_0 : ByteArray × Bool × ByteArray × Int → List Value := fun (s, b, d, i) => [S s, B b, S d, I i]
def B74_0 : ByteArray × Bool × ByteArray × Int → List (Option Blk) := fun _ => []
def S74_0 : LSpec (ByteArray × Bool × ByteArray × Int) where
 live := [0, 2, 3, 4]
 mid := []
 n := 80
 dec vs bs := match vs, bs with | [.string s, .bool b, .string d, .int .i64 i], [] => some (s, b, d, i) | _, _ => none
 pre := fun (s, b, d, i) => decide (0 ≤ i ∧ i ≤ d.size ∧ d.size ≤ 1000)
 fin := fun (s, b, d, i) Z => (bif ((bz d).drop i.toNat).any (hasZ [65, 88, 67, 68]) then (∀ i', Z .ret [S s, B false, S d, I i'] []) else Z (.exit 0) [S s, B b, S d, I d.size] [])
theorem r74_0 (s : ByteArray) (b : Bool) (d : ByteArray) (i : Int) (jk : Tmps) (R : Exit → List Value → List (Option Blk) → Prop) : (codeQ Tryz.prog G6 noL Tryz.f198.ntmps (loopOf Tryz.f198 0) (tl S74_0.live (V74_0 (s, b, d, i)) jk) (ml S74_0.mid (B74_0 (s, b, d, i))) S74_0.n fun e t' m' _ => R e (List.map t' S74_0.live) (List.map m' S74_0.mid)) = ( bif decide (i < (↑(ByteArray.size d) : Int)) then bif decide (0 ≤ i ∧ i < (↑(ByteArray.size d) : Int)) then bif hasZ (bz (ByteArray.mk #[65, 88, 67, 68])) (byteAt d (Int.toNat i)) then R Exit.ret [S s, B false, S d, I i] [] else R Exit.normal [S s, B b, S d, I (IntKind.wrap .i64 (i + 1))] [] else False else R (Exit.exit 0) [S s, B b, S d, I i] []) := by kernel_rfl
theorem l74_0 : LOKf Tryz.prog (oneL 0 S74_0.h) Tryz.f198 := by
 refine lokf_one (h := S74_0.h) (by kernel_rfl) (loop_specQ ok_G6 hmix (by kernel_rfl) (lok_none _) S74_0 V74_0 B74_0 (fun (s, b, d, i) => (d.size - i).toNat) ?_ ?_ ?_)
 ·intro vs bs s h
  simp only [S74_0] at h
  split at h
  all_goals first | (cases h; exact ⟨rfl, rfl⟩) | cases h
 ·exact fun _ _ _ h => h
 ·intro ⟨s, b, d, i⟩ jk Z hp hf
  rw [r74_0]
  simp only [S74_0] at hp hf
  simp only [decide_eq_true_eq] at hp
  refine cond_intro (fun h => ?_) (fun h => ?_)
  ·have h := of_decide_eq_true h
   rw [bz_at hp.1 h, List.any_cons] at hf
   have k : bz ⟨#[65, 88, 67, 68]⟩ = [65, 88, 67, 68] := rfl
   rw [k]
   refine c_t (decide_eq_true (by omega)) (cond_intro (fun q => ?_) (fun q => ?_))
   ·rw [q] at hf
    exact hf i
   ·rw [q, Bool.false_or] at hf
    rw [w64 (by omega)]
    exact ⟨(s, b, d, i + 1), rfl, rfl, by simp only [S74_0, decide_eq_true_eq]; omega, by simp only; omega, hf⟩
  ·have h := of_decide_eq_false h
   rw [bz_end (by omega)] at hf
   obtain rfl : i = d.size := by omega
   exact hf
def s74 (s : ByteArray) : Bool × Value := (decide (s.size ≤ 1000), .bool (numV (bz s)))
theorem fn74 : Fn1 Tryz.prog 198 Tryz.f198 := ⟨Tryz.func198, by kernel_rfl, by kernel_rfl, by kernel_rfl⟩
theorem v74 (s : ByteArray) (R : Value → Prop) : bodyQ Tryz.prog G6 (oneL 0 S74_0.h) Tryz.f198 [Enc.enc s] (fun _ => none) 0 (fun v _ _ => R v) = ( bif decide (ByteArray.size s ≤ 9223372036854775807) then bif charZ (bz s) then R (B false) else bif decide (ByteArray.size s ≤ 9223372036854775807) then bif crZ (bz s) then bif decide ((0 : Int) ≤ 0 ∧ 0 ≤ IntKind.wrap .i64 ((↑(ByteArray.size s) : Int) - 2) ∧ IntKind.wrap .i64 ((↑(ByteArray.size s) : Int) - 2) ≤ (↑(ByteArray.size s) : Int)) then bif LSpec.pre S74_0 (s, false, ByteArray.extract s 0 (Int.toNat (IntKind.wrap .i64 ((↑(ByteArray.size s) : Int) - 2))), 0) then bif List.any (List.drop (Int.toNat 0) (bz (ByteArray.extract s 0 (Int.toNat (IntKind.wrap .i64 ((↑(ByteArray.size s) : Int) - 2)))))) (hasZ [65, 88, 67, 68]) then ∀ (i' : Int) (x : Tmps), R (B false) else ∀ (x : Tmps), bif decide (ByteArray.size (ByteArray.extract s 0 (Int.toNat (IntKind.wrap .i64 ((↑(ByteArray.size s) : Int) - 2)))) ≤ 1000) then bif decide (ByteArray.size (ByteArray.extract s 0 (Int.toNat (IntKind.wrap .i64 ((↑(ByteArray.size s) : Int) - 2)))) ≤ 9223372036854775807) && bif decide ((↑(cntZ (bz (ByteArray.extract s 0 (Int.toNat (IntKind.wrap .i64 ((↑(ByteArray.size s) : Int) - 2))))) 86) : Int) ≤ 1) then decide (ByteArray.size (ByteArray.extract s 0 (Int.toNat (IntKind.wrap .i64 ((↑(ByteArray.size s) : Int) - 2)))) ≤ 1000) && bif driftsZ (bz (ByteArray.extract s 0 (Int.toNat (IntKind.wrap .i64 ((↑(ByteArray.size s) : Int) - 2))))) then decide (ByteArray.size (ByteArray.extract s 0 (Int.toNat (IntKind.wrap .i64 ((↑(ByteArray.size s) : Int) - 2)))) = ByteArray.size (sz (marksZ (bz (ByteArray.extract s 0 (Int.toNat (IntKind.wrap .i64 ((↑(ByteArray.size s) : Int) - 2))))))) ∧ ByteArray.size (ByteArray.extract s 0 (Int.toNat (IntKind.wrap .i64 ((↑(ByteArray.size s) : Int) - 2)))) ≤ 1000) && bif leadsZ (bz (ByteArray.extract s 0 (Int.toNat (IntKind.wrap .i64 ((↑(ByteArray.size s) : Int) - 2))))) (bz (sz (marksZ (bz (ByteArray.extract s 0 (Int.toNat (IntKind.wrap .i64 ((↑(ByteArray.size s) : Int) - 2)))))))) then decide (ByteArray.size s ≤ 1000) && bif decide (signsZ (bz s) ≤ 1) then decide (ByteArray.size (ByteArray.extract s 0 (Int.toNat (IntKind.wrap .i64 ((↑(ByteArray.size s) : Int) - 2)))) = ByteArray.size (sz (marksZ (bz (ByteArray.extract s 0 (Int.toNat (IntKind.wrap .i64 ((↑(ByteArray.size s) : Int) - 2))))))) ∧ ByteArray.size (ByteArray.extract s 0 (Int.toNat (IntKind.wrap .i64 ((↑(ByteArray.size s) : Int) - 2)))) ≤ 1000) && true else true else true else true else true then R (B (decide ((↑(cntZ (bz (ByteArray.extract s 0 (Int.toNat (IntKind.wrap .i64 ((↑(ByteArray.size s) : Int) - 2))))) 86) : Int) ≤ 1) && (driftsZ (bz (ByteArray.extract s 0 (Int.toNat (IntKind.wrap .i64 ((↑(ByteArray.size s) : Int) - 2))))) && (leadsZ (bz (ByteArray.extract s 0 (Int.toNat (IntKind.wrap .i64 ((↑(ByteArray.size s) : Int) - 2))))) (bz (sz (marksZ (bz (ByteArray.extract s 0 (Int.toNat (IntKind.wrap .i64 ((↑(ByteArray.size s) : Int) - 2)))))))) && (decide (signsZ (bz s) ≤ 1) && statsZ (bz (ByteArray.extract s 0 (Int.toNat (IntKind.wrap .i64 ((↑(ByteArray.size s) : Int) - 2))))) (bz (sz (marksZ (bz (ByteArray.extract s 0 (Int.toNat (IntKind.wrap .i64 ((↑(ByteArray.size s) : Int) - 2))))))))))))) else False else False else False else False else bif LSpec.pre S74_0 (s, false, s, 0) then bif List.any (List.drop (Int.toNat 0) (bz s)) (hasZ [65, 88, 67, 68]) then ∀ (i' : Int) (x : Tmps), R (B false) else ∀ (x : Tmps), bif decide (ByteArray.size s ≤ 1000) then bif decide (ByteArray.size s ≤ 9223372036854775807) && bif decide ((↑(cntZ (bz s) 86) : Int) ≤ 1) then decide (ByteArray.size s ≤ 1000) && bif driftsZ (bz s) then decide (ByteArray.size s = ByteArray.size (sz (marksZ (bz s))) ∧ ByteArray.size s ≤ 1000) && bif leadsZ (bz s) (bz (sz (marksZ (bz s)))) then decide (ByteArray.size s ≤ 1000) && bif decide (signsZ (bz s) ≤ 1) then decide (ByteArray.size s = ByteArray.size (sz (marksZ (bz s))) ∧ ByteArray.size s ≤ 1000) && true else true else true else true else true then R (B (decide ((↑(cntZ (bz s) 86) : Int) ≤ 1) && (driftsZ (bz s) && (leadsZ (bz s) (bz (sz (marksZ (bz s)))) && (decide (signsZ (bz s) ≤ 1) && statsZ (bz s) (bz (sz (marksZ (bz s))))))))) else False else False else False else False else False) := by kernel_rfl
theorem ok74 : PureOK Tryz.prog 198 (sp1 s74) := by
 refine qure1 ok_G6 hmix fn74 l74_0 (Nat.le_of_ble_eq_true (by kernel_rfl)) fun s hc => ?_
 rw [DoesQ, v74]
 have hc : (s.size ≤ 1000) := of_decide_eq_true hc
 dsimp only [s74]
 have hm : ∀ b : ByteArray, bz (sz (marksZ (bz b))) = marksZ (bz b) ∧ (sz (marksZ (bz b))).size = b.size := fun b => ⟨bz_sz (marks_isB _), by rw [sz_size, marks_len, bz_length]⟩
 have d0 : decide (s.size ≤ 9223372036854775807) = true := decide_eq_true (by omega)
 have e4 : decide (s.size ≤ 1000) = true := decide_eq_true hc
 rw [d0]
 refine c_t rfl (cond_intro (fun hch => by simp only [numV, hch, Bool.not_true, Bool.false_and]) (fun hch => c_t rfl (cond_intro (fun hcr => ?_) (fun hcr => ?_))))
 ·have h2 : 2 ≤ s.size := by
   simp only [crZ, Bool.and_eq_true, decide_eq_true_eq, bz_length] at hcr
   exact hcr.1
  have e : ((s.size : Int) - 2).toNat = s.size - 2 := by omega
  rw [w64 (n := (s.size : Int) - 2) (by omega), e]
  have eb : bz (s.extract 0 (s.size - 2)) = (bz s).take (s.size - 2) := by rw [bz_extract]; simp
  have hbs : (s.extract 0 (s.size - 2)).size = s.size - 2 := by rw [← bz_length, eb, List.length_take, bz_length]; omega
  have hB : bodyZ (bz s) = bz (s.extract 0 (s.size - 2)) := by simp [bodyZ, hcr, eb]
  clear eb
  generalize s.extract 0 (s.size - 2) = b at *
  have e1 : decide (b.size ≤ 1000) = true := decide_eq_true (by omega)
  have e2 : decide (b.size ≤ 9223372036854775807) = true := decide_eq_true (by omega)
  refine c_t (decide_eq_true (by omega)) (c_t (by simp only [S74_0, decide_eq_true_eq]; omega) ?_)
  rw [drop0]
  refine cond_intro (fun ha _ _ => ?_) (fun ha _ => ?_)
  ·simp only [numV, hB, ha, Bool.not_true, Bool.false_and, Bool.and_false]
  ·simp only [(hm b).1, (hm b).2, e1, e2, e4, eq_self, true_and, Bool.true_and, cond_true, Bool.and_true]
   refine c_t (by simp) ?_
   simp only [numV, hch, hB, ha, Bool.not_false, Bool.true_and]
 ·have hB : bodyZ (bz s) = bz s := by simp [bodyZ, hcr]
  refine c_t (by simp only [S74_0, decide_eq_true_eq]; omega) ?_
  rw [drop0]
  refine cond_intro (fun ha _ _ => ?_) (fun ha _ => ?_)
  ·simp only [numV, hB, ha, Bool.not_true, Bool.false_and, Bool.and_false]
  ·simp only [(hm s).1, (hm s).2, e4, eq_self, true_and, Bool.true_and, cond_true, Bool.and_true]
   refine c_t (by simp) ?_
   simp only [numV, hch, hB, ha, Bool.not_false, Bool.true_and]
end Go.Px
end
section
namespace Go.Px
open Go Go.Ab Go.Proofs
def G7 : Env := (G6.add 198 (sp1 s74))
theorem ok_G7 : EnvOK Tryz.prog G7 := env_add (ok_G6) ok74
def vOK (l : List Int) : Bool := exOK l && (charZ (exZ l) || numV (exZ l))
def pN (l : List Int) : Bool := exOK l && numV (exZ l)
def pS (l : List Int) : List Int := if vOK l = true then exZ l else []
def pW (l : List Int) : Int := if vOK l = true then (if charZ (exZ l) = true then ((exZ l).length : Int) else (exZ l).length - cntZ (exZ l) 86) else 0
def isP (m : Int) : Bool := m == 100 || m == 99
def pdGo : List Int → Int
 | [] => 0
 | m :: r => (bif isP m then 1 else 0) + pdGo r
def pqGo (s : List Int) : List Int → Int → Int
 | [], _ => 0
 | m :: r, i => (bif isP m && hasZ (s.take i.toNat) 86 then 1 else 0) + pqGo s r (i + 1)
def pD (l : List Int) : Int := if pN l = true then pdGo (marksZ (exZ l)) else 0
def pQ (l : List Int) : Int := if pN l = true then pqGo (exZ l) (marksZ (exZ l)) 0 else 0
def pG (l : List Int) : Bool := pN l && signsZ (exZ l) == 1
def pE (l : List Int) : Int := if vOK l = true then 0 else 30
def picV (l : List Int) : Value := .agg ⟨[.string (sz (pS l)), .bool (pN l), .int .i64 (pW l), .int .i64 (pD l), .int .i64 (pQ l), .bool (pG l)]⟩
def V30_0 : Int × ByteArray × ByteArray × ByteArray × Bool × Int × Int × Int × Bool × ByteArray × Int × Int × Int × Bool × Bool × Int → List Value := fun (e, s, ms, z, zb, z1, z2, z3, zg, p, w, d, q, n, g, i) => [.pointer (some ⟨0, 0, some 0⟩), I e, S s, .pointer (some ⟨26, 0, some 0⟩), S ms, I i]
def B30_0 : Int × ByteArray × ByteArray × ByteArray × Bool × Int × Int × Int × Bool × ByteArray × Int × Int × Int × Bool × Bool × Int → List (Option Blk) := fun (e, s, ms, z, zb, z1, z2, z3, zg, p, w, d, q, n, g, i) => [some ⟨[S z, B zb, I z1, I z2, I z3, B zg], 131, true⟩, some ⟨[S p, B n, I w, I d, I q, B g], 131, true⟩]
def S30_0 : LSpec (Int × ByteArray × ByteArray × ByteArray × Bool × Int × Int × Int × Bool × ByteArray × Int × Int × Int × Bool × Bool × Int) where
 live := [2, 3, 4, 6, 7, 8]
 mid := [0, 26]
 n := 120
 dec vs bs := match vs, bs with | [.pointer (some ⟨0, 0, some 0⟩), .int .i64 e, .string s, .pointer (some ⟨26, 0, some 0⟩), .string ms, .int .i64 i], [some ⟨[.string z, .bool zb, .int .i64 z1, .int .i64 z2, .int .i64 z3, .bool zg], 131, true⟩, some ⟨[.string p, .bool n, .int .i64 w, .int .i64 d, .int .i64 q, .bool g], 131, true⟩] => some (e, s, ms, z, zb, z1, z2, z3, zg, p, w, d, q, n, g, i) | _, _ => none
 pre := fun (e, s, ms, z, zb, z1, z2, z3, zg, p, w, d, q, n, g, i) => decide (0 ≤ i ∧ i ≤ ms.size ∧ ms.size = s.size ∧ s.size ≤ 1000 ∧ 0 ≤ d ∧ d ≤ i ∧ 0 ≤ q ∧ q ≤ i)
 fin := fun (e, s, ms, z, zb, z1, z2, z3, zg, p, w, d, q, n, g, i) Z => Z (.exit 0) [.pointer (some ⟨0, 0, some 0⟩), I e, S s, .pointer (some ⟨26, 0, some 0⟩), S ms, I ms.size] [some ⟨[S z, B zb, I z1, I z2, I z3, B zg], 131, true⟩, some ⟨[S p, B n, I w, I (d + pdGo ((bz ms).drop i.toNat)), I (q + pqGo (bz s) ((bz ms).drop i.toNat) i), B g], 131, true⟩]
theorem r30_0 (e : Int) (s : ByteArray) (ms : ByteArray) (z : ByteArray) (zb : Bool) (z1 : Int) (z2 : Int) (z3 : Int) (zg : Bool) (p : ByteArray) (w : Int) (d : Int) (q : Int) (n : Bool) (g : Bool) (i : Int) (jk : Tmps) (R : Exit → List Value → List (Option Blk) → Prop) : (codeQ Tryz.prog G7 noL Tryz.f143.ntmps (loopOf Tryz.f143 0) (tl S30_0.live (V30_0 (e, s, ms, z, zb, z1, z2, z3, zg, p, w, d, q, n, g, i)) jk) (ml S30_0.mid (B30_0 (e, s, ms, z, zb, z1, z2, z3, zg, p, w, d, q, n, g, i))) S30_0.n fun e t' m' _ => R e (List.map t' S30_0.live) (List.map m' S30_0.mid)) = ( bif decide (i < (↑(ByteArray.size ms) : Int)) then bif decide (0 ≤ i ∧ i < (↑(ByteArray.size ms) : Int)) && (byteAt ms (Int.toNat i) == 100 || decide (0 ≤ i ∧ i < (↑(ByteArray.size ms) : Int)) && true) then bif byteAt ms (Int.toNat i) == 100 || byteAt ms (Int.toNat i) == 99 then bif decide ((0 : Int) ≤ 0 ∧ 0 ≤ i ∧ i ≤ (↑(ByteArray.size s) : Int)) then bif decide (ByteArray.size (ByteArray.extract s 0 (Int.toNat i)) ≤ 9223372036854775807) then bif hasZ (bz (ByteArray.extract s 0 (Int.toNat i))) 86 then R Exit.normal [.pointer (some (.mk 0 0 (some 0))), I e, S s, .pointer (some (.mk 26 0 (some 0))), S ms, I (IntKind.wrap .i64 (i + 1))] [some (.mk [S z, B zb, I z1, I z2, I z3, B zg] 131 true), some (.mk [S p, B n, I w, I (IntKind.wrap .i64 (d + 1)), I (IntKind.wrap .i64 (q + 1)), B g] 131 true)] else R Exit.normal [.pointer (some (.mk 0 0 (some 0))), I e, S s, .pointer (some (.mk 26 0 (some 0))), S ms, I (IntKind.wrap .i64 (i + 1))] [some (.mk [S z, B zb, I z1, I z2, I z3, B zg] 131 true), some (.mk [S p, B n, I w, I (IntKind.wrap .i64 (d + 1)), I q, B g] 131 true)] else False else False else R Exit.normal [.pointer (some (.mk 0 0 (some 0))), I e, S s, .pointer (some (.mk 26 0 (some 0))), S ms, I (IntKind.wrap .i64 (i + 1))] [some (.mk [S z, B zb, I z1, I z2, I z3, B zg] 131 true), some (.mk [S p, B n, I w, I d, I q, B g] 131 true)] else False else R (Exit.exit 0) [.pointer (some (.mk 0 0 (some 0))), I e, S s, .pointer (some (.mk 26 0 (some 0))), S ms, I i] [some (.mk [S z, B zb, I z1, I z2, I z3, B zg] 131 true), some (.mk [S p, B n, I w, I d, I q, B g] 131 true)]) := by kernel_rfl
theorem l30_0 : LOKf Tryz.prog (oneL 0 S30_0.h) Tryz.f143 := by
 refine lokf_one (h := S30_0.h) (by kernel_rfl) (loop_specQ ok_G7 hmix (by kernel_rfl) (lok_none _) S30_0 V30_0 B30_0 (fun (e, s, ms, z, zb, z1, z2, z3, zg, p, w, d, q, n, g, i) => (ms.size - i).toNat) ?_ ?_ ?_)
 ·intro vs bs s h
  simp only [S30_0] at h
  split at h
  all_goals first | (cases h; exact ⟨rfl, rfl⟩) | cases h
 ·exact fun _ _ _ h => h
 ·intro ⟨e, s, ms, z, zb, z1, z2, z3, zg, p, w, d, q, n, g, i⟩ jk Z hp hf
  rw [r30_0]
  simp only [S30_0] at hp hf
  simp only [decide_eq_true_eq] at hp
  refine cond_intro (fun h => ?_) (fun h => ?_)
  ·have h := of_decide_eq_true h
   rw [bz_at (s := ms) hp.1 h, pdGo, pqGo] at hf
   have h1 : decide (0 ≤ i ∧ i < (ms.size : Int)) = true := decide_eq_true (by omega)
   have ex : bz (s.extract 0 i.toNat) = (bz s).take i.toNat := by rw [bz_extract]; simp
   have exs : (s.extract 0 i.toNat).size ≤ 1000 := by rw [← bz_length, ex, List.length_take, bz_length]; omega
   refine c_t (by rw [h1]; simp) (cond_intro (fun a => c_t (decide_eq_true (by omega)) (c_t (decide_eq_true (by omega)) ?_)) (fun a => ?_))
   ·have a' : isP (byteAt ms i.toNat) = true := a
    rw [a', cond_true, Bool.true_and] at hf
    rw [ex, w64 (n := d + 1) (by omega), w64 (n := i + 1) (by omega)]
    refine cond_intro (fun b => ?_) (fun b => ?_)
    ·rw [b, cond_true, ← Int.add_assoc, ← Int.add_assoc] at hf
     rw [w64 (n := q + 1) (by omega)]
     exact ⟨(e, s, ms, z, zb, z1, z2, z3, zg, p, w, d + 1, q + 1, n, g, i + 1), rfl, rfl, by simp only [S30_0, decide_eq_true_eq]; omega, by simp only; omega, hf⟩
    ·rw [b, cond_false, Int.zero_add, ← Int.add_assoc] at hf
     exact ⟨(e, s, ms, z, zb, z1, z2, z3, zg, p, w, d + 1, q, n, g, i + 1), rfl, rfl, by simp only [S30_0, decide_eq_true_eq]; omega, by simp only; omega, hf⟩
   ·have a' : isP (byteAt ms i.toNat) = false := a
    rw [a', cond_false, Bool.false_and, cond_false, Int.zero_add, Int.zero_add] at hf
    rw [w64 (by omega)]
    exact ⟨(e, s, ms, z, zb, z1, z2, z3, zg, p, w, d, q, n, g, i + 1), rfl, rfl, by simp only [S30_0, decide_eq_true_eq]; omega, by simp only; omega, hf⟩
  ·have h := of_decide_eq_false h
   rw [bz_end (s := ms) (by omega), pdGo, pqGo, Int.add_zero, Int.add_zero] at hf
   obtain rfl : i = ms.size := by omega
   exact hf
theorem up_rng {c : Int} (h : 0 ≤ c ∧ c < 256) : 0 ≤ upZ c ∧ upZ c < 256 := by unfold upZ; split <;> omega
theorem xp_rng : ∀ (l : List Int) (st n : Int) (out : List Int), IsB l → IsB out → out.length ≤ 32 → IsB (xpGo l st n out).1 ∧ (xpGo l st n out).1.length ≤ 32
 | [], st, n, out, _, h2, h3 => ⟨h2, h3⟩
 | c :: r, st, n, out, h1, h2, h3 => by
  have hc := h1 c (List.mem_cons_self ..)
  have hr : IsB r := fun x hx => h1 x (List.mem_cons_of_mem _ hx)
  have nil : IsB (([], false) : List Int × Bool).1 ∧ (([], false) : List Int × Bool).1.length ≤ 32 := ⟨IsB.nil, Nat.zero_le _⟩
  rw [xpGo]
  by_cases e1 : st = 1
  ·rw [if_pos e1]
   split
   ·split
    ·exact xp_rng r _ _ out hr h2 h3
    ·exact nil
   ·split
    ·exact xp_rng r _ _ out hr h2 h3
    ·exact nil
  ·rw [if_neg e1]
   by_cases e2 : c = 41 ∨ st = 2 ∧ c = 40
   ·rw [if_pos e2]; exact nil
   ·rw [if_neg e2]
    by_cases e3 : c = 40
    ·rw [if_pos e3]
     exact xp_rng r _ _ out hr h2 h3
    ·rw [if_neg e3]
     by_cases hq : hasZ kL (upZ c) = true ∧ (out.length : Int) + (if st = 2 then n else 1) ≤ 32
     ·rw [if_pos hq]
      refine xp_rng r _ _ _ hr (h2.append fun x hx => ?_) ?_
      ·rw [List.eq_of_mem_replicate hx]
       exact up_rng hc
      ·rw [List.length_append]
       simp only [rep1, List.length_replicate]
       have := hq.2
       omega
     ·rw [if_neg hq]; exact nil
theorem ex_rng (s : ByteArray) : IsB (exZ (bz s)) ∧ (exZ (bz s)).length ≤ 32 := by
 unfold exZ
 split
 ·exact xp_rng _ _ _ _ (bz_isB s) IsB.nil (Nat.zero_le _)
 ·exact ⟨IsB.nil, Nat.zero_le _⟩
theorem sz_nil : sz [] = ⟨#[]⟩ := rfl
def s30 (s : ByteArray) : Bool × Value := (decide (s.size ≤ 9223372036854775807), .tuple ⟨[picV (bz s), .int .i64 (pE (bz s))]⟩)
theorem fn30 : Fn1 Tryz.prog 143 Tryz.f143 := ⟨Tryz.func143, by kernel_rfl, by kernel_rfl, by kernel_rfl⟩
theorem v30 (s : ByteArray) (R : Value → Prop) : bodyQ Tryz.prog G7 (oneL 0 S30_0.h) Tryz.f143 [Enc.enc s] (fun _ => none) 0 (fun v _ _ => R v) = ( bif decide (ByteArray.size s ≤ 9223372036854775807) then bif eE (bz s) != 0 then R (.tuple (.mk [.agg (.mk [S (ByteArray.mk #[]), B false, I 0, I 0, I 0, B false]), I (eE (bz s))])) else bif decide (ByteArray.size (sz (exZ (bz s))) ≤ 9223372036854775807) then bif charZ (bz (sz (exZ (bz s)))) then R (.tuple (.mk [.agg (.mk [S (sz (exZ (bz s))), B false, I (↑(ByteArray.size (sz (exZ (bz s)))) : Int), I 0, I 0, B false]), I 0])) else bif decide (ByteArray.size (sz (exZ (bz s))) ≤ 1000) then bif !numV (bz (sz (exZ (bz s)))) then R (.tuple (.mk [.agg (.mk [S (ByteArray.mk #[]), B false, I 0, I 0, I 0, B false]), I 30])) else bif decide (ByteArray.size (sz (exZ (bz s))) ≤ 9223372036854775807) then bif decide (ByteArray.size (sz (exZ (bz s))) ≤ 1000) then bif decide (ByteArray.size (sz (exZ (bz s))) ≤ 1000) then bif LSpec.pre S30_0 (0, sz (exZ (bz s)), sz (marksZ (bz (sz (exZ (bz s))))), ByteArray.mk #[], false, 0, 0, 0, false, sz (exZ (bz s)), IntKind.wrap .i64 ((↑(ByteArray.size (sz (exZ (bz s)))) : Int) - (↑(cntZ (bz (sz (exZ (bz s)))) 86) : Int)), 0, 0, true, signsZ (bz (sz (exZ (bz s)))) == 1, 0) then ∀ (x : Tmps), R (.tuple (.mk [.agg (.mk [S (sz (exZ (bz s))), B true, I (IntKind.wrap .i64 ((↑(ByteArray.size (sz (exZ (bz s)))) : Int) - (↑(cntZ (bz (sz (exZ (bz s)))) 86) : Int))), I (0 + pdGo (List.drop (Int.toNat 0) (bz (sz (marksZ (bz (sz (exZ (bz s))))))))), I (0 + pqGo (bz (sz (exZ (bz s)))) (List.drop (Int.toNat 0) (bz (sz (marksZ (bz (sz (exZ (bz s)))))))) 0), B (signsZ (bz (sz (exZ (bz s)))) == 1)]), I 0])) else False else False else False else False else False else False else False) := by kernel_rfl
theorem ok30 : PureOK Tryz.prog 143 (sp1 s30) := by
 refine qure1 ok_G7 hmix fn30 l30_0 (Nat.le_of_ble_eq_true (by kernel_rfl)) fun s hc => ?_
 rw [DoesQ, v30]
 have hc : (s.size ≤ 9223372036854775807) := of_decide_eq_true hc
 try dsimp only [s30]
 obtain ⟨hb, hl⟩ := ex_rng s
 have hmB := marks_isB (exZ (bz s))
 have hml := marks_len (exZ (bz s))
 have hcn := cnt_le (exZ (bz s)) 86
 rw [bz_sz hb, sz_size]
 refine c_t (decide_eq_true hc) (cond_intro (fun he => ?_) (fun he => ?_))
 ·have ho : exOK (bz s) = false := by
   cases h : exOK (bz s) with
   | false => rfl
   | true => rw [eE, h] at he; cases he
  simp [picV, pS, pN, pW, pD, pQ, pG, pE, eE, vOK, ho, sz_nil]
 ·have ho : exOK (bz s) = true := by
   cases h : exOK (bz s) with
   | true => rfl
   | false => rw [eE, h] at he; cases he
  refine c_t (decide_eq_true (by omega)) (cond_intro (fun hch => ?_) (fun hch => c_t (decide_eq_true (by omega)) (cond_intro (fun hn => ?_) (fun hn => c_t (decide_eq_true (by omega)) (c_t (decide_eq_true (by omega)) (c_t (decide_eq_true (by omega)) (c_t ?_ (fun x => ?_))))))))
  ·simp [picV, pS, pN, pW, pD, pQ, pG, pE, vOK, ho, hch, numV]
  ·have hn : numV (exZ (bz s)) = false := by simpa using hn
   simp [picV, pS, pN, pW, pD, pQ, pG, pE, vOK, ho, hch, hn, sz_nil]
  ·have e1 : (sz (marksZ (exZ (bz s)))).size = (exZ (bz s)).length := by rw [sz_size, hml]
   have e2 : (sz (exZ (bz s))).size = (exZ (bz s)).length := sz_size _
   simp only [S30_0, decide_eq_true_eq, e1]
   omega
  ·have hn : numV (exZ (bz s)) = true := by simpa using hn
   rw [bz_sz hmB, drop0, w64 (by omega)]
   simp [picV, pS, pN, pW, pD, pQ, pG, pE, vOK, ho, hch, hn]
structure Pic where
 s : ByteArray
 n : Bool
 w : Int
 d : Int
 q : Int
 g : Bool
instance : Enc Pic where
 enc p := .agg ⟨[.string p.s, .bool p.n, .int .i64 p.w, .int .i64 p.d, .int .i64 p.q, .bool p.g]⟩
 dec | .agg ⟨[.string a, .bool b, .int .i64 c, .int .i64 d, .int .i64 e, .bool f]⟩ => some ⟨a, b, c, d, e, f⟩ | _ => none
 dec_some := by
  intro v a h
  split at h
  ·cases h; rfl
  ·cases h
 plain_enc _ := rfl
def G8 : Env := (G7.add 143 (sp1 s30))
theorem ok_G8 : EnvOK Tryz.prog G8 := env_add (ok_G7) ok30
def tyK (l : List Int) : Int := if vOK l = true then (if pN l = true then 1 else 3) else 0
def tyP (l : List Int) : Int := if vOK l = true then (if pN l = true then pD l else pW l) else 0
def tyV (l : List Int) : Value := .agg ⟨[.int .i64 (tyK l), .int .i64 (tyP l), .int .i64 (pQ l), .bool false, .string ⟨#[]⟩]⟩
def cuM (n q sc : Int) : Int := if q ≥ sc then (n.natAbs : Int) / tenZ (q - sc).toNat else n.natAbs * tenZ (sc - q).toNat
def cuV (n q sc d : Int) : Int := cuM n q sc % tenZ d.toNat
def cuN (n q sc d : Int) (g : Bool) : Int := if n < 0 ∧ g = true then 0 - cuV n q sc d else cuV n q sc d
def cuF (n q sc d : Int) (g : Bool) : Bool := decide (cuM n q sc < tenZ d.toNat) && (decide (n ≥ 0) || (g || cuV n q sc d == 0))
def ssZ (c dr : Int) (m : Bool) : Int := bif dr != 0 && c == dr then 32 else bif hasZ [67, 82, 68, 66] c then (bif m then c else 32) else sgZ c m
theorem pE_ne (l : List Int) : (pE l != 0) = !vOK l := by
 unfold pE
 cases vOK l <;> rfl
theorem pE_eq (l : List Int) : (pE l == 0) = vOK l := by
 unfold pE
 cases vOK l <;> rfl
theorem pN_vOK {l : List Int} (h : pN l = true) : vOK l = true := by
 simp only [pN, Bool.and_eq_true] at h
 simp [vOK, h.1, h.2]
theorem pN_and (l : List Int) : (vOK l && pN l) = pN l := by
 cases h : pN l with
 | false => simp
 | true => simp [pN_vOK h]
theorem pN_or (l : List Int) : (!vOK l || !pN l) = !pN l := by
 cases h : pN l with
 | false => simp
 | true => simp [pN_vOK h]
theorem tenZ_le9 {n : Nat} (h : n ≤ 9) : tenZ n ≤ 1000000000 := by
 match n, h with
 | 0, _ | 1, _ | 2, _ | 3, _ | 4, _ | 5, _ | 6, _ | 7, _ | 8, _ | 9, _ => decide
theorem tenZ_add (a b : Nat) : tenZ (a + b) = tenZ a * tenZ b := Int.pow_add ..
theorem ld_cnt : ∀ (ms : List Int) (fm bh pt : Bool) (dg : Int), (ldGo ms fm bh pt dg).1 = true → (ldGo ms fm bh pt dg).2.2.2 = dg + pdGo ms
 | [], fm, bh, pt, dg, _ => by simp [ldGo, pdGo]
 | m :: r, fm, bh, pt, dg, h => by
  rw [ldGo] at h ⊢
  rw [pdGo]
  cases h1 : (m == 118) with
  | true =>
   rw [h1, cond_true] at h
   have hm := eq_of_beq h1
   subst hm
   simp only [cond_true, isP]
   rw [ld_cnt r _ _ _ _ h]
   simp
  | false =>
   rw [h1, cond_false] at h
   cases h2 : (m == 100) with
   | true =>
    rw [h2, cond_true] at h
    simp only [cond_true, cond_false, isP, h2, Bool.true_or]
    rw [ld_cnt r _ _ _ _ h]
    omega
   | false =>
    rw [h2, cond_false] at h
    cases h3 : (m == 99) with
    | true =>
     rw [h3, cond_true] at h
     cases fm with
     | true => cases h
     | false =>
      rw [cond_false] at h
      simp only [cond_true, cond_false, isP, h2, h3, Bool.false_or]
      rw [ld_cnt r _ _ _ _ h]
      omega
    | false =>
     rw [h3, cond_false] at h
     simp only [cond_false, isP, h2, h3, Bool.false_or]
     rw [ld_cnt r _ _ _ _ h]
     omega
theorem pd_app : ∀ a b : List Int, pdGo (a ++ b) = pdGo a + pdGo b
 | [], b => by simp [pdGo]
 | m :: r, b => by simp only [List.cons_append, pdGo, pd_app r b]; omega
theorem pd_nn : ∀ a : List Int, 0 ≤ pdGo a
 | [] => by simp [pdGo]
 | m :: r => by have := pd_nn r; simp only [pdGo]; cases isP m <;> simp <;> omega
theorem pq_rng (s : List Int) : ∀ (a : List Int) (i : Int), 0 ≤ pqGo s a i ∧ pqGo s a i ≤ pdGo a
 | [], i => by simp [pqGo, pdGo]
 | m :: r, i => by
  have := pq_rng s r (i + 1)
  simp only [pqGo, pdGo]
  cases isP m <;> cases hasZ (s.take i.toNat) 86 <;> simp <;> omega
theorem body_ncr {s : List Int} (h : (bodyZ s).any (hasZ [65, 88, 67, 68]) = false) : crZ (bodyZ s) = false := by
 cases hc : crZ (bodyZ s) with
 | false => rfl
 | true =>
  exfalso
  simp only [crZ, Bool.and_eq_true, Bool.or_eq_true, decide_eq_true_eq] at hc
  have : ∀ c ∈ bodyZ s, hasZ [65, 88, 67, 68] c = false := by simpa using h
  rcases hc.2 with h1 | h1
  ·have hm : (67 : Int) ∈ (bodyZ s).drop ((bodyZ s).length - 2) := by rw [h1]; simp
   exact absurd (this _ (List.mem_of_mem_drop hm)) (by decide)
  ·have hm : (68 : Int) ∈ (bodyZ s).drop ((bodyZ s).length - 2) := by rw [h1]; simp
   exact absurd (this _ (List.mem_of_mem_drop hm)) (by decide)
theorem marks_body {s : List Int} (h : (bodyZ s).any (hasZ [65, 88, 67, 68]) = false) : marksZ (bodyZ s) = mkGo (drZ (bodyZ s)) false (bodyZ s) := by
 have hc := body_ncr h
 have gen : ∀ l : List Int, crZ l = false → bodyZ l = l := fun l h => by simp [bodyZ, h]
 have hb : bodyZ (bodyZ s) = bodyZ s := gen _ hc
 unfold marksZ
 rw [hb, hc]
 simp
structure NumP (s : List Int) : Prop where
 nch : charZ s = false
 plain : (bodyZ s).any (hasZ [65, 88, 67, 68]) = false
 one : (cntZ (bodyZ s) 86 : Int) ≤ 1
 dr : driftsZ (bodyZ s) = true
 ld : leadsZ (bodyZ s) (mkGo (drZ (bodyZ s)) false (bodyZ s)) = true
 sg : signsZ s ≤ 1
 st : statsZ (bodyZ s) (mkGo (drZ (bodyZ s)) false (bodyZ s)) = true
theorem numV_iff {s : List Int} : numV s = true ↔ NumP s := by
 constructor
 ·intro h
  simp only [numV, Bool.and_eq_true, Bool.not_eq_true', decide_eq_true_eq] at h
  obtain ⟨h1, h2, h3, h4, h5, h6, h7⟩ := h
  rw [marks_body h2] at h5 h7
  exact ⟨h1, h2, h3, h4, h5, h6, h7⟩
 ·rintro ⟨h1, h2, h3, h4, h5, h6, h7⟩
  rw [← marks_body h2] at h5 h7
  simp only [numV, Bool.and_eq_true, Bool.not_eq_true', decide_eq_true_eq]
  exact ⟨h1, h2, h3, h4, h5, h6, h7⟩
theorem num_digits {s : List Int} (h : NumP s) : 1 ≤ pdGo (marksZ s) ∧ pdGo (marksZ s) ≤ 9 := by
 have hl := h.ld
 have e : pdGo (marksZ s) = pdGo (mkGo (drZ (bodyZ s)) false (bodyZ s)) := by
  unfold marksZ
  rw [pd_app]
  split
  ·have : pdGo [115, 115] = 0 := by decide
   omega
  ·simp [pdGo]
 rw [e]
 unfold leadsZ at hl
 cases h1 : (hasZ (bodyZ s) 90 && hasZ (bodyZ s) 42) with
 | true => rw [h1] at hl; cases hl
 | false =>
  rw [h1, cond_false] at hl
  cases h2 : ((hasZ (bodyZ s) 90 || hasZ (bodyZ s) 42) && drZ (bodyZ s) != 0) with
  | true => rw [h2] at hl; cases hl
  | false =>
   rw [h2, cond_false] at hl
   simp only [Bool.and_eq_true, decide_eq_true_eq] at hl
   obtain ⟨g1, g2, g3, _⟩ := hl
   have := ld_cnt _ _ _ _ _ g1
   omega
theorem pN_num {l : List Int} (h : pN l = true) : NumP (exZ l) := by
 simp only [pN, Bool.and_eq_true] at h
 exact numV_iff.1 h.2
theorem pD_rng {l : List Int} (h : pN l = true) : 1 ≤ pD l ∧ pD l ≤ 9 ∧ 0 ≤ pQ l ∧ pQ l ≤ pD l := by
 have h1 := num_digits (pN_num h)
 have h2 := pq_rng (exZ l) (marksZ (exZ l)) 0
 simp only [pD, pQ, h, if_true]
 omega
theorem pS_len (s : ByteArray) : IsB (pS (bz s)) ∧ (pS (bz s)).length ≤ 32 := by
 unfold pS
 split
 ·exact ex_rng s
 ·exact ⟨IsB.nil, Nat.zero_le _⟩
def s48 (s : ByteArray) : Bool × Value := (decide (s.size ≤ 9223372036854775807), .int .i64 (pE (bz s)))
theorem fn48 : Fn1 Tryz.prog 69 Tryz.f69 := ⟨Tryz.func69, by kernel_rfl, by kernel_rfl, by kernel_rfl⟩
theorem v48 (s : ByteArray) (R : Value → Prop) : bodyQ Tryz.prog G8 noL Tryz.f69 [Enc.enc s] (fun _ => none) 0 (fun v _ _ => R v) = ( bif decide (ByteArray.size s ≤ 9223372036854775807) then R (I (pE (bz s))) else False) := by kernel_rfl
theorem ok48 : PureOK Tryz.prog 69 (sp1 s48) := by
 refine qure1 ok_G8 hmix fn48 lokf_none (Nat.le_of_ble_eq_true (by kernel_rfl)) fun s hc => ?_
 rw [DoesQ, v48]
 have hc : (s.size ≤ 9223372036854775807) := of_decide_eq_true hc
 try dsimp only [s48]
 exact c_t (decide_eq_true hc) rfl
def s49 (s : ByteArray) : Bool × Value := (decide (s.size ≤ 9223372036854775807), .bool (pN (bz s)))
theorem fn49 : Fn1 Tryz.prog 180 Tryz.f180 := ⟨Tryz.func180, by kernel_rfl, by kernel_rfl, by kernel_rfl⟩
theorem v49 (s : ByteArray) (R : Value → Prop) : bodyQ Tryz.prog G8 noL Tryz.f180 [Enc.enc s] (fun _ => none) 0 (fun v _ _ => R v) = ( bif decide (ByteArray.size s ≤ 9223372036854775807) then bif pE (bz s) == 0 || true then R (B (pE (bz s) == 0 && pN (bz s))) else False else False) := by kernel_rfl
theorem ok49 : PureOK Tryz.prog 180 (sp1 s49) := by
 refine qure1 ok_G8 hmix fn49 lokf_none (Nat.le_of_ble_eq_true (by kernel_rfl)) fun s hc => ?_
 rw [DoesQ, v49]
 have hc : (s.size ≤ 9223372036854775807) := of_decide_eq_true hc
 try dsimp only [s49]
 rw [pE_eq]
 exact c_t (decide_eq_true hc) (c_t (by simp) (by rw [pN_and]))
def s47 (s : ByteArray) : Bool × Value := (decide (s.size ≤ 9223372036854775807), .tuple ⟨[tyV (bz s), .int .i64 (pE (bz s))]⟩)
theorem fn47 : Fn1 Tryz.prog 111 Tryz.f111 := ⟨Tryz.func111, by kernel_rfl, by kernel_rfl, by kernel_rfl⟩
theorem v47 (s : ByteArray) (R : Value → Prop) : bodyQ Tryz.prog G8 noL Tryz.f111 [Enc.enc s] (fun _ => none) 0 (fun v _ _ => R v) = ( bif decide (ByteArray.size s ≤ 9223372036854775807) then bif pE (bz s) != 0 then R (.tuple (.mk [.agg (.mk [I 0, I 0, I 0, B false, S (ByteArray.mk #[])]), I (pE (bz s))])) else bif pN (bz s) then R (.tuple (.mk [.agg (.mk [I 1, I (pD (bz s)), I (pQ (bz s)), B false, S (ByteArray.mk #[])]), I 0])) else R (.tuple (.mk [.agg (.mk [I 3, I (pW (bz s)), I 0, B false, S (ByteArray.mk #[])]), I 0])) else False) := by kernel_rfl
theorem ok47 : PureOK Tryz.prog 111 (sp1 s47) := by
 refine qure1 ok_G8 hmix fn47 lokf_none (Nat.le_of_ble_eq_true (by kernel_rfl)) fun s hc => ?_
 rw [DoesQ, v47]
 have hc : (s.size ≤ 9223372036854775807) := of_decide_eq_true hc
 try dsimp only [s47]
 rw [pE_ne]
 refine c_t (decide_eq_true hc) (cond_intro (fun h => ?_) (fun h => ?_))
 ·have h : vOK (bz s) = false := by simpa using h
  have hn : pN (bz s) = false := by
   cases q : pN (bz s) with
   | false => rfl
   | true => rw [pN_vOK q] at h; cases h
  simp [tyV, tyK, tyP, pQ, h, hn]
 ·have h : vOK (bz s) = true := by simpa using h
  refine cond_intro (fun hn => ?_) (fun hn => ?_)
  ·simp [tyV, tyK, tyP, pE, h, hn]
  ·simp [tyV, tyK, tyP, pE, pQ, h, hn]
def s65 (n : Int) (q : Int) (p : Pic) : Bool × Value := (decide (0 ≤ q ∧ q ≤ 9 ∧ 0 ≤ p.d ∧ p.d ≤ 9 ∧ 0 ≤ p.q ∧ p.q ≤ p.d ∧ -9223372036854775808 ≤ n ∧ n ≤ 9223372036854775807), .tuple ⟨[.int .i64 (cuN n q p.q p.d p.g), .bool (cuF n q p.q p.d p.g)]⟩)
theorem fn65 : Fn1 Tryz.prog 230 Tryz.f230 := ⟨Tryz.func230, by kernel_rfl, by kernel_rfl, by kernel_rfl⟩
theorem v65 (n : Int) (q : Int) (p : Pic) (R : Value → Prop) : bodyQ Tryz.prog G8 noL Tryz.f230 [Enc.enc n, Enc.enc q, Enc.enc p] (fun _ => none) 0 (fun v _ _ => R v) = ( bif decide (-9223372036854775808 ≤ n ∧ n ≤ 9223372036854775807) then bif decide (0 ≤ Pic.d p ∧ Pic.d p ≤ 18) then bif decide (q ≥ Pic.q p) then bif decide (0 ≤ IntKind.wrap .i64 (q - Pic.q p) ∧ IntKind.wrap .i64 (q - Pic.q p) ≤ 18) then bif decide (IntKind.wrap .u64 (tenZ (Int.toNat (IntKind.wrap .i64 (q - Pic.q p)))) ≠ 0) then bif decide (IntKind.wrap .u64 (tenZ (Int.toNat (Pic.d p))) ≠ 0) then bif decide (n < 0) || true then bif decide (n < 0) && Pic.g p then R (.tuple (.mk [I (IntKind.wrap .i64 (0 - IntKind.wrap .i64 (Int.tmod (IntKind.wrap .u64 (Int.tdiv (↑(Int.natAbs n) : Int) (IntKind.wrap .u64 (tenZ (Int.toNat (IntKind.wrap .i64 (q - Pic.q p))))))) (IntKind.wrap .u64 (tenZ (Int.toNat (Pic.d p))))))), B (decide (IntKind.wrap .u64 (Int.tdiv (↑(Int.natAbs n) : Int) (IntKind.wrap .u64 (tenZ (Int.toNat (IntKind.wrap .i64 (q - Pic.q p)))))) < IntKind.wrap .u64 (tenZ (Int.toNat (Pic.d p)))))])) else bif bif decide (IntKind.wrap .u64 (Int.tdiv (↑(Int.natAbs n) : Int) (IntKind.wrap .u64 (tenZ (Int.toNat (IntKind.wrap .i64 (q - Pic.q p)))))) < IntKind.wrap .u64 (tenZ (Int.toNat (Pic.d p)))) then decide (n ≥ 0) || true else true then R (.tuple (.mk [I (bif decide (IntKind.wrap .u64 (Int.tdiv (↑(Int.natAbs n) : Int) (IntKind.wrap .u64 (tenZ (Int.toNat (IntKind.wrap .i64 (q - Pic.q p)))))) < IntKind.wrap .u64 (tenZ (Int.toNat (Pic.d p)))) then bif decide (n ≥ 0) then IntKind.wrap .i64 (Int.tmod (IntKind.wrap .u64 (Int.tdiv (↑(Int.natAbs n) : Int) (IntKind.wrap .u64 (tenZ (Int.toNat (IntKind.wrap .i64 (q - Pic.q p))))))) (IntKind.wrap .u64 (tenZ (Int.toNat (Pic.d p))))) else IntKind.wrap .i64 (Int.tmod (IntKind.wrap .u64 (Int.tdiv (↑(Int.natAbs n) : Int) (IntKind.wrap .u64 (tenZ (Int.toNat (IntKind.wrap .i64 (q - Pic.q p))))))) (IntKind.wrap .u64 (tenZ (Int.toNat (Pic.d p))))) else IntKind.wrap .i64 (Int.tmod (IntKind.wrap .u64 (Int.tdiv (↑(Int.natAbs n) : Int) (IntKind.wrap .u64 (tenZ (Int.toNat (IntKind.wrap .i64 (q - Pic.q p))))))) (IntKind.wrap .u64 (tenZ (Int.toNat (Pic.d p)))))), B (decide (IntKind.wrap .u64 (Int.tdiv (↑(Int.natAbs n) : Int) (IntKind.wrap .u64 (tenZ (Int.toNat (IntKind.wrap .i64 (q - Pic.q p)))))) < IntKind.wrap .u64 (tenZ (Int.toNat (Pic.d p)))) && (decide (n ≥ 0) || Int.tmod (IntKind.wrap .u64 (Int.tdiv (↑(Int.natAbs n) : Int) (IntKind.wrap .u64 (tenZ (Int.toNat (IntKind.wrap .i64 (q - Pic.q p))))))) (IntKind.wrap .u64 (tenZ (Int.toNat (Pic.d p)))) == 0))])) else False else False else False else False else False else bif decide (0 ≤ IntKind.wrap .i64 (Pic.q p - q) ∧ IntKind.wrap .i64 (Pic.q p - q) ≤ 18) then bif decide (IntKind.wrap .u64 (tenZ (Int.toNat (IntKind.wrap .i64 (Pic.q p - q)))) ≠ 0) then bif decide (IntKind.wrap .u64 (tenZ (Int.toNat (Pic.d p))) ≠ 0) then bif decide (IntKind.wrap .u64 (tenZ (Int.toNat (Pic.d p))) ≠ 0) then bif decide (n < 0) || true then bif decide (n < 0) && Pic.g p then R (.tuple (.mk [I (IntKind.wrap .i64 (0 - IntKind.wrap .i64 (Int.tmod (IntKind.wrap .u64 (Int.tmod (↑(Int.natAbs n) : Int) (IntKind.wrap .u64 (tenZ (Int.toNat (Pic.d p)))) * IntKind.wrap .u64 (tenZ (Int.toNat (IntKind.wrap .i64 (Pic.q p - q)))))) (IntKind.wrap .u64 (tenZ (Int.toNat (Pic.d p))))))), B (decide ((↑(Int.natAbs n) : Int) < IntKind.wrap .u64 (Int.tdiv (IntKind.wrap .u64 (tenZ (Int.toNat (Pic.d p)))) (IntKind.wrap .u64 (tenZ (Int.toNat (IntKind.wrap .i64 (Pic.q p - q))))))))])) else bif bif decide ((↑(Int.natAbs n) : Int) < IntKind.wrap .u64 (Int.tdiv (IntKind.wrap .u64 (tenZ (Int.toNat (Pic.d p)))) (IntKind.wrap .u64 (tenZ (Int.toNat (IntKind.wrap .i64 (Pic.q p - q))))))) then decide (n ≥ 0) || true else true then R (.tuple (.mk [I (bif decide ((↑(Int.natAbs n) : Int) < IntKind.wrap .u64 (Int.tdiv (IntKind.wrap .u64 (tenZ (Int.toNat (Pic.d p)))) (IntKind.wrap .u64 (tenZ (Int.toNat (IntKind.wrap .i64 (Pic.q p - q))))))) then bif decide (n ≥ 0) then IntKind.wrap .i64 (Int.tmod (IntKind.wrap .u64 (Int.tmod (↑(Int.natAbs n) : Int) (IntKind.wrap .u64 (tenZ (Int.toNat (Pic.d p)))) * IntKind.wrap .u64 (tenZ (Int.toNat (IntKind.wrap .i64 (Pic.q p - q)))))) (IntKind.wrap .u64 (tenZ (Int.toNat (Pic.d p))))) else IntKind.wrap .i64 (Int.tmod (IntKind.wrap .u64 (Int.tmod (↑(Int.natAbs n) : Int) (IntKind.wrap .u64 (tenZ (Int.toNat (Pic.d p)))) * IntKind.wrap .u64 (tenZ (Int.toNat (IntKind.wrap .i64 (Pic.q p - q)))))) (IntKind.wrap .u64 (tenZ (Int.toNat (Pic.d p))))) else IntKind.wrap .i64 (Int.tmod (IntKind.wrap .u64 (Int.tmod (↑(Int.natAbs n) : Int) (IntKind.wrap .u64 (tenZ (Int.toNat (Pic.d p)))) * IntKind.wrap .u64 (tenZ (Int.toNat (IntKind.wrap .i64 (Pic.q p - q)))))) (IntKind.wrap .u64 (tenZ (Int.toNat (Pic.d p)))))), B (decide ((↑(Int.natAbs n) : Int) < IntKind.wrap .u64 (Int.tdiv (IntKind.wrap .u64 (tenZ (Int.toNat (Pic.d p)))) (IntKind.wrap .u64 (tenZ (Int.toNat (IntKind.wrap .i64 (Pic.q p - q))))))) && (decide (n ≥ 0) || Int.tmod (IntKind.wrap .u64 (Int.tmod (↑(Int.natAbs n) : Int) (IntKind.wrap .u64 (tenZ (Int.toNat (Pic.d p)))) * IntKind.wrap .u64 (tenZ (Int.toNat (IntKind.wrap .i64 (Pic.q p - q)))))) (IntKind.wrap .u64 (tenZ (Int.toNat (Pic.d p)))) == 0))])) else False else False else False else False else False else False else False else False) := by kernel_rfl
theorem ok65 : PureOK Tryz.prog 230 (sp3 s65) := by
 refine qure3 ok_G8 hmix fn65 lokf_none (Nat.le_of_ble_eq_true (by kernel_rfl)) fun n q p hc => ?_
 rw [DoesQ, v65]
 have hc : (0 ≤ q ∧ q ≤ 9 ∧ 0 ≤ p.d ∧ p.d ≤ 9 ∧ 0 ≤ p.q ∧ p.q ≤ p.d ∧ -9223372036854775808 ≤ n ∧ n ≤ 9223372036854775807) := of_decide_eq_true hc
 try dsimp only [s65]
 obtain ⟨h1, h2, h3, h4, h5, h6, h7, h8⟩ := hc
 obtain ⟨ps, pn, pw, d, sc, g⟩ := p
 simp only at h3 h4 h5 h6 ⊢
 have ta := tenZ_le (n := d.toNat) (by omega)
 have ta9 : tenZ d.toNat ≤ 1000000000 := by
  exact tenZ_le9 (by omega)
 have na : (n.natAbs : Int) ≤ 9223372036854775808 := by omega
 have fin : ∀ (M : Int), 0 ≤ M → M = cuM n q sc → ∀ b : Bool, b = decide (M < tenZ d.toNat) → ∀ V : Int, V = M % tenZ d.toNat →
   (bif decide (n < 0) || true then (bif decide (n < 0) && g then Value.tuple ⟨[.int .i64 (IntKind.wrap .i64 (0 - IntKind.wrap .i64 V)), .bool b]⟩ = Value.tuple ⟨[.int .i64 (cuN n q sc d g), .bool (cuF n q sc d g)]⟩
    else bif (bif b then decide (n ≥ 0) || true else true) then Value.tuple ⟨[.int .i64 (bif b then bif decide (n ≥ 0) then IntKind.wrap .i64 V else IntKind.wrap .i64 V else IntKind.wrap .i64 V), .bool (b && (decide (n ≥ 0) || V == 0))]⟩ = Value.tuple ⟨[.int .i64 (cuN n q sc d g), .bool (cuF n q sc d g)]⟩ else False) else False) := by
  intro M hM0 hM b hb V hV
  have hv0 := Int.emod_nonneg M (show tenZ d.toNat ≠ 0 by omega)
  have hv1 := Int.emod_lt_of_pos M (show 0 < tenZ d.toNat by omega)
  rw [← hV] at hv0 hv1
  have hV' : cuV n q sc d = V := by rw [cuV, ← hM, hV]
  refine c_t (by simp) ?_
  rw [w64 (n := V) (by omega), w64 (by omega)]
  by_cases hn : n < 0
  ·have hn' : ¬ n ≥ 0 := by omega
   cases g with
   | true => simp [cuN, cuF, hn, hV', ← hM, ← hb, hn']
   | false =>
    cases b <;> simp [cuN, cuF, hn, hV', ← hM, ← hb, hn']
  ·have hn' : n ≥ 0 := by omega
   cases g <;> cases b <;> simp [cuN, cuF, hn, hV', ← hM, ← hb, hn']
 refine c_t (decide_eq_true ⟨h7, h8⟩) (c_t (decide_eq_true (by omega)) (cond_intro (fun hq => ?_) (fun hq => ?_)))
 ·have hq := of_decide_eq_true hq
  have tu := tenZ_le (n := (q - sc).toNat) (by omega)
  have M0 : 0 ≤ (n.natAbs : Int) / tenZ (q - sc).toNat := Int.ediv_nonneg (by omega) (by omega)
  have M1 : (n.natAbs : Int) / tenZ (q - sc).toNat ≤ 9223372036854775808 := Int.le_trans (Int.ediv_le_self _ (by omega)) na
  rw [w64 (n := q - sc) (by omega), wu64 (n := tenZ (q - sc).toNat) (by omega), Int.tdiv_eq_ediv_of_nonneg (by omega), wu64 (n := tenZ d.toNat) (by omega), wu64 (n := (n.natAbs : Int) / tenZ (q - sc).toNat) (by omega), Int.tmod_eq_emod_of_nonneg M0]
  have e := fin _ M0 (by rw [cuM, if_pos hq]) _ rfl _ rfl
  exact c_t (decide_eq_true (by omega)) (c_t (decide_eq_true (by omega)) (c_t (decide_eq_true (by omega)) e))
 ·have hq := of_decide_eq_false hq
  have tu := tenZ_le (n := (sc - q).toNat) (by omega)
  have tu9 := tenZ_le9 (n := (sc - q).toNat) (by omega)
  have ed : tenZ d.toNat = tenZ (sc - q).toNat * tenZ (d.toNat - (sc - q).toNat) := by rw [← tenZ_add]; congr 1; omega
  have tw := tenZ_le9 (n := d.toNat - (sc - q).toNat) (by omega)
  have tw1 := tenZ_le (n := d.toNat - (sc - q).toNat) (by omega)
  have ediv : tenZ d.toNat / tenZ (sc - q).toNat = tenZ (d.toNat - (sc - q).toNat) := by rw [ed]; exact Int.mul_ediv_cancel_left _ (by omega)
  have v0 := Int.emod_nonneg (n.natAbs : Int) (show tenZ d.toNat ≠ 0 by omega)
  have v1 := Int.emod_lt_of_pos (n.natAbs : Int) (show 0 < tenZ d.toNat by omega)
  have p0 : 0 ≤ (n.natAbs : Int) % tenZ d.toNat * tenZ (sc - q).toNat := Int.mul_nonneg v0 (by omega)
  have p1 : (n.natAbs : Int) % tenZ d.toNat * tenZ (sc - q).toNat ≤ 1000000000 * 1000000000 := Int.mul_le_mul (by omega) tu9 (by omega) (by omega)
  have bb : decide ((n.natAbs : Int) < tenZ (d.toNat - (sc - q).toNat)) = decide ((n.natAbs : Int) * tenZ (sc - q).toNat < tenZ d.toNat) := by
   rw [decide_eq_decide, ed, Int.mul_comm (tenZ (sc - q).toNat)]
   exact (Int.mul_lt_mul_right (by omega)).symm
  have vv : (n.natAbs : Int) % tenZ d.toNat * tenZ (sc - q).toNat % tenZ d.toNat = (n.natAbs : Int) * tenZ (sc - q).toNat % tenZ d.toNat := by
   rw [Int.mul_emod, Int.emod_emod_of_dvd _ (Int.dvd_refl _), ← Int.mul_emod]
  rw [w64 (n := sc - q) (by omega), wu64 (n := tenZ (sc - q).toNat) (by omega), wu64 (n := tenZ d.toNat) (by omega), Int.tdiv_eq_ediv_of_nonneg (by omega), ediv, Int.tmod_eq_emod_of_nonneg (a := (n.natAbs : Int)) (by omega), wu64 (n := (n.natAbs : Int) % tenZ d.toNat * tenZ (sc - q).toNat) (by omega), wu64 (n := tenZ (d.toNat - (sc - q).toNat)) (by omega), Int.tmod_eq_emod_of_nonneg p0, vv, bb]
  have e := fin ((n.natAbs : Int) * tenZ (sc - q).toNat) (Int.mul_nonneg (by omega) (by omega)) (by rw [cuM, if_neg hq]) _ rfl _ rfl
  exact c_t (decide_eq_true (by omega)) (c_t (decide_eq_true (by omega)) (c_t (decide_eq_true (by omega)) (c_t (decide_eq_true (by omega)) e)))
def s98 (c : U8) (dr : U8) (m : Bool) : Bool × Value := (true, .int .u8 (ssZ c.n dr.n m))
theorem fn98 : Fn1 Tryz.prog 261 Tryz.f261 := ⟨Tryz.func261, by kernel_rfl, by kernel_rfl, by kernel_rfl⟩
theorem v98 (c : U8) (dr : U8) (m : Bool) (R : Value → Prop) : bodyQ Tryz.prog G8 noL Tryz.f261 [Enc.enc c, Enc.enc dr, Enc.enc m] (fun _ => none) 0 (fun v _ _ => R v) = ( bif U8.n dr != 0 || true then bif U8.n dr != 0 && U8.n c == U8.n dr then R (.int .u8 32) else bif hasZ (bz (ByteArray.mk #[67, 82, 68, 66])) (U8.n c) then bif m then R (.int .u8 (U8.n c)) else R (.int .u8 32) else R (.int .u8 (sgZ (U8.n c) m)) else False) := by kernel_rfl
theorem ok98 : PureOK Tryz.prog 261 (sp3 s98) := by
 refine qure3 ok_G8 hmix fn98 lokf_none (Nat.le_of_ble_eq_true (by kernel_rfl)) fun c dr m hc => ?_
 rw [DoesQ, v98]
 try dsimp only [s98]
 refine c_t (by simp) (cond_intro (fun h => ?_) (fun h => cond_intro (fun h2 => cond_intro (fun h3 => ?_) (fun h3 => ?_)) (fun h2 => ?_)))
 ·simp only [ssZ, h, cond_true]
 ·have h2' : hasZ [67, 82, 68, 66] c.n = true := h2
  simp only [ssZ, h, h2', h3, cond_true, cond_false]
 ·have h2' : hasZ [67, 82, 68, 66] c.n = true := h2
  simp only [ssZ, h, h2', h3, cond_true, cond_false]
 ·have h2' : hasZ [67, 82, 68, 66] c.n = false := h2
  simp only [ssZ, h, h2', cond_false]
end Go.Px
end
section
namespace Go.Px
open Go Go.Ab Go.Proofs
def G9 : Env := (((G8.add 111 (sp1 s47)).add 230 (sp3 s65)).add 261 (sp3 s98))
theorem ok_G9 : EnvOK Tryz.prog G9 := env_add (env_add (env_add (ok_G8) ok47) ok65) ok98
def digZ : Int → Nat → List Int
 | _, 0 => []
 | v, n + 1 => digZ (v / 10) n ++ [48 + v % 10]
theorem isBytes_iff {l : List Value} : isBytes l = true ↔ ∀ v ∈ l, ∃ n, v = .int .u8 n := by
 induction l with
 | nil => simp [isBytes]
 | cons v r ih =>
  constructor
  ·intro h
   unfold isBytes at h
   split at h
   ·rename_i heq; cases heq
   ·rename_i n r' heq
    cases heq
    intro u hu
    rcases List.mem_cons.1 hu with rfl | hu
    ·exact ⟨_, rfl⟩
    ·exact ih.1 h u hu
   ·cases h
  ·intro h
   obtain ⟨n, rfl⟩ := h v (List.mem_cons_self ..)
   exact ih.2 fun u hu => h u (List.mem_cons_of_mem _ hu)
theorem RowP.set {c : List Value} {n cap : Nat} (h : RowP c n cap) (x : Int) {i : Nat} (hi : i < n) :
  RowP (setL c (0 + i * 1) [.int .u8 x]) n cap ∧ zc (setL c (0 + i * 1) [.int .u8 x]) n = (zc c n).set i x ∧ Nat.ble (0 + i * 1 + 1) c.length = true := by
 have e : setL c (0 + i * 1) [.int .u8 x] = c.set i (.int .u8 x) := by simp [setL]
 have h1 := h.len
 have h2 := h.le
 rw [e]
 refine ⟨⟨?_, ?_, by simp [h1], h2, h.cap⟩, ?_, Nat.ble_eq_true_of_le (by omega)⟩
 ·rw [List.take_set]
  refine isBytes_iff.2 fun v hv => ?_
  rcases List.mem_or_eq_of_mem_set hv with hv | rfl
  ·exact isBytes_iff.1 h.bytes v hv
  ·exact ⟨_, rfl⟩
 ·refine plainL_iff.2 fun v hv => ?_
  rcases List.mem_or_eq_of_mem_set hv with hv | rfl
  ·exact plainL_iff.1 h.plain v hv
  ·rfl
 ·simp only [zc, List.take_set, List.map_set, iv]
theorem zrow_u8 (k : Nat) : zrow (.int .u8 0) k = cz (List.replicate k 0) ++ [] := by
 simp only [zrow, Builtin.zeroCells, cz, Value.cells, List.append_nil, List.map_replicate]
 apply List.ext_getElem?
 intro i
 simp only [Array.toList_map, Array.toList_range, List.getElem?_map, List.getElem?_replicate]
 by_cases h : i < k
 ·simp [h, Nat.mod_one]
 ·simp [h]
theorem row_zero {k : Nat} (hk : k ≤ 9223372036854775807) : RowP (zrow (.int .u8 0) k) k k := by
 have := (row_mk (List.replicate k 0) (tail := []) (cap := k) rfl (by simp) hk).1
 rw [zrow_u8]
 simpa using this
theorem w8u (v : Int) (h : 0 ≤ v) : IntKind.wrap .u8 (IntKind.wrap .u64 (48 + v.tmod 10)) = 48 + v % 10 := by
 rw [Int.tmod_eq_emod_of_nonneg h, wu64 (by omega), w8 (by omega)]
theorem rep_isB (c : Int) (n : Nat) (h : 0 ≤ c ∧ c < 256) : IsB (rep1 c n) := fun x hx => by rw [List.eq_of_mem_replicate hx]; exact h
theorem digZ_len : ∀ (n : Nat) (v : Int), (digZ v n).length = n
 | 0, _ => rfl
 | n + 1, v => by simp [digZ, digZ_len n]
def V38_0 : Int × List Value × Nat × Nat × Int → List Value := fun (v, d, m, cap, i) => [C64 v, .slice (some ⟨200, 0, some 1⟩) m cap, I i]
def B38_0 : Int × List Value × Nat × Nat × Int → List (Option Blk) := fun (v, d, m, cap, i) => [some ⟨d, 5, true⟩]
def S38_0 : LSpecA (Int × List Value × Nat × Nat × Int) where
 live := [5, 6, 7]
 mid := [200]
 n := 210
 ap := [(.tmp 6, 200)]
 dec vs bs := match vs, bs with | [.int .u64 v, .slice (some ⟨200, 0, some 1⟩) m cap, .int .i64 i], [some ⟨d, 5, true⟩] => some (v, d, m, cap, i) | _, _ => none
 pre := fun (v, d, m, cap, i) => rowOK d m cap && decide (-1 ≤ i ∧ i < m ∧ m ≤ 1000 ∧ 0 ≤ v ∧ v ≤ 9223372036854775808)
 fin := fun (v, d, m, cap, i) Z => ∀ d' v', rowOK d' m cap = true → zc d' m = digZ v (i + 1).toNat ++ (zc d m).drop (i + 1).toNat → Z (.exit 0) [.int .u64 v', .slice (some ⟨200, 0, some 1⟩) m cap, I (-1)] [some ⟨d', 5, true⟩]
theorem r38_0 (v : Int) (d : List Value) (m : Nat) (cap : Nat) (i : Int) (jk : Tmps) (R : Exit → List Value → List (Option Blk) → Prop) : (codeQ Tryz.prog G9 noL Tryz.f257.ntmps (loopOf Tryz.f257 0) (tl S38_0.live (V38_0 (v, d, m, cap, i)) jk) (ml S38_0.mid (B38_0 (v, d, m, cap, i))) S38_0.n fun e t' m' _ => S38_0.out R e t' m') = ( bif decide (i ≥ 0) then bif decide (0 ≤ i ∧ i < (↑m : Int)) then bif Nat.ble (0 + Int.toNat i * 1 + 1) (List.length d) then bif goodL [(200, 200)] (setL d (0 + Int.toNat i * 1) [.int .u8 (IntKind.wrap .u8 (IntKind.wrap .u64 (48 + Int.tmod v 10)))]) && true && true then R Exit.normal [.int .u64 (IntKind.wrap .u64 (Int.tdiv v 10)), .slice (some (.mk 200 0 (some 1))) m cap, I (IntKind.wrap .i64 (i - 1))] [some (.mk (rlbL [(200, 200)] (setL d (0 + Int.toNat i * 1) [.int .u8 (IntKind.wrap .u8 (IntKind.wrap .u64 (48 + Int.tmod v 10)))])) 5 true)] else False else False else False else bif goodL [(200, 200)] d && true && true then R (Exit.exit 0) [.int .u64 v, .slice (some (.mk 200 0 (some 1))) m cap, I i] [some (.mk (rlbL [(200, 200)] d) 5 true)] else False) := by kernel_rfl
theorem l38_0 : LOKf Tryz.prog (oneL 0 S38_0.hA) Tryz.f257 := by
 refine lokf_one (h := S38_0.hA) (by kernel_rfl) (loop_specA ok_G9 hmix (by kernel_rfl) (lok_none _) S38_0 V38_0 B38_0 (fun (v, d, m, cap, i) => (i + 1).toNat) ?_ ?_ ?_)
 ·intro vs bs s h
  simp only [S38_0] at h
  split at h
  all_goals first | (cases h; exact ⟨rfl, rfl⟩) | cases h
 ·exact fun ⟨v, d, m, cap, i⟩ hp => by
   simp only [S38_0, Bool.and_eq_true] at hp
   simp [V38_0, B38_0, S38_0, idsLt, idsLtB, idsL, ids, ids_plainL (rowOK_iff.1 hp.1).plain]
 ·intro ⟨v, d, m, cap, i⟩ jk Z hp hf
  rw [r38_0]
  simp only [S38_0] at hp hf
  simp only [Bool.and_eq_true, decide_eq_true_eq] at hp
  obtain ⟨hr, hp⟩ := hp
  have hr := rowOK_iff.1 hr
  have hz := zc_length hr
  refine cond_intro (fun h => ?_) (fun h => ?_)
  ·have h := of_decide_eq_true h
   rw [w8u v hp.2.2.2.1]
   obtain ⟨h1, h2, h3⟩ := hr.set (48 + v % 10) (i := i.toNat) (by omega)
   have e3 : setL d (0 + i.toNat * 1) [.int .u8 (48 + v % 10)] = d.set i.toNat (.int .u8 (48 + v % 10)) := by simp [setL]
   refine c_t (decide_eq_true (by omega)) (c_t h3 (c_t (by rw [h1.good]; rfl) ?_))
   rw [h1.rlb, Int.tdiv_eq_ediv_of_nonneg (by omega), wu64 (n := v / 10) (by omega), w64 (by omega)]
   refine ⟨(v / 10, _, m, cap, i - 1), rfl, rfl, by simp only [S38_0, Bool.and_eq_true, decide_eq_true_eq]; exact ⟨rowOK_iff.2 h1, by omega⟩, by simp only; omega, ?_⟩
   intro d' v' g1 g2
   refine hf d' v' g1 ?_
   have e1 : (i + 1).toNat = i.toNat + 1 := by omega
   have e2 : (i - 1 + 1).toNat = i.toNat := by omega
   rw [g2, h2, e1, e2, digZ, List.append_assoc]
   congr 1
   rw [List.drop_set]
   have hd : (zc d m).drop i.toNat = (zc d m).getD i.toNat 0 :: (zc d m).drop (i.toNat + 1) := getD_drop _ _ (by omega)
   rw [if_neg (by omega), hd, Nat.sub_self]
   rfl
  ·have h := of_decide_eq_false h
   refine c_t (by rw [hr.good]; rfl) ?_
   rw [hr.rlb]
   obtain rfl : i = -1 := by omega
   exact hf d v (rowOK_iff.2 hr) (by simp [digZ])
def s38 (n : Int) (k : Int) : Bool × Value := (decide (0 ≤ k ∧ k ≤ 1000 ∧ -9223372036854775808 ≤ n ∧ n ≤ 9223372036854775807), .string (sz (digZ n.natAbs k.toNat)))
theorem fn38 : Fn1 Tryz.prog 257 Tryz.f257 := ⟨Tryz.func257, by kernel_rfl, by kernel_rfl, by kernel_rfl⟩
theorem v38 (n : Int) (k : Int) (R : Value → Prop) : bodyQ Tryz.prog G9 (oneL 0 S38_0.hA) Tryz.f257 [Enc.enc n, Enc.enc k] (fun _ => none) 0 (fun v _ _ => R v) = ( bif decide (-9223372036854775808 ≤ n ∧ n ≤ 9223372036854775807) then bif decide (0 ≤ k ∧ k ≤ k) && fitsA (Int.toNat k) 1 then bif goodL [(5, 200)] (zrow (.int .u8 0) (Int.toNat k)) && true && true && (idsLt 210 (rlbL [(5, 200)] (zrow (.int .u8 0) (Int.toNat k))) && true) then bif LSpec.pre (LSpecA.toLSpec S38_0) ((↑(Int.natAbs n) : Int), rlbL [(5, 200)] (zrow (.int .u8 0) (Int.toNat k)), Int.toNat k, Int.toNat k, IntKind.wrap .i64 (k - 1)) then ∀ (d' : List Value) (v' : Int), rowOK d' (Int.toNat k) (Int.toNat k) = true → zc d' (Int.toNat k) = digZ (↑(Int.natAbs n) : Int) (Int.toNat (IntKind.wrap .i64 (k - 1) + 1)) ++ List.drop (Int.toNat (IntKind.wrap .i64 (k - 1) + 1)) (zc (rlbL [(5, 200)] (zrow (.int .u8 0) (Int.toNat k))) (Int.toNat k)) → bif idsLt 210 d' && true then ∀ (x : Tmps), bif bytesOK d' 0 (Int.toNat k) then R (S (bytesOf d' 0 (Int.toNat k))) else False else False else False else False else False else False) := by kernel_rfl
theorem ok38 : PureOK Tryz.prog 257 (sp2 s38) := by
 refine qure2 ok_G9 hmix fn38 l38_0 (Nat.le_of_ble_eq_true (by kernel_rfl)) fun n k hc => ?_
 rw [DoesQ, v38]
 have hc : (0 ≤ k ∧ k ≤ 1000 ∧ -9223372036854775808 ≤ n ∧ n ≤ 9223372036854775807) := of_decide_eq_true hc
 try dsimp only [s38]
 obtain ⟨h1, h2, h3, h4⟩ := hc
 have hr := row_zero (k := k.toNat) (by omega)
 refine c_t (decide_eq_true ⟨h3, h4⟩) (c_t (by simp [fitsA]; omega) (c_t ?_ ?_))
 ·rw [hr.good, hr.rlb, ids_plainB hr.plain]; rfl
 rw [hr.rlb, w64 (by omega)]
 refine c_t ?_ (fun d' v' g1 g2 => ?_)
 ·simp only [S38_0, Bool.and_eq_true, decide_eq_true_eq]
  exact ⟨rowOK_iff.2 hr, by omega⟩
 have g1 := rowOK_iff.1 g1
 refine c_t (by rw [ids_plainB g1.plain]; rfl) (fun _ => c_t g1.str.1 ?_)
 have hz := zc_length hr
 rw [g1.str.2, g2, show (k - 1 + 1).toNat = k.toNat by omega, List.drop_of_length_le (by omega), List.append_nil]
def G10 : Env := (G9.add 257 (sp2 s38))
theorem ok_G10 : EnvOK Tryz.prog G10 := env_add (ok_G9) ok38
def endGo : List Int → List Int → Int → Int
 | [], _, o => o
 | m :: r, ds, o => bif (m == 118 || m == 100) || (m == 99 && ds.headD 0 != 48) then o else endGo r (bif m == 99 then ds.tail else ds) (o + 1)
def ldc : List Int → Nat
 | [] => 0
 | m :: r => (bif m == 99 then 1 else 0) + ldc r
def endZ (ms ds : List Int) (w : Int) (k : Nat) : Int := bif !hasZ ms 99 then 0 else bif !hasZ ms 100 && decide (ds = rep1 48 k) then w else endGo ms ds 0
def V86_0 : Int × ByteArray × Bool × Int × Int × Int × Bool × ByteArray × ByteArray × Int × Int × Int → List Value := fun (r, z, zb, z1, z2, z3, zg, s, ms, o, d, i) => [I r, .pointer (some ⟨0, 0, some 0⟩), S s, S ms, I o, I d, I i]
def B86_0 : Int × ByteArray × Bool × Int × Int × Int × Bool × ByteArray × ByteArray × Int × Int × Int → List (Option Blk) := fun (r, z, zb, z1, z2, z3, zg, s, ms, o, d, i) => [some ⟨[S z, B zb, I z1, I z2, I z3, B zg], 131, true⟩]
def S86_0 : LSpec (Int × ByteArray × Bool × Int × Int × Int × Bool × ByteArray × ByteArray × Int × Int × Int) where
 live := [4, 2, 1, 5, 6, 7, 8]
 mid := [0]
 n := 100
 dec vs bs := match vs, bs with | [.int .i64 r, .pointer (some ⟨0, 0, some 0⟩), .string s, .string ms, .int .i64 o, .int .i64 d, .int .i64 i], [some ⟨[.string z, .bool zb, .int .i64 z1, .int .i64 z2, .int .i64 z3, .bool zg], 131, true⟩] => some (r, z, zb, z1, z2, z3, zg, s, ms, o, d, i) | _, _ => none
 pre := fun (r, z, zb, z1, z2, z3, zg, s, ms, o, d, i) => decide (0 ≤ i ∧ i ≤ ms.size ∧ ms.size ≤ 1000 ∧ 0 ≤ d ∧ o = i ∧ d + ldc ((bz ms).drop i.toNat) ≤ s.size ∧ s.size ≤ 1000)
 fin := fun (r, z, zb, z1, z2, z3, zg, s, ms, o, d, i) Z => (∀ o' d' i', Z .ret [I (endGo ((bz ms).drop i.toNat) ((bz s).drop d.toNat) o), .pointer (some ⟨0, 0, some 0⟩), S s, S ms, I o', I d', I i'] [some ⟨[S z, B zb, I z1, I z2, I z3, B zg], 131, true⟩]) ∧ (∀ d', Z (.exit 0) [I r, .pointer (some ⟨0, 0, some 0⟩), S s, S ms, I (endGo ((bz ms).drop i.toNat) ((bz s).drop d.toNat) o), I d', I ms.size] [some ⟨[S z, B zb, I z1, I z2, I z3, B zg], 131, true⟩])
theorem r86_0 (r : Int) (z : ByteArray) (zb : Bool) (z1 : Int) (z2 : Int) (z3 : Int) (zg : Bool) (s : ByteArray) (ms : ByteArray) (o : Int) (d : Int) (i : Int) (jk : Tmps) (R : Exit → List Value → List (Option Blk) → Prop) : (codeQ Tryz.prog G10 noL Tryz.f258.ntmps (loopOf Tryz.f258 0) (tl S86_0.live (V86_0 (r, z, zb, z1, z2, z3, zg, s, ms, o, d, i)) jk) (ml S86_0.mid (B86_0 (r, z, zb, z1, z2, z3, zg, s, ms, o, d, i))) S86_0.n fun e t' m' _ => R e (List.map t' S86_0.live) (List.map m' S86_0.mid)) = ( bif decide (i < (↑(ByteArray.size ms) : Int)) then bif decide (0 ≤ i ∧ i < (↑(ByteArray.size ms) : Int)) && (byteAt ms (Int.toNat i) == 118 || decide (0 ≤ i ∧ i < (↑(ByteArray.size ms) : Int)) && (byteAt ms (Int.toNat i) == 100 || decide (0 ≤ i ∧ i < (↑(ByteArray.size ms) : Int)) && bif byteAt ms (Int.toNat i) == 99 then decide (0 ≤ d ∧ d < (↑(ByteArray.size s) : Int)) && true else true)) then bif byteAt ms (Int.toNat i) == 118 || (byteAt ms (Int.toNat i) == 100 || byteAt ms (Int.toNat i) == 99 && byteAt s (Int.toNat d) != 48) then R Exit.ret [I o, .pointer (some (.mk 0 0 (some 0))), S s, S ms, I o, I d, I i] [some (.mk [S z, B zb, I z1, I z2, I z3, B zg] 131 true)] else bif decide (0 ≤ i ∧ i < (↑(ByteArray.size ms) : Int)) then bif byteAt ms (Int.toNat i) == 99 then R Exit.normal [I r, .pointer (some (.mk 0 0 (some 0))), S s, S ms, I (IntKind.wrap .i64 (o + 1)), I (IntKind.wrap .i64 (d + 1)), I (IntKind.wrap .i64 (i + 1))] [some (.mk [S z, B zb, I z1, I z2, I z3, B zg] 131 true)] else R Exit.normal [I r, .pointer (some (.mk 0 0 (some 0))), S s, S ms, I (IntKind.wrap .i64 (o + 1)), I d, I (IntKind.wrap .i64 (i + 1))] [some (.mk [S z, B zb, I z1, I z2, I z3, B zg] 131 true)] else False else False else R (Exit.exit 0) [I r, .pointer (some (.mk 0 0 (some 0))), S s, S ms, I o, I d, I i] [some (.mk [S z, B zb, I z1, I z2, I z3, B zg] 131 true)]) := by kernel_rfl
theorem l86_0 : LOKf Tryz.prog (oneL 0 S86_0.h) Tryz.f258 := by
 refine lokf_one (h := S86_0.h) (by kernel_rfl) (loop_specQ ok_G10 hmix (by kernel_rfl) (lok_none _) S86_0 V86_0 B86_0 (fun (r, z, zb, z1, z2, z3, zg, s, ms, o, d, i) => (ms.size - i).toNat) ?_ ?_ ?_)
 ·intro vs bs s h
  simp only [S86_0] at h
  split at h
  all_goals first | (cases h; exact ⟨rfl, rfl⟩) | cases h
 ·exact fun _ _ _ h => h
 ·intro ⟨r, z, zb, z1, z2, z3, zg, s, ms, o, d, i⟩ jk Z hp hf
  rw [r86_0]
  simp only [S86_0] at hp hf
  simp only [decide_eq_true_eq] at hp
  refine cond_intro (fun h => ?_) (fun h => ?_)
  ·have h := of_decide_eq_true h
   have h1 : decide (0 ≤ i ∧ i < (ms.size : Int)) = true := decide_eq_true (by omega)
   rw [bz_at hp.1 h] at hf
   have hq := hp.2.2.2.2.2.1
   rw [bz_at hp.1 h, ldc] at hq
   have hd : byteAt ms i.toNat = 99 → d < s.size := by
    intro e
    rw [e] at hq
    simp only [beq_self_eq_true, cond_true] at hq
    omega
   have hc : (decide (0 ≤ i ∧ i < (ms.size : Int)) && (byteAt ms i.toNat == 118 || decide (0 ≤ i ∧ i < (ms.size : Int)) && (byteAt ms i.toNat == 100 || decide (0 ≤ i ∧ i < (ms.size : Int)) && bif byteAt ms i.toNat == 99 then decide (0 ≤ d ∧ d < (s.size : Int)) && true else true))) = true := by
    rw [h1]
    cases e : (byteAt ms i.toNat == 99) with
    | true =>
     have := hd (eq_of_beq e)
     rw [cond_true, decide_eq_true (show 0 ≤ d ∧ d < (s.size : Int) by omega)]
     simp
    | false => simp
   have hhd : byteAt ms i.toNat = 99 → (bz s).drop d.toNat = byteAt s d.toNat :: (bz s).drop (d + 1).toNat := fun e => bz_at hp.2.2.2.1 (hd e)
   have hb : (byteAt ms i.toNat == 99 && byteAt s d.toNat != 48) = (byteAt ms i.toNat == 99 && ((bz s).drop d.toNat).headD 0 != 48) := by
    cases e : (byteAt ms i.toNat == 99) with
    | true => rw [hhd (eq_of_beq e)]; rfl
    | false => rfl
   rw [endGo, Bool.or_assoc] at hf
   refine c_t hc ?_
   rw [hb]
   refine cond_intro (fun a => ?_) (fun a => c_t h1 (cond_intro (fun b => ?_) (fun b => ?_)))
   ·rw [a, cond_true] at hf
    exact hf.1 _ _ _
   ·rw [a, b, cond_false, cond_true, hhd (eq_of_beq b), List.tail_cons] at hf
    rw [b, cond_true] at hq
    have := hd (eq_of_beq b)
    rw [w64 (n := o + 1) (by omega), w64 (n := d + 1) (by omega), w64 (by omega)]
    exact ⟨(r, z, zb, z1, z2, z3, zg, s, ms, o + 1, d + 1, i + 1), rfl, rfl, by simp only [S86_0, decide_eq_true_eq]; omega, by simp only; omega, hf⟩
   ·rw [a, b, cond_false, cond_false] at hf
    rw [b, cond_false] at hq
    rw [w64 (n := o + 1) (by omega), w64 (by omega)]
    exact ⟨(r, z, zb, z1, z2, z3, zg, s, ms, o + 1, d, i + 1), rfl, rfl, by simp only [S86_0, decide_eq_true_eq]; omega, by simp only; omega, hf⟩
  ·have h := of_decide_eq_false h
   rw [bz_end (s := ms) (by omega), endGo] at hf
   obtain rfl : i = ms.size := by omega
   exact hf.2 _
def s86 (p : Pic) (s : ByteArray) : Bool × Value := (decide (p.s.size ≤ 900 ∧ s.size ≤ 1000 ∧ ldc (marksZ (bz p.s)) ≤ s.size ∧ 0 ≤ p.d ∧ p.d ≤ 1000), .int .i64 (endZ (marksZ (bz p.s)) (bz s) p.w p.d.toNat))
theorem fn86 : Fn1 Tryz.prog 258 Tryz.f258 := ⟨Tryz.func258, by kernel_rfl, by kernel_rfl, by kernel_rfl⟩
theorem v86 (p : Pic) (s : ByteArray) (R : Value → Prop) : bodyQ Tryz.prog G10 (oneL 0 S86_0.h) Tryz.f258 [Enc.enc p, Enc.enc s] (fun _ => none) 0 (fun v _ _ => R v) = ( bif decide (ByteArray.size (Pic.s p) ≤ 1000) then bif decide (ByteArray.size (sz (marksZ (bz (Pic.s p)))) ≤ 9223372036854775807) then bif !hasZ (bz (sz (marksZ (bz (Pic.s p))))) 99 then R (I 0) else bif decide (ByteArray.size (sz (marksZ (bz (Pic.s p)))) ≤ 9223372036854775807) && bif !hasZ (bz (sz (marksZ (bz (Pic.s p))))) 100 then decide (0 ≤ Pic.d p ∧ Pic.d p ≤ 1000) && true else true then bif !hasZ (bz (sz (marksZ (bz (Pic.s p))))) 100 && ByteArray.toList s == ByteArray.toList (sz (rep1 48 (Int.toNat (Pic.d p)))) then R (I (Pic.w p)) else bif LSpec.pre S86_0 (0, Pic.s p, Pic.n p, Pic.w p, Pic.d p, Pic.q p, Pic.g p, s, sz (marksZ (bz (Pic.s p))), 0, 0, 0) then (∀ (o' d' i' : Int) (x : Tmps), R (I (endGo (List.drop (Int.toNat 0) (bz (sz (marksZ (bz (Pic.s p)))))) (List.drop (Int.toNat 0) (bz s)) 0))) ∧ ∀ (d' : Int) (x : Tmps), R (I (endGo (List.drop (Int.toNat 0) (bz (sz (marksZ (bz (Pic.s p)))))) (List.drop (Int.toNat 0) (bz s)) 0)) else False else False else False else False) := by kernel_rfl
theorem ok86 : PureOK Tryz.prog 258 (sp2 s86) := by
 refine qure2 ok_G10 hmix fn86 l86_0 (Nat.le_of_ble_eq_true (by kernel_rfl)) fun p s hc => ?_
 rw [DoesQ, v86]
 have hc : (p.s.size ≤ 900 ∧ s.size ≤ 1000 ∧ ldc (marksZ (bz p.s)) ≤ s.size ∧ 0 ≤ p.d ∧ p.d ≤ 1000) := of_decide_eq_true hc
 try dsimp only [s86]
 have hml : (sz (marksZ (bz p.s))).size = p.s.size := by rw [sz_size, marks_len, bz_length]
 have hB := bz_sz (marks_isB (bz p.s))
 have hr1 : bz (sz (rep1 48 p.d.toNat)) = rep1 48 p.d.toNat := bz_sz (rep_isB 48 _ (by omega))
 rw [hB, toList_beq, hr1, hml]
 refine c_t (decide_eq_true (by omega)) (c_t (decide_eq_true (by omega)) (cond_intro (fun a => ?_) (fun a => c_t ?_ (cond_intro (fun b => ?_) (fun b => c_t ?_ ?_)))))
 ·simp only [endZ, a, cond_true]
 ·rw [decide_eq_true (show p.s.size ≤ 9223372036854775807 by omega), decide_eq_true (show 0 ≤ p.d ∧ p.d ≤ 1000 by omega)]
  cases hasZ (marksZ (bz p.s)) 100 <;> rfl
 ·simp only [endZ, a, b, cond_true, cond_false]
 ·simp only [S86_0, decide_eq_true_eq, hml, hB, Int.toNat_zero, List.drop_zero]
  exact ⟨Int.le_refl _, by omega, by omega, Int.le_refl _, trivial, by omega, by omega⟩
 ·have e : endZ (marksZ (bz p.s)) (bz s) p.w p.d.toNat = endGo (marksZ (bz p.s)) (bz s) 0 := by simp only [endZ, a, b, cond_false]
  rw [e, drop0]
  exact ⟨fun _ _ _ _ => rfl, fun _ _ => rfl⟩
end Go.Px
end
section
namespace Go.Px
open Go Go.Ab Go.Proofs
def G11 : Env := (G10.add 258 (sp2 s86))
theorem ok_G11 : EnvOK Tryz.prog G11 := env_add (ok_G10) ok86
def fdGo (le fill dr : Int) (neg : Bool) : List Int → List Int → List Int → Int → List Int
 | [], _, _, _ => []
 | m :: r, sp, ds, o =>
  bif m == 100 then fmZ (sp.headD 0) (ds.headD 0) neg :: fdGo le fill dr neg r sp.tail ds.tail (o + 1)
  else bif m == 99 then (bif decide (o < le) then fill else ds.headD 0) :: fdGo le fill dr neg r sp.tail ds.tail (o + 1)
  else bif m == 105 then (bif sp.headD 0 == 66 then 32 else bif decide (o < le) then fill else sp.headD 0) :: fdGo le fill dr neg r sp.tail ds (o + 1)
  else bif m != 118 then ssZ (sp.headD 0) dr neg :: fdGo le fill dr neg r sp.tail ds (o + 1)
  else fdGo le fill dr neg r sp.tail ds o
def dgL (l : List Int) : Bool := l.all fun d => decide (48 ≤ d ∧ d ≤ 57)
def fdFl (sp : List Int) : Int := if hasZ sp 42 = true then 42 else 32
def fdLe (sp : List Int) (w : Int) (k : Nat) (n : Int) : Int := endZ (marksZ sp) (digZ n.natAbs k) w k
def fdBl (sp : List Int) (w : Int) (k : Nat) (n : Int) : Bool := decide (fdLe sp w k n > 0) && (fdLe sp w k n == w && (n == 0 && !hasZ (marksZ sp) 100))
def fdDr (sp : List Int) : Int := bif !hasZ sp 90 && (!hasZ sp 42 && hasZ (marksZ sp) 99) then drZ sp else 0
def fdOut (sp : List Int) (w : Int) (k : Nat) (n : Int) : List Int := fdGo (fdLe sp w k n) (fdFl sp) (fdDr sp) (decide (n < 0)) (marksZ sp) sp (digZ n.natAbs k) 0
def fieldZ (sp : List Int) (w : Int) (k : Nat) (n : Int) : List Int :=
 bif fdBl sp w k n then rep1 (fdFl sp) w.toNat else bif fdDr sp != 0 then (fdOut sp w k n).set (fdLe sp w k n - 1).toNat (sgZ (fdDr sp) (decide (n < 0))) else fdOut sp w k n
def fdOK (sp : List Int) (w : Int) (k : Nat) (n : Int) : Bool := fdBl sp w k n || (fdDr sp == 0 || decide (1 ≤ fdLe sp w k n ∧ fdLe sp w k n ≤ (fdOut sp w k n).length))
theorem digZ_dg : ∀ (n : Nat) (v : Int), dgL (digZ v n) = true
 | 0, _ => rfl
 | n + 1, v => by
  have := digZ_dg n (v / 10)
  simp only [dgL] at this ⊢
  simp only [digZ, List.all_append, this, List.all_cons, List.all_nil, Bool.and_true, Bool.true_and, decide_eq_true_eq]
  omega
theorem dg_isB {l : List Int} (h : dgL l = true) : IsB l := fun x hx => by
 simp only [dgL, List.all_eq_true, decide_eq_true_eq] at h
 have := h x hx
 omega
theorem ldc_le : ∀ l : List Int, (ldc l : Int) ≤ pdGo l
 | [] => by simp [ldc, pdGo]
 | m :: r => by
  have := ldc_le r
  simp only [ldc, pdGo, isP]
  cases m == 100 <;> cases m == 99 <;> simp <;> omega
theorem dg_at {s : ByteArray} (h : dgL (bz s) = true) {k : Int} (h0 : 0 ≤ k) (h1 : k < s.size) : 48 ≤ byteAt s k.toNat ∧ byteAt s k.toNat ≤ 57 := by
 have hm : byteAt s k.toNat ∈ bz s := by
  have : byteAt s k.toNat ∈ (bz s).drop k.toNat := by rw [bz_at h0 h1]; exact List.mem_cons_self ..
  exact List.mem_of_mem_drop this
 simp only [dgL, List.all_eq_true, decide_eq_true_eq] at h
 exact h _ hm
def V66_0 : Int × ByteArray × Bool × Int × Int × Int × Bool × ByteArray × Int × Int × ByteArray × Int × List Value × Nat × Nat × Int × Int → List Value := fun (n, z, zb, z1, z2, z3, zg, s, le, fl, ms, dr, d, m, cap, k, i) => [I n, .pointer (some ⟨0, 0, some 0⟩), S s, I le, C8 fl, S ms, C8 dr, .slice (some ⟨200, 0, some 1⟩) m cap, I k, I i]
def B66_0 : Int × ByteArray × Bool × Int × Int × Int × Bool × ByteArray × Int × Int × ByteArray × Int × List Value × Nat × Nat × Int × Int → List (Option Blk) := fun (n, z, zb, z1, z2, z3, zg, s, le, fl, ms, dr, d, m, cap, k, i) => [some ⟨[S z, B zb, I z1, I z2, I z3, B zg], 131, true⟩, some ⟨d, 5, true⟩]
def S66_0 : LSpecA (Int × ByteArray × Bool × Int × Int × Int × Bool × ByteArray × Int × Int × ByteArray × Int × List Value × Nat × Nat × Int × Int) where
 live := [1, 2, 5, 6, 7, 8, 9, 10, 11, 12]
 mid := [0, 200]
 n := 260
 ap := [(.tmp 10, 200)]
 dec vs bs := match vs, bs with | [.int .i64 n, .pointer (some ⟨0, 0, some 0⟩), .string s, .int .i64 le, .int .u8 fl, .string ms, .int .u8 dr, .slice (some ⟨200, 0, some 1⟩) m cap, .int .i64 k, .int .i64 i], [some ⟨[.string z, .bool zb, .int .i64 z1, .int .i64 z2, .int .i64 z3, .bool zg], 131, true⟩, some ⟨d, 5, true⟩] => some (n, z, zb, z1, z2, z3, zg, s, le, fl, ms, dr, d, m, cap, k, i) | _, _ => none
 pre := fun (n, z, zb, z1, z2, z3, zg, s, le, fl, ms, dr, d, m, cap, k, i) => rowOK d m cap && (dgL (bz s) && decide (0 ≤ i ∧ i ≤ ms.size ∧ ms.size ≤ 1000 ∧ ms.size = z.size ∧ 0 ≤ k ∧ k + pdGo ((bz ms).drop i.toNat) ≤ s.size ∧ s.size ≤ 1000 ∧ m ≤ i))
 fin := fun (n, z, zb, z1, z2, z3, zg, s, le, fl, ms, dr, d, m, cap, k, i) Z => ∀ d' m' cap' k', rowOK d' m' cap' = true → zc d' m' = zc d m ++ fdGo le fl dr (decide (n < 0)) ((bz ms).drop i.toNat) ((bz z).drop i.toNat) ((bz s).drop k.toNat) m → Z (.exit 0) [I n, .pointer (some ⟨0, 0, some 0⟩), S s, I le, .int .u8 fl, S ms, .int .u8 dr, .slice (some ⟨200, 0, some 1⟩) m' cap', I k', I ms.size] [some ⟨[S z, B zb, I z1, I z2, I z3, B zg], 131, true⟩, some ⟨d', 5, true⟩]
theorem r66_0 (n : Int) (z : ByteArray) (zb : Bool) (z1 : Int) (z2 : Int) (z3 : Int) (zg : Bool) (s : ByteArray) (le : Int) (fl : Int) (ms : ByteArray) (dr : Int) (d : List Value) (m : Nat) (cap : Nat) (k : Int) (i : Int) (jk : Tmps) (R : Exit → List Value → List (Option Blk) → Prop) : (codeQ Tryz.prog G11 noL Tryz.f210.ntmps (loopOf Tryz.f210 0) (tl S66_0.live (V66_0 (n, z, zb, z1, z2, z3, zg, s, le, fl, ms, dr, d, m, cap, k, i)) jk) (ml S66_0.mid (B66_0 (n, z, zb, z1, z2, z3, zg, s, le, fl, ms, dr, d, m, cap, k, i))) S66_0.n fun e t' m' _ => S66_0.out R e t' m') = ( bif decide (i < (↑(ByteArray.size ms) : Int)) then bif decide (0 ≤ i ∧ i < (↑(ByteArray.size z) : Int)) then bif decide (0 ≤ i ∧ i < (↑(ByteArray.size ms) : Int)) then bif byteAt ms (Int.toNat i) == 100 then bif decide (0 ≤ k ∧ k < (↑(ByteArray.size s) : Int)) then bif decide (48 ≤ byteAt s (Int.toNat k) ∧ byteAt s (Int.toNat k) ≤ 57) then bif Nat.beq (List.length d) (cap * 1) && Nat.ble m cap && Nat.ble cap 9223372036854775807 && true && fitsA (m + 1) 1 then ∀ (cap : Nat) (tail : List Value), tailOK tail cap (m + 1) 1 = true → bif goodL [(287, 200)] (List.take (m * 1) d ++ [.int .u8 (fmZ (byteAt z (Int.toNat i)) (byteAt s (Int.toNat k)) (decide (n < 0)))] ++ tail) && true && true then R Exit.normal [I n, .pointer (some (.mk 0 0 (some 0))), S s, I le, .int .u8 fl, S ms, .int .u8 dr, .slice (some (.mk 200 0 (some 1))) (m + 1) cap, I (IntKind.wrap .i64 (k + 1)), I (IntKind.wrap .i64 (i + 1))] [some (.mk [S z, B zb, I z1, I z2, I z3, B zg] 131 true), some (.mk (rlbL [(287, 200)] (List.take (m * 1) d ++ [.int .u8 (fmZ (byteAt z (Int.toNat i)) (byteAt s (Int.toNat k)) (decide (n < 0)))] ++ tail)) 5 true)] else False else False else False else False else bif decide (0 ≤ i ∧ i < (↑(ByteArray.size ms) : Int)) then bif byteAt ms (Int.toNat i) == 99 then bif decide (natO m < le) then bif Nat.beq (List.length d) (cap * 1) && Nat.ble m cap && Nat.ble cap 9223372036854775807 && true && fitsA (m + 1) 1 then ∀ (cap : Nat) (tail : List Value), tailOK tail cap (m + 1) 1 = true → bif goodL [(286, 200)] (List.take (m * 1) d ++ [.int .u8 fl] ++ tail) && true && true then R Exit.normal [I n, .pointer (some (.mk 0 0 (some 0))), S s, I le, .int .u8 fl, S ms, .int .u8 dr, .slice (some (.mk 200 0 (some 1))) (m + 1) cap, I (IntKind.wrap .i64 (k + 1)), I (IntKind.wrap .i64 (i + 1))] [some (.mk [S z, B zb, I z1, I z2, I z3, B zg] 131 true), some (.mk (rlbL [(286, 200)] (List.take (m * 1) d ++ [.int .u8 fl] ++ tail)) 5 true)] else False else False else bif decide (0 ≤ k ∧ k < (↑(ByteArray.size s) : Int)) then bif Nat.beq (List.length d) (cap * 1) && Nat.ble m cap && Nat.ble cap 9223372036854775807 && true && fitsA (m + 1) 1 then ∀ (cap : Nat) (tail : List Value), tailOK tail cap (m + 1) 1 = true → bif goodL [(288, 200)] (List.take (m * 1) d ++ [.int .u8 (byteAt s (Int.toNat k))] ++ tail) && true && true then R Exit.normal [I n, .pointer (some (.mk 0 0 (some 0))), S s, I le, .int .u8 fl, S ms, .int .u8 dr, .slice (some (.mk 200 0 (some 1))) (m + 1) cap, I (IntKind.wrap .i64 (k + 1)), I (IntKind.wrap .i64 (i + 1))] [some (.mk [S z, B zb, I z1, I z2, I z3, B zg] 131 true), some (.mk (rlbL [(288, 200)] (List.take (m * 1) d ++ [.int .u8 (byteAt s (Int.toNat k))] ++ tail)) 5 true)] else False else False else False else bif decide (0 ≤ i ∧ i < (↑(ByteArray.size ms) : Int)) then bif byteAt ms (Int.toNat i) == 105 then bif byteAt z (Int.toNat i) == 66 then bif Nat.beq (List.length d) (cap * 1) && Nat.ble m cap && Nat.ble cap 9223372036854775807 && true && fitsA (m + 1) 1 then ∀ (cap : Nat) (tail : List Value), tailOK tail cap (m + 1) 1 = true → bif goodL [(290, 200)] (List.take (m * 1) d ++ [.int .u8 32] ++ tail) && true && true then R Exit.normal [I n, .pointer (some (.mk 0 0 (some 0))), S s, I le, .int .u8 fl, S ms, .int .u8 dr, .slice (some (.mk 200 0 (some 1))) (m + 1) cap, I k, I (IntKind.wrap .i64 (i + 1))] [some (.mk [S z, B zb, I z1, I z2, I z3, B zg] 131 true), some (.mk (rlbL [(290, 200)] (List.take (m * 1) d ++ [.int .u8 32] ++ tail)) 5 true)] else False else False else bif decide (natO m < le) then bif Nat.beq (List.length d) (cap * 1) && Nat.ble m cap && Nat.ble cap 9223372036854775807 && true && fitsA (m + 1) 1 then ∀ (cap : Nat) (tail : List Value), tailOK tail cap (m + 1) 1 = true → bif goodL [(292, 200)] (List.take (m * 1) d ++ [.int .u8 fl] ++ tail) && true && true then R Exit.normal [I n, .pointer (some (.mk 0 0 (some 0))), S s, I le, .int .u8 fl, S ms, .int .u8 dr, .slice (some (.mk 200 0 (some 1))) (m + 1) cap, I k, I (IntKind.wrap .i64 (i + 1))] [some (.mk [S z, B zb, I z1, I z2, I z3, B zg] 131 true), some (.mk (rlbL [(292, 200)] (List.take (m * 1) d ++ [.int .u8 fl] ++ tail)) 5 true)] else False else False else bif Nat.beq (List.length d) (cap * 1) && Nat.ble m cap && Nat.ble cap 9223372036854775807 && true && fitsA (m + 1) 1 then ∀ (cap : Nat) (tail : List Value), tailOK tail cap (m + 1) 1 = true → bif goodL [(292, 200)] (List.take (m * 1) d ++ [.int .u8 (byteAt z (Int.toNat i))] ++ tail) && true && true then R Exit.normal [I n, .pointer (some (.mk 0 0 (some 0))), S s, I le, .int .u8 fl, S ms, .int .u8 dr, .slice (some (.mk 200 0 (some 1))) (m + 1) cap, I k, I (IntKind.wrap .i64 (i + 1))] [some (.mk [S z, B zb, I z1, I z2, I z3, B zg] 131 true), some (.mk (rlbL [(292, 200)] (List.take (m * 1) d ++ [.int .u8 (byteAt z (Int.toNat i))] ++ tail)) 5 true)] else False else False else bif decide (0 ≤ i ∧ i < (↑(ByteArray.size ms) : Int)) then bif byteAt ms (Int.toNat i) != 118 then bif Nat.beq (List.length d) (cap * 1) && Nat.ble m cap && Nat.ble cap 9223372036854775807 && true && fitsA (m + 1) 1 then ∀ (cap : Nat) (tail : List Value), tailOK tail cap (m + 1) 1 = true → bif goodL [(297, 200)] (List.take (m * 1) d ++ [.int .u8 (ssZ (byteAt z (Int.toNat i)) dr (decide (n < 0)))] ++ tail) && true && true then R Exit.normal [I n, .pointer (some (.mk 0 0 (some 0))), S s, I le, .int .u8 fl, S ms, .int .u8 dr, .slice (some (.mk 200 0 (some 1))) (m + 1) cap, I k, I (IntKind.wrap .i64 (i + 1))] [some (.mk [S z, B zb, I z1, I z2, I z3, B zg] 131 true), some (.mk (rlbL [(297, 200)] (List.take (m * 1) d ++ [.int .u8 (ssZ (byteAt z (Int.toNat i)) dr (decide (n < 0)))] ++ tail)) 5 true)] else False else False else bif goodL [(200, 200)] d && true && true then R Exit.normal [I n, .pointer (some (.mk 0 0 (some 0))), S s, I le, .int .u8 fl, S ms, .int .u8 dr, .slice (some (.mk 200 0 (some 1))) m cap, I k, I (IntKind.wrap .i64 (i + 1))] [some (.mk [S z, B zb, I z1, I z2, I z3, B zg] 131 true), some (.mk (rlbL [(200, 200)] d) 5 true)] else False else False else False else False else False else False else bif goodL [(200, 200)] d && true && true then R (Exit.exit 0) [I n, .pointer (some (.mk 0 0 (some 0))), S s, I le, .int .u8 fl, S ms, .int .u8 dr, .slice (some (.mk 200 0 (some 1))) m cap, I k, I i] [some (.mk [S z, B zb, I z1, I z2, I z3, B zg] 131 true), some (.mk (rlbL [(200, 200)] d) 5 true)] else False) := by kernel_rfl
theorem l66_0 : LOKf Tryz.prog (oneL 0 S66_0.hA) Tryz.f210 := by
 refine lokf_one (h := S66_0.hA) (by kernel_rfl) (loop_specA ok_G11 hmix (by kernel_rfl) (lok_none _) S66_0 V66_0 B66_0 (fun (n, z, zb, z1, z2, z3, zg, s, le, fl, ms, dr, d, m, cap, k, i) => (ms.size - i).toNat) ?_ ?_ ?_)
 ·intro vs bs s h
  simp only [S66_0] at h
  split at h
  all_goals first | (cases h; exact ⟨rfl, rfl⟩) | cases h
 ·exact fun ⟨n, z, zb, z1, z2, z3, zg, s, le, fl, ms, dr, d, m, cap, k, i⟩ hp => by
   simp only [S66_0, Bool.and_eq_true] at hp
   simp [V66_0, B66_0, S66_0, idsLt, idsLtB, idsL, ids, ids_plainL (rowOK_iff.1 hp.1).plain]
 ·intro ⟨n, z, zb, z1, z2, z3, zg, s, le, fl, ms, dr, d, m, cap, k, i⟩ jk Z hp hf
  rw [r66_0]
  simp only [S66_0] at hp hf
  simp only [Bool.and_eq_true, decide_eq_true_eq] at hp
  rw [natO_eq]
  obtain ⟨hr, hdg, hp⟩ := hp
  have hr := rowOK_iff.1 hr
  refine cond_intro (fun h => ?_) (fun h => ?_)
  ·have h := of_decide_eq_true h
   have hi0 := hp.1
   have g1 : decide (0 ≤ i ∧ i < (ms.size : Int)) = true := decide_eq_true (by omega)
   have g2 : decide (0 ≤ i ∧ i < (z.size : Int)) = true := decide_eq_true (by omega)
   have hq := hp.2.2.2.2.2.1
   rw [bz_at hi0 h, pdGo] at hq
   have nn := pd_nn ((bz ms).drop (i + 1).toNat)
   have hi1 : i < (z.size : Int) := by omega
   have ek : (k + 1).toNat = k.toNat + 1 := by omega
   have eF : fdGo le fl dr (decide (n < 0)) ((bz ms).drop i.toNat) ((bz z).drop i.toNat) ((bz s).drop k.toNat) m =
     (bif byteAt ms i.toNat == 100 then fmZ (byteAt z i.toNat) (((bz s).drop k.toNat).headD 0) (decide (n < 0)) :: fdGo le fl dr (decide (n < 0)) ((bz ms).drop (i + 1).toNat) ((bz z).drop (i + 1).toNat) ((bz s).drop (k + 1).toNat) (m + 1)
     else bif byteAt ms i.toNat == 99 then (bif decide ((m : Int) < le) then fl else ((bz s).drop k.toNat).headD 0) :: fdGo le fl dr (decide (n < 0)) ((bz ms).drop (i + 1).toNat) ((bz z).drop (i + 1).toNat) ((bz s).drop (k + 1).toNat) (m + 1)
     else bif byteAt ms i.toNat == 105 then (bif byteAt z i.toNat == 66 then 32 else bif decide ((m : Int) < le) then fl else byteAt z i.toNat) :: fdGo le fl dr (decide (n < 0)) ((bz ms).drop (i + 1).toNat) ((bz z).drop (i + 1).toNat) ((bz s).drop k.toNat) (m + 1)
     else bif byteAt ms i.toNat != 118 then ssZ (byteAt z i.toNat) dr (decide (n < 0)) :: fdGo le fl dr (decide (n < 0)) ((bz ms).drop (i + 1).toNat) ((bz z).drop (i + 1).toNat) ((bz s).drop k.toNat) (m + 1)
     else fdGo le fl dr (decide (n < 0)) ((bz ms).drop (i + 1).toNat) ((bz z).drop (i + 1).toNat) ((bz s).drop k.toNat) m) := by
    rw [bz_at (s := ms) hi0 h, bz_at (s := z) hi0 hi1, fdGo, List.tail_drop, ek]
    rfl
   have fin : ∀ (cap' : Nat) (d' : List Value) (m1 : Nat) (k' : Int) (M : List Int), RowP d' m1 cap' → (m1 : Int) ≤ i + 1 → zc d' m1 = zc d m ++ M → 0 ≤ k' → k' + pdGo ((bz ms).drop (i + 1).toNat) ≤ s.size →
     fdGo le fl dr (decide (n < 0)) ((bz ms).drop i.toNat) ((bz z).drop i.toNat) ((bz s).drop k.toNat) m = M ++ fdGo le fl dr (decide (n < 0)) ((bz ms).drop (i + 1).toNat) ((bz z).drop (i + 1).toNat) ((bz s).drop k'.toNat) m1 →
     S66_0.step V66_0 B66_0 (fun (n, z, zb, z1, z2, z3, zg, s, le, fl, ms, dr, d, m, cap, k, i) => (ms.size - i).toNat) (n, z, zb, z1, z2, z3, zg, s, le, fl, ms, dr, d, m, cap, k, i) Z Exit.normal
      [I n, .pointer (some ⟨0, 0, some 0⟩), S s, I le, C8 fl, S ms, C8 dr, .slice (some ⟨200, 0, some 1⟩) m1 cap', I k', I (IntKind.wrap .i64 (i + 1))] [some ⟨[S z, B zb, I z1, I z2, I z3, B zg], 131, true⟩, some ⟨d', 5, true⟩] := by
    intro cap' d' m1 k' M q1 q2 q3 q4 q5 q6
    rw [w64 (n := i + 1) (by omega)]
    refine ⟨(n, z, zb, z1, z2, z3, zg, s, le, fl, ms, dr, d', m1, cap', k', i + 1), rfl, rfl, by simp only [S66_0, Bool.and_eq_true, decide_eq_true_eq]; exact ⟨rowOK_iff.2 q1, hdg, by omega⟩, by simp only; omega, ?_⟩
    intro d'' m'' cap'' k'' r1 r2
    exact hf d'' m'' cap'' k'' r1 (by rw [r2, q3, q6, List.append_assoc])
   have hk : isP (byteAt ms i.toNat) = true → k < s.size ∧ k + 1 + pdGo ((bz ms).drop (i + 1).toNat) ≤ s.size := by
    intro e
    rw [e, cond_true] at hq
    omega
   have hk0 : k + pdGo ((bz ms).drop (i + 1).toNat) ≤ s.size := by
    revert hq
    cases isP (byteAt ms i.toNat) <;> simp only [cond_true, cond_false] <;> omega
   have hkd : k < s.size → (bz s).drop k.toNat = byteAt s k.toNat :: (bz s).drop (k + 1).toNat := fun e => bz_at hp.2.2.2.2.1 e
   refine c_t g2 (c_t g1 (cond_intro (fun a => ?_) (fun a => c_t g1 (cond_intro (fun b => ?_) (fun b => c_t g1 (cond_intro (fun c => ?_) (fun c => c_t g1 (cond_intro (fun e => ?_) (fun e => ?_)))))))))
   ·obtain ⟨k1, k2⟩ := hk (by simp [isP, a])
    refine c_t (decide_eq_true (by omega)) (c_t (decide_eq_true (dg_at hdg (by omega) k1)) ?_)
    refine c_t (hr.ask (k := 1) (by omega)) (fun cap1 tail ht => ?_)
    obtain ⟨f1, f2⟩ := hr.app1 (fmZ (byteAt z i.toNat) (byteAt s k.toNat) (decide (n < 0))) ht
    refine c_t (by rw [f1.good]; rfl) ?_
    rw [f1.rlb]
    rw [w64 (n := k + 1) (by omega)]
    exact fin _ _ _ _ _ f1 (by omega) f2 (by omega) k2 (by rw [eF, a, cond_true, hkd k1]; rfl)
   ·obtain ⟨k1, k2⟩ := hk (by simp [isP, b])
    refine cond_intro (fun c => ?_) (fun c => c_t (decide_eq_true (by omega)) ?_)
    ·refine c_t (hr.ask (k := 1) (by omega)) (fun cap1 tail ht => ?_)
     obtain ⟨f1, f2⟩ := hr.app1 (fl) ht
     refine c_t (by rw [f1.good]; rfl) ?_
     rw [f1.rlb]
     rw [w64 (n := k + 1) (by omega)]
     exact fin _ _ _ _ _ f1 (by omega) f2 (by omega) k2 (by rw [eF, a, b, c, cond_true, cond_false]; rfl)
    ·refine c_t (hr.ask (k := 1) (by omega)) (fun cap1 tail ht => ?_)
     obtain ⟨f1, f2⟩ := hr.app1 (byteAt s k.toNat) ht
     refine c_t (by rw [f1.good]; rfl) ?_
     rw [f1.rlb]
     rw [w64 (n := k + 1) (by omega)]
     exact fin _ _ _ _ _ f1 (by omega) f2 (by omega) k2 (by rw [eF, a, b, c, cond_true, cond_false, cond_false, hkd k1]; rfl)
   ·refine cond_intro (fun e => ?_) (fun e => cond_intro (fun o => ?_) (fun o => ?_))
    ·refine c_t (hr.ask (k := 1) (by omega)) (fun cap1 tail ht => ?_)
     obtain ⟨f1, f2⟩ := hr.app1 (32) ht
     refine c_t (by rw [f1.good]; rfl) ?_
     rw [f1.rlb]
     exact fin _ _ _ _ _ f1 (by omega) f2 (by omega) hk0 (by rw [eF, a, b, c, e]; rfl)
    ·refine c_t (hr.ask (k := 1) (by omega)) (fun cap1 tail ht => ?_)
     obtain ⟨f1, f2⟩ := hr.app1 (fl) ht
     refine c_t (by rw [f1.good]; rfl) ?_
     rw [f1.rlb]
     exact fin _ _ _ _ _ f1 (by omega) f2 (by omega) hk0 (by rw [eF, a, b, c, e, o]; rfl)
    ·refine c_t (hr.ask (k := 1) (by omega)) (fun cap1 tail ht => ?_)
     obtain ⟨f1, f2⟩ := hr.app1 (byteAt z i.toNat) ht
     refine c_t (by rw [f1.good]; rfl) ?_
     rw [f1.rlb]
     exact fin _ _ _ _ _ f1 (by omega) f2 (by omega) hk0 (by rw [eF, a, b, c, e, o]; rfl)
   ·refine c_t (hr.ask (k := 1) (by omega)) (fun cap1 tail ht => ?_)
    obtain ⟨f1, f2⟩ := hr.app1 (ssZ (byteAt z i.toNat) dr (decide (n < 0))) ht
    refine c_t (by rw [f1.good]; rfl) ?_
    rw [f1.rlb]
    exact fin _ _ _ _ _ f1 (by omega) f2 (by omega) hk0 (by rw [eF, a, b, c, e]; rfl)
   ·refine c_t (by rw [hr.good]; rfl) ?_
    rw [hr.rlb]
    exact fin _ _ _ _ [] hr (by omega) (by simp) (by omega) hk0 (by rw [eF, a, b, c, e]; rfl)
  ·have h := of_decide_eq_false h
   refine c_t (by rw [hr.good]; rfl) ?_
   rw [hr.rlb]
   obtain rfl : i = ms.size := by omega
   exact hf d m cap k (rowOK_iff.2 hr) (by rw [bz_end (Int.le_refl _)]; simp [fdGo])
def s66 (p : Pic) (n : Int) : Bool × Value := (decide (p.s.size ≤ 900 ∧ 0 ≤ p.d ∧ p.d ≤ 900 ∧ pdGo (marksZ (bz p.s)) ≤ p.d ∧ 0 ≤ p.w ∧ p.w ≤ 900 ∧ -9223372036854775808 ≤ n ∧ n ≤ 9223372036854775807 ∧ fdOK (bz p.s) p.w p.d.toNat n = true), .string (sz (fieldZ (bz p.s) p.w p.d.toNat n)))
theorem fn66 : Fn1 Tryz.prog 210 Tryz.f210 := ⟨Tryz.func210, by kernel_rfl, by kernel_rfl, by kernel_rfl⟩
theorem v66 (p : Pic) (n : Int) (R : Value → Prop) : bodyQ Tryz.prog G11 (oneL 0 S66_0.hA) Tryz.f210 [Enc.enc p, Enc.enc n] (fun _ => none) 0 (fun v _ _ => R v) = ( bif decide (0 ≤ Pic.d p ∧ Pic.d p ≤ 1000 ∧ -9223372036854775808 ≤ n ∧ n ≤ 9223372036854775807) then bif decide (ByteArray.size (Pic.s p) ≤ 900 ∧ ByteArray.size (sz (digZ (↑(Int.natAbs n) : Int) (Int.toNat (Pic.d p)))) ≤ 1000 ∧ ldc (marksZ (bz (Pic.s p))) ≤ ByteArray.size (sz (digZ (↑(Int.natAbs n) : Int) (Int.toNat (Pic.d p)))) ∧ 0 ≤ Pic.d p ∧ Pic.d p ≤ 1000) then bif decide (ByteArray.size (Pic.s p) ≤ 9223372036854775807) then bif decide (ByteArray.size (Pic.s p) ≤ 1000) then bif bif decide (endZ (marksZ (bz (Pic.s p))) (bz (sz (digZ (↑(Int.natAbs n) : Int) (Int.toNat (Pic.d p))))) (Pic.w p) (Int.toNat (Pic.d p)) > 0) then bif endZ (marksZ (bz (Pic.s p))) (bz (sz (digZ (↑(Int.natAbs n) : Int) (Int.toNat (Pic.d p))))) (Pic.w p) (Int.toNat (Pic.d p)) == Pic.w p then bif n == 0 then decide (ByteArray.size (sz (marksZ (bz (Pic.s p)))) ≤ 9223372036854775807) && true else true else true else true then bif decide (endZ (marksZ (bz (Pic.s p))) (bz (sz (digZ (↑(Int.natAbs n) : Int) (Int.toNat (Pic.d p))))) (Pic.w p) (Int.toNat (Pic.d p)) > 0) && (endZ (marksZ (bz (Pic.s p))) (bz (sz (digZ (↑(Int.natAbs n) : Int) (Int.toNat (Pic.d p))))) (Pic.w p) (Int.toNat (Pic.d p)) == Pic.w p && (n == 0 && !hasZ (bz (sz (marksZ (bz (Pic.s p))))) 100)) then bif decide (0 ≤ Pic.w p ∧ Pic.w p ≤ 1000) then R (S (sz (rep1 (if hasZ (bz (Pic.s p)) 42 = true then 42 else 32) (Int.toNat (Pic.w p))))) else False else bif decide (ByteArray.size (Pic.s p) ≤ 9223372036854775807) && bif !hasZ (bz (Pic.s p)) 90 then decide (ByteArray.size (Pic.s p) ≤ 9223372036854775807) && bif !hasZ (bz (Pic.s p)) 42 then decide (ByteArray.size (sz (marksZ (bz (Pic.s p)))) ≤ 9223372036854775807) && true else true else true then bif !hasZ (bz (Pic.s p)) 90 && (!hasZ (bz (Pic.s p)) 42 && hasZ (bz (sz (marksZ (bz (Pic.s p))))) 99) then bif decide (ByteArray.size (Pic.s p) ≤ 9223372036854775807) then bif LSpec.pre (LSpecA.toLSpec S66_0) (n, Pic.s p, Pic.n p, Pic.w p, Pic.d p, Pic.q p, Pic.g p, sz (digZ (↑(Int.natAbs n) : Int) (Int.toNat (Pic.d p))), endZ (marksZ (bz (Pic.s p))) (bz (sz (digZ (↑(Int.natAbs n) : Int) (Int.toNat (Pic.d p))))) (Pic.w p) (Int.toNat (Pic.d p)), if hasZ (bz (Pic.s p)) 42 = true then 42 else 32, sz (marksZ (bz (Pic.s p))), drZ (bz (Pic.s p)), [], 0, 0, 0, 0) then ∀ (d' : List Value) (m' cap' : Nat) (k' : Int), rowOK d' m' cap' = true → zc d' m' = zc [] 0 ++ fdGo (endZ (marksZ (bz (Pic.s p))) (bz (sz (digZ (↑(Int.natAbs n) : Int) (Int.toNat (Pic.d p))))) (Pic.w p) (Int.toNat (Pic.d p))) (if hasZ (bz (Pic.s p)) 42 = true then 42 else 32) (drZ (bz (Pic.s p))) (decide (n < 0)) (List.drop (Int.toNat 0) (bz (sz (marksZ (bz (Pic.s p)))))) (List.drop (Int.toNat 0) (bz (Pic.s p))) (List.drop (Int.toNat 0) (bz (sz (digZ (↑(Int.natAbs n) : Int) (Int.toNat (Pic.d p)))))) (↑0 : Int) → bif idsLt 260 d' && true then ∀ (x : Tmps), bif drZ (bz (Pic.s p)) != 0 then bif decide (0 ≤ IntKind.wrap .i64 (endZ (marksZ (bz (Pic.s p))) (bz (sz (digZ (↑(Int.natAbs n) : Int) (Int.toNat (Pic.d p))))) (Pic.w p) (Int.toNat (Pic.d p)) - 1) ∧ IntKind.wrap .i64 (endZ (marksZ (bz (Pic.s p))) (bz (sz (digZ (↑(Int.natAbs n) : Int) (Int.toNat (Pic.d p))))) (Pic.w p) (Int.toNat (Pic.d p)) - 1) < (↑m' : Int)) then bif Nat.ble (0 + Int.toNat (IntKind.wrap .i64 (endZ (marksZ (bz (Pic.s p))) (bz (sz (digZ (↑(Int.natAbs n) : Int) (Int.toNat (Pic.d p))))) (Pic.w p) (Int.toNat (Pic.d p)) - 1)) * 1 + 1) (List.length d') then bif bytesOK (setL d' (0 + Int.toNat (IntKind.wrap .i64 (endZ (marksZ (bz (Pic.s p))) (bz (sz (digZ (↑(Int.natAbs n) : Int) (Int.toNat (Pic.d p))))) (Pic.w p) (Int.toNat (Pic.d p)) - 1)) * 1) [.int .u8 (sgZ (drZ (bz (Pic.s p))) (decide (n < 0)))]) 0 m' then R (S (bytesOf (setL d' (0 + Int.toNat (IntKind.wrap .i64 (endZ (marksZ (bz (Pic.s p))) (bz (sz (digZ (↑(Int.natAbs n) : Int) (Int.toNat (Pic.d p))))) (Pic.w p) (Int.toNat (Pic.d p)) - 1)) * 1) [.int .u8 (sgZ (drZ (bz (Pic.s p))) (decide (n < 0)))]) 0 m')) else False else False else False else bif bytesOK d' 0 m' then R (S (bytesOf d' 0 m')) else False else False else False else False else bif LSpec.pre (LSpecA.toLSpec S66_0) (n, Pic.s p, Pic.n p, Pic.w p, Pic.d p, Pic.q p, Pic.g p, sz (digZ (↑(Int.natAbs n) : Int) (Int.toNat (Pic.d p))), endZ (marksZ (bz (Pic.s p))) (bz (sz (digZ (↑(Int.natAbs n) : Int) (Int.toNat (Pic.d p))))) (Pic.w p) (Int.toNat (Pic.d p)), if hasZ (bz (Pic.s p)) 42 = true then 42 else 32, sz (marksZ (bz (Pic.s p))), 0, [], 0, 0, 0, 0) then ∀ (d' : List Value) (m' cap' : Nat) (k' : Int), rowOK d' m' cap' = true → zc d' m' = zc [] 0 ++ fdGo (endZ (marksZ (bz (Pic.s p))) (bz (sz (digZ (↑(Int.natAbs n) : Int) (Int.toNat (Pic.d p))))) (Pic.w p) (Int.toNat (Pic.d p))) (if hasZ (bz (Pic.s p)) 42 = true then 42 else 32) 0 (decide (n < 0)) (List.drop (Int.toNat 0) (bz (sz (marksZ (bz (Pic.s p)))))) (List.drop (Int.toNat 0) (bz (Pic.s p))) (List.drop (Int.toNat 0) (bz (sz (digZ (↑(Int.natAbs n) : Int) (Int.toNat (Pic.d p)))))) (↑0 : Int) → bif idsLt 260 d' && true then ∀ (x : Tmps), bif bytesOK d' 0 m' then R (S (bytesOf d' 0 m')) else False else False else False else False else False else False else False else False else False) := by kernel_rfl
theorem ok66 : PureOK Tryz.prog 210 (sp2 s66) := by
 refine qure2 ok_G11 hmix fn66 l66_0 (Nat.le_of_ble_eq_true (by kernel_rfl)) fun p n hc => ?_
 rw [DoesQ, v66]
 have hc : (p.s.size ≤ 900 ∧ 0 ≤ p.d ∧ p.d ≤ 900 ∧ pdGo (marksZ (bz p.s)) ≤ p.d ∧ 0 ≤ p.w ∧ p.w ≤ 900 ∧ -9223372036854775808 ≤ n ∧ n ≤ 9223372036854775807 ∧ fdOK (bz p.s) p.w p.d.toNat n = true) := of_decide_eq_true hc
 try dsimp only [s66]
 obtain ⟨h1, h2, h3, h4, h5, h6, h7, h8, hok⟩ := hc
 have hml : (sz (marksZ (bz p.s))).size = p.s.size := by rw [sz_size, marks_len, bz_length]
 have hB := bz_sz (marks_isB (bz p.s))
 have hdg := digZ_dg p.d.toNat (n.natAbs : Int)
 have hds : bz (sz (digZ n.natAbs p.d.toNat)) = digZ n.natAbs p.d.toNat := bz_sz (dg_isB hdg)
 have hdl : (sz (digZ n.natAbs p.d.toNat)).size = p.d.toNat := by rw [sz_size, digZ_len]
 have hld := ldc_le (marksZ (bz p.s))
 have hz0 : zc [] 0 = [] := rfl
 rw [hB, hds]
 have dd : decide (p.s.size ≤ 9223372036854775807) = true := decide_eq_true (by omega)
 have dm : decide ((sz (marksZ (bz p.s))).size ≤ 9223372036854775807) = true := decide_eq_true (by omega)
 have pre : ∀ dr : Int, S66_0.pre (n, p.s, p.n, p.w, p.d, p.q, p.g, sz (digZ n.natAbs p.d.toNat), endZ (marksZ (bz p.s)) (digZ n.natAbs p.d.toNat) p.w p.d.toNat, (if hasZ (bz p.s) 42 = true then 42 else 32), sz (marksZ (bz p.s)), dr, [], 0, 0, 0, 0) = true := by
  intro dr
  simp only [S66_0, Bool.and_eq_true, decide_eq_true_eq, hds, hB, Int.toNat_zero, List.drop_zero]
  exact ⟨rfl, hdg, Int.le_refl _, by omega, by omega, by omega, Int.le_refl _, by omega, by omega, by omega⟩
 refine c_t (decide_eq_true (by omega)) (c_t (decide_eq_true (by omega)) (c_t dd (c_t (decide_eq_true (by omega)) (c_t ?_ (cond_intro (fun a => ?_) (fun a => ?_))))))
 ·rw [dm]
  simp
 ·have a' : fdBl (bz p.s) p.w p.d.toNat n = true := a
  refine c_t (decide_eq_true (by omega)) ?_
  rw [fieldZ, a', cond_true]
  rfl
 have a' : fdBl (bz p.s) p.w p.d.toNat n = false := a
 have e1 : fieldZ (bz p.s) p.w p.d.toNat n = bif fdDr (bz p.s) != 0 then (fdOut (bz p.s) p.w p.d.toNat n).set (fdLe (bz p.s) p.w p.d.toNat n - 1).toNat (sgZ (fdDr (bz p.s)) (decide (n < 0))) else fdOut (bz p.s) p.w p.d.toNat n := by
  rw [fieldZ, a', cond_false]
 rw [e1]
 refine c_t (by rw [dd, dm]; simp) (cond_intro (fun b => c_t dd (c_t (pre _) (fun d' m' cap' k' g1 g2 => ?_))) (fun b => c_t (pre _) (fun d' m' cap' k' g1 g2 => ?_)))
 ·have eD : fdDr (bz p.s) = drZ (bz p.s) := by rw [fdDr, b, cond_true]
  have g1 := rowOK_iff.1 g1
  have hzl := zc_length g1
  have g2 : zc d' m' = fdOut (bz p.s) p.w p.d.toNat n := by
   rw [g2, drop0, drop0, drop0, fdOut, eD]
   rfl
  rw [eD]
  refine c_t (by rw [ids_plainB g1.plain]; rfl) (fun _ => cond_intro (fun c => ?_) (fun c => ?_))
  ·have hx : 1 ≤ fdLe (bz p.s) p.w p.d.toNat n ∧ fdLe (bz p.s) p.w p.d.toNat n ≤ (fdOut (bz p.s) p.w p.d.toNat n).length := by
    have hc0 : (drZ (bz p.s) == 0) = false := by simpa using c
    simpa only [fdOK, a', eD, hc0, Bool.false_or, decide_eq_true_eq] using hok
   rw [← g2, hzl] at hx
   have hcp := g1.cap
   have hle := g1.le
   have ele : endZ (marksZ (bz p.s)) (digZ n.natAbs p.d.toNat) p.w p.d.toNat = fdLe (bz p.s) p.w p.d.toNat n := rfl
   rw [ele, w64 (by omega)]
   obtain ⟨q1, q2, q3⟩ := g1.set (sgZ (drZ (bz p.s)) (decide (n < 0))) (i := (fdLe (bz p.s) p.w p.d.toNat n - 1).toNat) (by omega)
   refine c_t (decide_eq_true (by omega)) (c_t q3 (c_t q1.str.1 ?_))
   rw [q1.str.2, q2, g2, c, cond_true]
  ·refine c_t g1.str.1 ?_
   rw [g1.str.2, g2, c, cond_false]
 ·have eD : fdDr (bz p.s) = 0 := by rw [fdDr, b, cond_false]
  have g1 := rowOK_iff.1 g1
  have g2 : zc d' m' = fdOut (bz p.s) p.w p.d.toNat n := by
   rw [g2, drop0, drop0, drop0, fdOut, eD]
   rfl
  refine c_t (by rw [ids_plainB g1.plain]; rfl) (fun _ => c_t g1.str.1 ?_)
  rw [g1.str.2, g2, eD]
  rfl
end Go.Px
end
section
namespace Go.Px
open Go Go.Ab Go.Proofs
theorem drGo_none (s : List Int) : ∀ t : List Int, (∀ c ∈ t, hasZ [36, 83, 43, 45] c = false) → drGo s t = 0
 | [], _ => rfl
 | c :: r, h => by
  have h1 := h c (List.mem_cons_self ..)
  rw [drGo, if_neg (by simp [h1])]
  exact drGo_none s r fun x hx => h x (List.mem_cons_of_mem _ hx)
theorem cnt_app (a b : List Int) (c : Int) : cntZ (a ++ b) c = cntZ a c + cntZ b c := by
 simp [cntZ]
theorem cnt_none {t : List Int} {c : Int} (h : c ∉ t) : cntZ t c = 0 := by
 simp only [cntZ, List.length_eq_zero_iff, List.filter_eq_nil_iff]
 intro x hx
 simp
 rintro rfl
 exact h hx
theorem dr_app (b t : List Int) (ht : ∀ c ∈ t, hasZ [36, 83, 43, 45] c = false) : ∀ r, drGo (b ++ t) (r ++ t) = drGo b r
 | [] => by
  rw [List.nil_append, drGo_none _ _ ht]
  rfl
 | c :: r => by
  rw [List.cons_append, drGo, drGo, dr_app b t ht r]
  cases hc : hasZ [36, 83, 43, 45] c with
  | false => simp
  | true =>
   have : c ∉ t := fun hx => by rw [ht c hx] at hc; cases hc
   rw [cnt_app, cnt_none this]
   simp
theorem body_app (s : List Int) : ∃ t, s = bodyZ s ++ t ∧ (t = [] ∧ crZ s = false ∨ (t = [67, 82] ∨ t = [68, 66]) ∧ crZ s = true) := by
 unfold bodyZ
 by_cases h : crZ s = true
 ·rw [if_pos h]
  refine ⟨s.drop (s.length - 2), (List.take_append_drop ..).symm, .inr ⟨?_, h⟩⟩
  simp only [crZ, Bool.and_eq_true, Bool.or_eq_true, decide_eq_true_eq] at h
  exact h.2
 ·rw [if_neg h]
  exact ⟨[], by simp, .inl ⟨rfl, by simpa using h⟩⟩
theorem dr_body (s : List Int) : drZ s = drZ (bodyZ s) := by
 obtain ⟨t, h, ht⟩ := body_app s
 have := dr_app (bodyZ s) t (by
  intro c hc
  rcases ht with ⟨rfl, _⟩ | ⟨rfl | rfl, _⟩
  ·cases hc
  ·rcases List.mem_cons.1 hc with rfl | hc
   ·decide
   ·rcases List.mem_cons.1 hc with rfl | hc
    ·decide
    ·cases hc
  ·rcases List.mem_cons.1 hc with rfl | hc
   ·decide
   ·rcases List.mem_cons.1 hc with rfl | hc
    ·decide
    ·cases hc) (bodyZ s)
 rw [← h] at this
 exact this
theorem dr_sign (s : List Int) : ∀ r : List Int, drGo s r = 0 ∨ (hasZ [36, 83, 43, 45] (drGo s r) = true ∧ drGo s r ∈ r)
 | [] => .inl rfl
 | c :: r => by
  rw [drGo]
  split
  ·rename_i h
   exact .inr ⟨h.1, List.mem_cons_self ..⟩
  ·rcases dr_sign s r with h | ⟨h1, h2⟩
   ·exact .inl h
   ·exact .inr ⟨h1, List.mem_cons_of_mem _ h2⟩
theorem ld_firm : ∀ (r : List Int) (bh pt : Bool) (dg : Int), 99 ∈ r → (ldGo r true bh pt dg).1 = false
 | m :: r, bh, pt, dg, h => by
  rw [ldGo]
  rcases List.mem_cons.1 h with rfl | h
  ·rfl
  ·cases m == 118 with
   | true => exact ld_firm r _ _ _ h
   | false =>
    cases m == 100 with
    | true => exact ld_firm r _ _ _ h
    | false =>
     cases m == 99 with
     | true => rfl
     | false => exact ld_firm r _ _ _ h
theorem df1_mem (s : List Int) (dr : Int) : ∀ (r : List Int) (i f l : Int), 0 < i → (f < 0 ∨ 1 ≤ f) → (df1 s dr r i f l).1 = true → (dr ∈ r ∨ (1 ≤ f ∧ 1 ≤ l)) → 1 ≤ (df1 s dr r i f l).2.1 ∧ 1 ≤ (df1 s dr r i f l).2.2
 | [], i, f, l, hi, hf, hk, h => by
  rcases h with h | h
  ·cases h
  ·exact h
 | c :: r, i, f, l, hi, hf, hk, h => by
  rw [df1] at hk ⊢
  cases hc : (c == dr) with
  | true =>
   rw [hc, cond_true] at hk
   rw [cond_true]
   exact df1_mem s dr r _ _ _ (by omega) (by split <;> omega) hk (.inr ⟨by split <;> omega, by omega⟩)
  | false =>
   have hne : c ≠ dr := by simpa using hc
   rw [hc, cond_false] at hk
   rw [cond_false]
   cases h2 : (hasZ [36, 83, 43, 45] c && decide (2 ≤ cntZ s c)) with
   | true => rw [h2] at hk; cases hk
   | false =>
    rw [h2, cond_false] at hk
    rw [cond_false]
    refine df1_mem s dr r _ _ _ (by omega) hf hk ?_
    rcases h with h | h
    ·rcases List.mem_cons.1 h with h | h
     ·exact absurd h.symm hne
     ·exact .inl h
    ·exact .inr h
theorem drifts_head {c : Int} {r : List Int} (h : driftsZ (c :: r) = true) (h0 : drZ (c :: r) ≠ 0) : c ≠ 86 := by
 rintro rfl
 simp only [driftsZ, Bool.or_eq_true, beq_iff_eq, Bool.and_eq_true] at h
 rcases h with h | ⟨h1, h2⟩
 ·exact h0 h
 have hd := (dr_sign (86 :: r) (86 :: r)).resolve_left h0
 have hd : hasZ [36, 83, 43, 45] (drZ (86 :: r)) = true ∧ drZ (86 :: r) ∈ 86 :: r := hd
 generalize hg : drZ (86 :: r) = dr at *
 have hne : ((86 : Int) == dr) = false := by
  cases e : ((86 : Int) == dr) with
  | false => rfl
  | true => rw [← eq_of_beq e] at hd; exact absurd hd.1 (by decide)
 have hs : hasZ [36, 83, 43, 45] 86 = false := by decide
 rw [df1, hne, cond_false, hs, Bool.false_and, cond_false] at h1 h2
 have hm : dr ∈ r := by
  rcases List.mem_cons.1 hd.2 with rfl | h
  ·simp at hne
  ·exact h
 obtain ⟨g1, g2⟩ := df1_mem (86 :: r) dr r (0 + 1) (-1) (-1) (by omega) (by omega) h1 (.inl hm)
 generalize (df1 (86 :: r) dr r (0 + 1) (-1) (-1)).2.2 = l at *
 generalize (df1 (86 :: r) dr r (0 + 1) (-1) (-1)).2.1 = f at *
 obtain ⟨k, hk⟩ : ∃ k, l.toNat = k + 1 := ⟨l.toNat - 1, by omega⟩
 rw [hk, List.take_succ_cons, d2Go, decide_eq_true (show 0 < f by omega)] at h2
 simp at h2
def nv (l : List Int) : Nat := (l.filter (· != 118)).length
theorem nv_cons (m : Int) (r : List Int) : nv (m :: r) = (if m = 118 then 0 else 1) + nv r := by
 unfold nv
 by_cases h : m = 118
 ·simp [h]
 ·simp [h]; omega
theorem nv_app (a b : List Int) : nv (a ++ b) = nv a + nv b := by simp [nv]
theorem end_ge : ∀ (ms ds : List Int) (o : Int), o ≤ endGo ms ds o ∧ endGo ms ds o ≤ o + nv ms
 | [], ds, o => by simp [endGo, nv]
 | m :: r, ds, o => by
  rw [endGo, nv_cons]
  cases h : ((m == 118 || m == 100) || (m == 99 && ds.headD 0 != 48)) with
  | true => rw [cond_true]; split <;> omega
  | false =>
   rw [cond_false]
   have := end_ge r (bif m == 99 then ds.tail else ds) (o + 1)
   have hm : m ≠ 118 := by rintro rfl; simp at h
   rw [if_neg hm]
   omega
theorem fd_len (le fill dr : Int) (neg : Bool) : ∀ (ms sp ds : List Int) (o : Int), (fdGo le fill dr neg ms sp ds o).length = nv ms
 | [], _, _, _ => rfl
 | m :: r, sp, ds, o => by
  rw [fdGo, nv_cons]
  cases h1 : (m == 100) with
  | true =>
   have := eq_of_beq h1
   subst this
   rw [cond_true, List.length_cons, fd_len, if_neg (by decide)]
   omega
  | false =>
   cases h2 : (m == 99) with
   | true =>
    have := eq_of_beq h2
    subst this
    rw [cond_false, cond_true, List.length_cons, fd_len, if_neg (by decide)]
    omega
   | false =>
    cases h3 : (m == 105) with
    | true =>
     have := eq_of_beq h3
     subst this
     rw [cond_false, cond_false, cond_true, List.length_cons, fd_len, if_neg (by decide)]
     omega
    | false =>
     cases h4 : (m != 118) with
     | true =>
      have h4 : m ≠ 118 := by simpa using h4
      rw [cond_false, cond_false, cond_false, cond_true, List.length_cons, fd_len, if_neg h4]
      omega
     | false =>
      have h4 : m = 118 := by simpa using h4
      rw [cond_false, cond_false, cond_false, cond_false, fd_len, if_pos h4]
      omega
theorem mk1_pt {dr : Int} (hd : dr = 0 ∨ hasZ [36, 83, 43, 45] dr = true) (seen : Bool) (c : Int) : mk1 dr seen c = 118 ↔ c = 86 := by
 constructor
 ·intro h
  unfold mk1 at h
  cases h1 : hasZ [57, 89, 84, 73, 82] c with
  | true => rw [h1] at h; cases h
  | false =>
   rw [h1, cond_false] at h
   cases h2 : (hasZ [90, 42] c || (dr != 0 && (c == dr && seen))) with
   | true => rw [h2] at h; cases h
   | false =>
    rw [h2, cond_false] at h
    cases h3 : (c == 86) with
    | true => exact eq_of_beq h3
    | false =>
     rw [h3, cond_false] at h
     cases h4 : (c == 36) <;> cases h5 : hasZ [83, 43, 45] c <;> rw [h4, h5] at h <;> exact absurd h (by decide)
 ·rintro rfl
  unfold mk1
  have h1 : hasZ [57, 89, 84, 73, 82] 86 = false := by decide
  have h2 : hasZ [90, 42] 86 = false := by decide
  have h3 : ((86 : Int) == dr) = false := by
   cases e : ((86 : Int) == dr) with
   | false => rfl
   | true =>
    rw [← eq_of_beq e] at hd
    rcases hd with hd | hd
    ·cases hd
    ·exact absurd hd (by decide)
  rw [h1, h2, h3]
  simp
theorem mk_nv {dr : Int} (hd : dr = 0 ∨ hasZ [36, 83, 43, 45] dr = true) : ∀ (l : List Int) (seen : Bool), nv (mkGo dr seen l) + cntZ l 86 = l.length
 | [], _ => rfl
 | c :: r, seen => by
  have := mk_nv hd r (seen || (dr != 0 && c == dr))
  rw [mkGo, nv_cons, List.length_cons]
  have hc : cntZ (c :: r) 86 = (if c = 86 then 1 else 0) + cntZ r 86 := by
   unfold cntZ
   by_cases h : c = 86
   ·simp [h]; omega
   ·simp [h]
  rw [hc]
  have hm := mk1_pt hd seen c
  by_cases h : c = 86
  ·rw [if_pos h, if_pos (hm.2 h)]; omega
  ·rw [if_neg h, if_neg fun e => h (hm.1 e)]; omega
theorem marks_nv (s : List Int) : nv (marksZ s) + cntZ s 86 = s.length := by
 obtain ⟨t, h, ht⟩ := body_app s
 have h1 := mk_nv (dr := drZ (bodyZ s)) ((dr_sign _ _).imp id And.left) (bodyZ s) false
 unfold marksZ
 rw [nv_app]
 have e : cntZ s 86 = cntZ (bodyZ s) 86 + cntZ t 86 := by
  conv => lhs; rw [h]
  exact cnt_app ..
 have el : s.length = (bodyZ s).length + t.length := by
  conv => lhs; rw [h]
  simp
 rcases ht with ⟨rfl, hc⟩ | ⟨rfl | rfl, hc⟩
 ·rw [if_neg (by simp [hc])]
  have : cntZ [] 86 = 0 := rfl
  have : nv [] = 0 := rfl
  simp only [List.length_nil] at el
  omega
 ·rw [if_pos hc]
  have : cntZ [67, 82] 86 = 0 := by decide
  have : nv [115, 115] = 2 := by decide
  simp only [List.length_cons, List.length_nil] at el
  omega
 ·rw [if_pos hc]
  have : cntZ [68, 66] 86 = 0 := by decide
  have : nv [115, 115] = 2 := by decide
  simp only [List.length_cons, List.length_nil] at el
  omega
theorem field_ok {s : List Int} (h : NumP s) (k : Nat) (n : Int) : fdOK s ((s.length : Int) - cntZ s 86) k n = true := by
 have hnv := marks_nv s
 have hw : (s.length : Int) - cntZ s 86 = nv (marksZ s) := by omega
 rw [hw]
 unfold fdOK
 cases hb : fdBl s (nv (marksZ s)) k n with
 | true => rfl
 | false =>
  rw [Bool.false_or]
  cases h0 : (fdDr s == 0) with
  | true => rfl
  | false =>
   rw [Bool.false_or, decide_eq_true_eq, fdOut, fd_len]
   have h0 : fdDr s ≠ 0 := by simpa using h0
   unfold fdDr at h0
   cases hq : (!hasZ s 90 && (!hasZ s 42 && hasZ (marksZ s) 99)) with
   | false => rw [hq] at h0; exact absurd rfl h0
   | true =>
    rw [hq, cond_true] at h0
    simp only [Bool.and_eq_true, Bool.not_eq_true'] at hq
    obtain ⟨q1, q2, q3⟩ := hq
    rw [dr_body] at h0
    obtain ⟨t, ht, ht2⟩ := body_app s
    have htm : (if crZ s = true then ([115, 115] : List Int) else []) = [] ∨ (if crZ s = true then ([115, 115] : List Int) else []) = [115, 115] := by split <;> simp
    have hld := h.ld
    have hdr := h.dr
    have hms : marksZ s = mkGo (drZ (bodyZ s)) false (bodyZ s) ++ (if crZ s = true then [115, 115] else []) := rfl
    generalize (if crZ s = true then ([115, 115] : List Int) else []) = tm at *
    have h99 : 99 ∈ mkGo (drZ (bodyZ s)) false (bodyZ s) := by
     have := hasZ_iff.1 q3
     rw [hms, List.mem_append] at this
     rcases this with h | h
     ·exact h
     ·rcases htm with rfl | rfl
      ·cases h
      ·exact absurd h (by decide)
    have hz : ∀ c ∈ bodyZ s, hasZ [90, 42] c = false := by
     intro c hc
     have hcs : c ∈ s := by rw [ht]; exact List.mem_append_left _ hc
     cases e : hasZ [90, 42] c with
     | false => rfl
     | true =>
      have := hasZ_iff.1 e
      rcases List.mem_cons.1 this with rfl | this
      ·rw [hasZ_iff.2 hcs] at q1; cases q1
      ·rcases List.mem_cons.1 this with rfl | this
       ·rw [hasZ_iff.2 hcs] at q2; cases q2
       ·cases this
    cases hbs : bodyZ s with
    | nil => rw [hbs] at h0; exact absurd rfl h0
    | cons c r =>
     rw [hbs] at h0 hms h99 hz hld hdr
     have hv := drifts_head hdr h0
     have hsg := (dr_sign (c :: r) (c :: r)).resolve_left h0
     have hsg : hasZ [36, 83, 43, 45] (drZ (c :: r)) = true := hsg.1
     generalize drZ (c :: r) = dr at *
     rw [mkGo] at h99 hms hld
     have hcz := hz c (List.mem_cons_self ..)
     have h118 : mk1 dr false c ≠ 118 := fun e => hv ((mk1_pt (.inr hsg) false c).1 e)
     have hn99 : mk1 dr false c ≠ 99 := by
      unfold mk1
      rw [hcz]
      cases hasZ [57, 89, 84, 73, 82] c with
      | true => rw [cond_true]; decide
      | false => cases dr != 0 <;> cases c == dr <;> cases c == 86 <;> cases c == 36 <;> cases hasZ [83, 43, 45] c <;> decide
     have h99r : 99 ∈ mkGo dr (false || (dr != 0 && c == dr)) r := by
      rcases List.mem_cons.1 h99 with e | e
      ·exact absurd e.symm hn99
      ·exact e
     have hn100 : mk1 dr false c ≠ 100 := by
      intro e
      rw [e] at hld
      generalize mkGo dr (false || (dr != 0 && c == dr)) r = R at *
      have key : (ldGo (100 :: R) false false false 0).1 = false := by
       rw [ldGo]
       exact ld_firm R false false (0 + 1) h99r
      unfold leadsZ at hld
      rw [key] at hld
      simp at hld
     have hm0 : ∀ ds : List Int, ((mk1 dr false c == 118 || mk1 dr false c == 100) || (mk1 dr false c == 99 && ds.headD 0 != 48)) = false := by
      intro ds
      simp [h118, hn100, hn99]
     have hnv1 : 1 ≤ nv (marksZ s) := by
      rw [hms, List.cons_append, nv_cons, if_neg h118]
      omega
     unfold fdLe endZ
     rw [q3, Bool.not_true, cond_false]
     cases (!hasZ (marksZ s) 100 && decide (digZ n.natAbs k = rep1 48 k)) with
     | true => rw [cond_true]; omega
     | false =>
      rw [cond_false]
      have g1 := end_ge (marksZ s) (digZ n.natAbs k) 0
      refine ⟨?_, by omega⟩
      rw [hms, List.cons_append, endGo, hm0, cond_false]
      have := (end_ge (mkGo dr (false || (dr != 0 && c == dr)) r ++ tm) (bif mk1 dr false c == 99 then (digZ n.natAbs k).tail else digZ n.natAbs k) (0 + 1)).1
      omega
theorem pN_ok {l : List Int} (hl : IsB (pS l) ∧ (pS l).length ≤ 32) (h : pN l = true) (n : Int) : IsB (pS l) ∧ (pS l).length ≤ 32 ∧ pdGo (marksZ (pS l)) = pD l ∧ 0 ≤ pW l ∧ pW l ≤ 32 ∧ fdOK (pS l) (pW l) (pD l).toNat n = true := by
 have hv := pN_vOK h
 have hnp := pN_num h
 have hS : pS l = exZ l := by rw [pS, if_pos hv]
 have hW : pW l = (exZ l).length - cntZ (exZ l) 86 := by rw [pW, if_pos hv, hnp.nch]; rfl
 have hD : pD l = pdGo (marksZ (exZ l)) := by rw [pD, if_pos h]
 obtain ⟨g1, g2⟩ := hl
 have hc := cnt_le (exZ l) 86
 rw [hS] at g1 g2 ⊢
 rw [hW]
 exact ⟨g1, g2, hD.symm, by omega, by omega, field_ok hnp _ _⟩
end Go.Px
end
section
namespace Go.Px
open Go Go.Ab Go.Proofs
def G12 : Env := (G11.add 210 (sp2 s66))
theorem ok_G12 : EnvOK Tryz.prog G12 := env_add (ok_G11) ok66
def edE (l : List Int) (q : Int) : Int := if pN l = true then (if 0 ≤ q ∧ q ≤ 9 then 0 else 1) else 30
def edS (l : List Int) (n q : Int) : List Int := if pN l = true ∧ 0 ≤ q ∧ q ≤ 9 then fieldZ (pS l) (pW l) (pD l).toNat (cuN n q (pQ l) (pD l) (pG l)) else []
def edF (l : List Int) (n q : Int) : Bool := if pN l = true ∧ 0 ≤ q ∧ q ≤ 9 then cuF n q (pQ l) (pD l) (pG l) else false
def rdD (c : Int) : Int := bif unK c then unD c else bif decide (c ≥ 48) && decide (c ≤ 57) then c - 48 else 0
def rdGo : List Int → List Int → Int → Int
 | [], _, a => a
 | m :: r, s, a => bif m == 118 then rdGo r s a else rdGo r s.tail (bif m == 100 || m == 99 then a * 10 + rdD (s.headD 0) else a)
theorem cuN_rng (n q sc d : Int) (g : Bool) (h : 0 ≤ d ∧ d ≤ 9) : -1000000000 < cuN n q sc d g ∧ cuN n q sc d g < 1000000000 := by
 have t1 := tenZ_le (n := d.toNat) (by omega)
 have t9 := tenZ_le9 (n := d.toNat) (by omega)
 have h1 := Int.emod_nonneg (cuM n q sc) (show tenZ d.toNat ≠ 0 by omega)
 have h2 := Int.emod_lt_of_pos (cuM n q sc) (show 0 < tenZ d.toNat by omega)
 unfold cuN cuV
 split <;> omega
theorem rd_rng (c : Int) : 0 ≤ rdD c ∧ rdD c ≤ 9 := by
 unfold rdD
 cases h : unK c with
 | true =>
  have e : unD c = idxZ punchedZ c % 10 := by rw [unD, h, if_pos rfl]
  rw [cond_true, e]
  omega
 | false =>
  rw [cond_false]
  cases h1 : decide (c ≥ 48) <;> cases h2 : decide (c ≤ 57) <;> simp at h1 h2 <;> simp <;> omega
theorem pu_rng (d : Int) (m : Bool) : 0 ≤ puZ d m ∧ puZ d m < 256 := by
 unfold puZ
 split
 ·have : ∀ x ∈ punchedZ, 0 ≤ x ∧ x < 256 := by decide
  rw [List.getD_eq_getElem?_getD]
  cases h : punchedZ[(if m = true then d + 10 else d).toNat]? with
  | none => simp
  | some x => exact this x (List.mem_of_getElem? h)
 ·simp
theorem hd_isB {l : List Int} (h : IsB l) : 0 ≤ l.headD 0 ∧ l.headD 0 < 256 := by
 cases l with
 | nil => simp
 | cons a r => exact h a (List.mem_cons_self ..)
theorem tl_isB {l : List Int} (h : IsB l) : IsB l.tail := fun x hx => h x (List.mem_of_mem_tail hx)
theorem cons_isB {a : Int} {l : List Int} (ha : 0 ≤ a ∧ a < 256) (h : IsB l) : IsB (a :: l) := fun x hx => by
 rcases List.mem_cons.1 hx with rfl | hx
 ·exact ha
 ·exact h x hx
theorem fm_rng {c d : Int} (m : Bool) (h : 0 ≤ d ∧ d < 256) : 0 ≤ fmZ c d m ∧ fmZ c d m < 256 := by
 unfold fmZ
 split
 ·omega
 ·split
  ·exact pu_rng _ _
  ·exact h
theorem sg_rng (c : Int) (m : Bool) : 0 ≤ sgZ c m ∧ sgZ c m < 256 := by
 unfold sgZ
 split
 ·omega
 ·split
  ·split <;> omega
  ·split <;> omega
theorem ss_rng {c : Int} (dr : Int) (m : Bool) (h : 0 ≤ c ∧ c < 256) : 0 ≤ ssZ c dr m ∧ ssZ c dr m < 256 := by
 unfold ssZ
 have := sg_rng c m
 cases (dr != 0 && c == dr) <;> cases hasZ [67, 82, 68, 66] c <;> cases m <;> simp <;> omega
theorem fd_isB {le fill dr : Int} {neg : Bool} (hf : 0 ≤ fill ∧ fill < 256) : ∀ (ms sp ds : List Int) (o : Int), IsB sp → IsB ds → IsB (fdGo le fill dr neg ms sp ds o)
 | [], _, _, _, _, _ => IsB.nil
 | m :: r, sp, ds, o, hs, hd => by
  rw [fdGo]
  have h1 := hd_isB hs
  have h2 := hd_isB hd
  cases m == 100 with
  | true => exact cons_isB (fm_rng _ h2) (fd_isB hf _ _ _ _ (tl_isB hs) (tl_isB hd))
  | false =>
   cases m == 99 with
   | true => exact cons_isB (by cases decide (o < le) <;> simp only [cond_true, cond_false] <;> omega) (fd_isB hf _ _ _ _ (tl_isB hs) (tl_isB hd))
   | false =>
    cases m == 105 with
    | true => exact cons_isB (by cases sp.headD 0 == 66 <;> cases decide (o < le) <;> simp only [cond_true, cond_false] <;> omega) (fd_isB hf _ _ _ _ (tl_isB hs) hd)
    | false =>
     cases m != 118 with
     | true => exact cons_isB (ss_rng _ _ h1) (fd_isB hf _ _ _ _ (tl_isB hs) hd)
     | false => exact fd_isB hf _ _ _ _ (tl_isB hs) hd
theorem fl_rng (sp : List Int) : 0 ≤ fdFl sp ∧ fdFl sp < 256 := by unfold fdFl; split <;> omega
theorem field_isB {sp : List Int} (h : IsB sp) (w : Int) (k : Nat) (n : Int) : IsB (fieldZ sp w k n) := by
 have h1 : IsB (fdOut sp w k n) := fd_isB (fl_rng sp) _ _ _ _ h (dg_isB (digZ_dg _ _))
 unfold fieldZ
 cases fdBl sp w k n with
 | true => exact rep_isB _ _ (fl_rng sp)
 | false =>
  cases fdDr sp != 0 with
  | true =>
   intro x hx
   rcases List.mem_or_eq_of_mem_set hx with hx | rfl
   ·exact h1 x hx
   ·exact sg_rng _ _
  | false => exact h1
theorem rdGo_rng : ∀ (ms s : List Int) (a : Int) (k : Nat), 0 ≤ a → a < tenZ k → (k : Int) + pdGo ms ≤ 9 → 0 ≤ rdGo ms s a ∧ rdGo ms s a < 1000000000
 | [], s, a, k, h0, h1, h2 => by
  have := tenZ_le9 (n := k) (by simp only [pdGo] at h2; omega)
  rw [rdGo]
  omega
 | m :: r, s, a, k, h0, h1, h2 => by
  have nn := pd_nn r
  rw [pdGo] at h2
  rw [rdGo]
  cases h : (m == 118) with
  | true =>
   have q : isP 118 = false := by decide
   rw [eq_of_beq h, q, cond_false, Int.zero_add] at h2
   exact rdGo_rng r s a k h0 h1 h2
  | false =>
   rw [cond_false]
   cases hP : (m == 100 || m == 99) with
   | true =>
    have hP : isP m = true := hP
    rw [hP, cond_true] at h2
    have rr := rd_rng (s.headD 0)
    have tp : tenZ (k + 1) = tenZ k * 10 := by rw [tenZ_add]; rfl
    rw [cond_true]
    exact rdGo_rng r _ _ (k + 1) (by omega) (by omega) (by omega)
   | false =>
    have hP : isP m = false := hP
    rw [hP, cond_false, Int.zero_add] at h2
    exact rdGo_rng r _ a k h0 h1 h2
def rdA (l t : List Int) : Int := rdGo (marksZ (pS l)) t 0
def fdN (l : List Int) (n : Int) : List Int := fieldZ (pS l) (pW l) (pD l).toNat n
def rdV (l t : List Int) : Int × Int := if pN l = true then (if (t.length : Int) = pW l then (if fdN l (rdA l t) = t then (rdA l t, 0) else if pG l = true ∧ rdA l t > 0 ∧ fdN l (0 - rdA l t) = t then (0 - rdA l t, 0) else (0, 31)) else (0, 31)) else (0, 30)
theorem pN_nv {l : List Int} (h : pN l = true) : pW l = nv (marksZ (pS l)) := by
 have h1 := marks_nv (pS l)
 have h2 : pS l = exZ l := by rw [pS, if_pos (pN_vOK h)]
 have hW : pW l = (exZ l).length - cntZ (exZ l) 86 := by rw [pW, if_pos (pN_vOK h), (pN_num h).nch]; rfl
 rw [h2] at h1 ⊢
 rw [hW]
 omega
def onGo : List Int → List Int → Bool
 | _, [] => true
 | [], _ :: _ => false
 | c :: r, b :: s => oneZ c b && onGo r s
def hoZ (l t : List Int) : Bool := if vOK l = true then (if pN l = true then decide ((rdV l t).2 = 0) else (decide ((t.length : Int) = pW l) && onGo (pS l) t)) else false
def flZ (l t : List Int) : List Int := if (t.length : Int) > pW l then t.take (pW l).toNat else t ++ rep1 32 (pW l - t.length).toNat
def fiE (l : List Int) : Int := if vOK l = true ∧ pN l = false then 0 else 30
def fiS (l t : List Int) : List Int := if vOK l = true ∧ pN l = false then flZ l t else []
def fiF (l t : List Int) : Bool := if vOK l = true ∧ pN l = false then hoZ l (flZ l t) else false
def zeS (l : List Int) : List Int := if vOK l = true then (if pN l = true then fdN l 0 else rep1 32 (pW l).toNat) else []
theorem pCh {l : List Int} (h : vOK l = true) (hn : pN l = false) : pW l = (pS l).length := by
 have hc : charZ (exZ l) = true := by
  simp only [vOK, Bool.and_eq_true, Bool.or_eq_true] at h
  simp only [pN] at hn
  rcases h with ⟨h1, h2 | h2⟩
  ·exact h2
  ·rw [h1, h2] at hn; cases hn
 rw [pW, pS, if_pos h, if_pos h, hc]
 rfl
theorem pW_rng {s : ByteArray} : 0 ≤ pW (bz s) ∧ pW (bz s) ≤ 32 := by
 have := ex_rng s
 have hc := cnt_le (exZ (bz s)) 86
 unfold pW
 split
 ·split <;> omega
 ·omega
def s21 (n : Int) (q : Int) (s : ByteArray) : Bool × Value := (decide (s.size ≤ 9223372036854775807 ∧ -9223372036854775808 ≤ n ∧ n ≤ 9223372036854775807), .tuple ⟨[.string (sz (edS (bz s) n q)), .bool (edF (bz s) n q), .int .i64 (edE (bz s) q)]⟩)
theorem fn21 : Fn1 Tryz.prog 182 Tryz.f182 := ⟨Tryz.func182, by kernel_rfl, by kernel_rfl, by kernel_rfl⟩
theorem v21 (n : Int) (q : Int) (s : ByteArray) (R : Value → Prop) : bodyQ Tryz.prog G12 noL Tryz.f182 [Enc.enc n, Enc.enc q, Enc.enc s] (fun _ => none) 0 (fun v _ _ => R v) = ( bif decide (ByteArray.size s ≤ 9223372036854775807) then bif pE (bz s) != 0 || true then bif pE (bz s) != 0 || !pN (bz s) then R (.tuple (.mk [S (ByteArray.mk #[]), B false, I 30])) else bif decide (q < 0) || true then bif decide (q < 0) || decide (q > 9) then R (.tuple (.mk [S (ByteArray.mk #[]), B false, I 1])) else bif decide (0 ≤ q ∧ q ≤ 9 ∧ 0 ≤ pD (bz s) ∧ pD (bz s) ≤ 9 ∧ 0 ≤ pQ (bz s) ∧ pQ (bz s) ≤ pD (bz s) ∧ -9223372036854775808 ≤ n ∧ n ≤ 9223372036854775807) then bif decide (ByteArray.size (sz (pS (bz s))) ≤ 900 ∧ 0 ≤ pD (bz s) ∧ pD (bz s) ≤ 900 ∧ pdGo (marksZ (bz (sz (pS (bz s))))) ≤ pD (bz s) ∧ 0 ≤ pW (bz s) ∧ pW (bz s) ≤ 900 ∧ -9223372036854775808 ≤ cuN n q (pQ (bz s)) (pD (bz s)) (pG (bz s)) ∧ cuN n q (pQ (bz s)) (pD (bz s)) (pG (bz s)) ≤ 9223372036854775807 ∧ fdOK (bz (sz (pS (bz s)))) (pW (bz s)) (Int.toNat (pD (bz s))) (cuN n q (pQ (bz s)) (pD (bz s)) (pG (bz s))) = true) then R (.tuple (.mk [S (sz (fieldZ (bz (sz (pS (bz s)))) (pW (bz s)) (Int.toNat (pD (bz s))) (cuN n q (pQ (bz s)) (pD (bz s)) (pG (bz s))))), B (cuF n q (pQ (bz s)) (pD (bz s)) (pG (bz s))), I 0])) else False else False else False else False else False) := by kernel_rfl
theorem ok21 : PureOK Tryz.prog 182 (sp3 s21) := by
 refine qure3 ok_G12 hmix fn21 lokf_none (Nat.le_of_ble_eq_true (by kernel_rfl)) fun n q s hc => ?_
 rw [DoesQ, v21]
 have hc : (s.size ≤ 9223372036854775807 ∧ -9223372036854775808 ≤ n ∧ n ≤ 9223372036854775807) := of_decide_eq_true hc
 try dsimp only [s21]
 rw [pE_ne, pN_or]
 refine c_t (decide_eq_true hc.1) (c_t (by simp) (cond_intro (fun h => ?_) (fun h => ?_)))
 ·have h : pN (bz s) = false := by simpa using h
  simp [edS, edF, edE, h, sz_nil]
 ·have h : pN (bz s) = true := by simpa using h
  have hd := pD_rng h
  have hcr := cuN_rng n q (pQ (bz s)) (pD (bz s)) (pG (bz s)) (by omega)
  obtain ⟨g1, g2, g3, g4, g5, g6⟩ := pN_ok (pS_len s) h (cuN n q (pQ (bz s)) (pD (bz s)) (pG (bz s)))
  rw [bz_sz g1, sz_size]
  refine c_t (by simp) (cond_intro (fun h2 => ?_) (fun h2 => ?_))
  ·have h2 : ¬ (0 ≤ q ∧ q ≤ 9) := by
    simp only [Bool.or_eq_true, decide_eq_true_eq] at h2
    omega
   simp [edS, edF, edE, h, h2, sz_nil]
  ·have h2 : 0 ≤ q ∧ q ≤ 9 := by
    simp only [Bool.or_eq_false_iff, decide_eq_false_iff_not] at h2
    omega
   refine c_t (decide_eq_true (by omega)) (c_t (decide_eq_true ⟨by omega, by omega, by omega, by omega, by omega, by omega, by omega, by omega, g6⟩) ?_)
   simp [edS, edF, edE, h, h2]
def V23_0 : ByteArray × ByteArray × Bool × Int × Int × Int × Bool × Int × ByteArray × Int × Int → List Value := fun (s, z, zb, z1, z2, z3, zg, a, ms, o, i) => [S s, .pointer (some ⟨7, 0, some 0⟩), I a, S ms, I o, I i]
def B23_0 : ByteArray × ByteArray × Bool × Int × Int × Int × Bool × Int × ByteArray × Int × Int → List (Option Blk) := fun (s, z, zb, z1, z2, z3, zg, a, ms, o, i) => [some ⟨[S z, B zb, I z1, I z2, I z3, B zg], 131, true⟩]
def S23_0 : LSpec (ByteArray × ByteArray × Bool × Int × Int × Int × Bool × Int × ByteArray × Int × Int) where
 live := [1, 6, 8, 9, 10, 11]
 mid := [7]
 n := 120
 dec vs bs := match vs, bs with | [.string s, .pointer (some ⟨7, 0, some 0⟩), .int .i64 a, .string ms, .int .i64 o, .int .i64 i], [some ⟨[.string z, .bool zb, .int .i64 z1, .int .i64 z2, .int .i64 z3, .bool zg], 131, true⟩] => some (s, z, zb, z1, z2, z3, zg, a, ms, o, i) | _, _ => none
 pre := fun (s, z, zb, z1, z2, z3, zg, a, ms, o, i) => decide (0 ≤ i ∧ i ≤ ms.size ∧ ms.size ≤ 1000 ∧ 0 ≤ o ∧ o + nv ((bz ms).drop i.toNat) ≤ s.size ∧ s.size ≤ 1000 ∧ 0 ≤ a ∧ pdGo ((bz ms).drop i.toNat) ≤ 9 ∧ a < tenZ (9 - pdGo ((bz ms).drop i.toNat)).toNat)
 fin := fun (s, z, zb, z1, z2, z3, zg, a, ms, o, i) Z => ∀ o', Z (.exit 0) [S s, .pointer (some ⟨7, 0, some 0⟩), I (rdGo ((bz ms).drop i.toNat) ((bz s).drop o.toNat) a), S ms, I o', I ms.size] [some ⟨[S z, B zb, I z1, I z2, I z3, B zg], 131, true⟩]
theorem r23_0 (s : ByteArray) (z : ByteArray) (zb : Bool) (z1 : Int) (z2 : Int) (z3 : Int) (zg : Bool) (a : Int) (ms : ByteArray) (o : Int) (i : Int) (jk : Tmps) (R : Exit → List Value → List (Option Blk) → Prop) : (codeQ Tryz.prog G12 noL Tryz.f149.ntmps (loopOf Tryz.f149 0) (tl S23_0.live (V23_0 (s, z, zb, z1, z2, z3, zg, a, ms, o, i)) jk) (ml S23_0.mid (B23_0 (s, z, zb, z1, z2, z3, zg, a, ms, o, i))) S23_0.n fun e t' m' _ => R e (List.map t' S23_0.live) (List.map m' S23_0.mid)) = ( bif decide (i < (↑(ByteArray.size ms) : Int)) then bif decide (0 ≤ i ∧ i < (↑(ByteArray.size ms) : Int)) then bif byteAt ms (Int.toNat i) == 118 then R Exit.normal [S s, .pointer (some (.mk 7 0 (some 0))), I a, S ms, I o, I (IntKind.wrap .i64 (i + 1))] [some (.mk [S z, B zb, I z1, I z2, I z3, B zg] 131 true)] else bif decide (0 ≤ i ∧ i < (↑(ByteArray.size ms) : Int)) && (byteAt ms (Int.toNat i) == 100 || decide (0 ≤ i ∧ i < (↑(ByteArray.size ms) : Int)) && true) then bif byteAt ms (Int.toNat i) == 100 || byteAt ms (Int.toNat i) == 99 then bif decide (0 ≤ o ∧ o < (↑(ByteArray.size s) : Int)) then bif unK (byteAt s (Int.toNat o)) then R Exit.normal [S s, .pointer (some (.mk 7 0 (some 0))), I (IntKind.wrap .i64 (IntKind.wrap .i64 (a * 10) + unD (byteAt s (Int.toNat o)))), S ms, I (IntKind.wrap .i64 (o + 1)), I (IntKind.wrap .i64 (i + 1))] [some (.mk [S z, B zb, I z1, I z2, I z3, B zg] 131 true)] else bif decide (0 ≤ o ∧ o < (↑(ByteArray.size s) : Int)) && bif decide (byteAt s (Int.toNat o) ≥ 48) then decide (0 ≤ o ∧ o < (↑(ByteArray.size s) : Int)) && true else true then bif decide (byteAt s (Int.toNat o) ≥ 48) && decide (byteAt s (Int.toNat o) ≤ 57) then bif decide (0 ≤ o ∧ o < (↑(ByteArray.size s) : Int)) then R Exit.normal [S s, .pointer (some (.mk 7 0 (some 0))), I (IntKind.wrap .i64 (IntKind.wrap .i64 (a * 10) + IntKind.wrap .i64 (IntKind.wrap .u8 (byteAt s (Int.toNat o) - 48)))), S ms, I (IntKind.wrap .i64 (o + 1)), I (IntKind.wrap .i64 (i + 1))] [some (.mk [S z, B zb, I z1, I z2, I z3, B zg] 131 true)] else False else R Exit.normal [S s, .pointer (some (.mk 7 0 (some 0))), I (IntKind.wrap .i64 (a * 10)), S ms, I (IntKind.wrap .i64 (o + 1)), I (IntKind.wrap .i64 (i + 1))] [some (.mk [S z, B zb, I z1, I z2, I z3, B zg] 131 true)] else False else False else R Exit.normal [S s, .pointer (some (.mk 7 0 (some 0))), I a, S ms, I (IntKind.wrap .i64 (o + 1)), I (IntKind.wrap .i64 (i + 1))] [some (.mk [S z, B zb, I z1, I z2, I z3, B zg] 131 true)] else False else False else R (Exit.exit 0) [S s, .pointer (some (.mk 7 0 (some 0))), I a, S ms, I o, I i] [some (.mk [S z, B zb, I z1, I z2, I z3, B zg] 131 true)]) := by kernel_rfl
theorem l23_0 : LOKf Tryz.prog (oneL 0 S23_0.h) Tryz.f149 := by
 refine lokf_one (h := S23_0.h) (by kernel_rfl) (loop_specQ ok_G12 hmix (by kernel_rfl) (lok_none _) S23_0 V23_0 B23_0 (fun (s, z, zb, z1, z2, z3, zg, a, ms, o, i) => (ms.size - i).toNat) ?_ ?_ ?_)
 ·intro vs bs s h
  simp only [S23_0] at h
  split at h
  all_goals first | (cases h; exact ⟨rfl, rfl⟩) | cases h
 ·exact fun _ _ _ h => h
 ·intro ⟨s, z, zb, z1, z2, z3, zg, a, ms, o, i⟩ jk Z hp hf
  rw [r23_0]
  simp only [S23_0] at hp hf
  simp only [decide_eq_true_eq] at hp
  refine cond_intro (fun h => ?_) (fun h => ?_)
  ·have h := of_decide_eq_true h
   obtain ⟨hi0, p2, p3, p4, p5, p6, p7, p8, p9⟩ := hp
   have g1 : decide (0 ≤ i ∧ i < (ms.size : Int)) = true := decide_eq_true (by omega)
   rw [bz_at hi0 h, nv_cons] at p5
   rw [bz_at hi0 h, pdGo] at p8 p9
   rw [bz_at hi0 h, rdGo] at hf
   have nn := pd_nn ((bz ms).drop (i + 1).toNat)
   have eo : o.toNat + 1 = (o + 1).toNat := by omega
   have fin : ∀ (o2 a2 : Int), 0 ≤ o2 → o2 + nv ((bz ms).drop (i + 1).toNat) ≤ s.size → 0 ≤ a2 → a2 < tenZ (9 - pdGo ((bz ms).drop (i + 1).toNat)).toNat → pdGo ((bz ms).drop (i + 1).toNat) ≤ 9 →
     (∀ o' : Int, Z (.exit 0) [S s, .pointer (some ⟨7, 0, some 0⟩), I (rdGo ((bz ms).drop (i + 1).toNat) ((bz s).drop o2.toNat) a2), S ms, I o', I ms.size] [some ⟨[S z, B zb, I z1, I z2, I z3, B zg], 131, true⟩]) →
     S23_0.step V23_0 B23_0 (fun (s, z, zb, z1, z2, z3, zg, a, ms, o, i) => (ms.size - i).toNat) (s, z, zb, z1, z2, z3, zg, a, ms, o, i) Z Exit.normal
      [S s, .pointer (some ⟨7, 0, some 0⟩), I a2, S ms, I o2, I (IntKind.wrap .i64 (i + 1))] [some ⟨[S z, B zb, I z1, I z2, I z3, B zg], 131, true⟩] := by
    intro o2 a2 q1 q2 q3 q4 q5 q6
    rw [w64 (n := i + 1) (by omega)]
    exact ⟨(s, z, zb, z1, z2, z3, zg, a2, ms, o2, i + 1), rfl, rfl, by simp only [S23_0, decide_eq_true_eq]; exact ⟨by omega, by omega, p3, q1, q2, p6, q3, q5, q4⟩, by simp only; omega, q6⟩
   refine c_t g1 (cond_intro (fun b => ?_) (fun b => c_t (by rw [g1]; cases byteAt ms i.toNat == 100 <;> rfl) ?_))
   ·have q : isP 118 = false := by decide
    rw [b, cond_true] at hf
    rw [eq_of_beq b] at p5 p8 p9
    rw [if_pos rfl] at p5
    rw [q, cond_false, Int.zero_add] at p8 p9
    exact fin o a p4 (by omega) p7 p9 p8 hf
   ·have hne : byteAt ms i.toNat ≠ 118 := by simpa using b
    rw [b, cond_false, List.tail_drop, eo] at hf
    rw [if_neg hne] at p5
    have o1 : o < s.size := by omega
    have g3 : decide (0 ≤ o ∧ o < (s.size : Int)) = true := decide_eq_true (by omega)
    rw [w64 (n := o + 1) (by omega)]
    refine cond_intro (fun c => c_t g3 ?_) (fun c => ?_)
    ·have hP : isP (byteAt ms i.toNat) = true := c
     rw [hP, cond_true] at p8 p9
     rw [c, cond_true, bz_at p4 o1, List.headD_cons] at hf
     have rr := rd_rng (byteAt s o.toNat)
     have tp : tenZ (9 - pdGo ((bz ms).drop (i + 1).toNat)).toNat = tenZ (9 - (1 + pdGo ((bz ms).drop (i + 1).toNat))).toNat * 10 := by
      rw [show (9 - pdGo ((bz ms).drop (i + 1).toNat)).toNat = (9 - (1 + pdGo ((bz ms).drop (i + 1).toNat))).toNat + 1 by omega, tenZ_add]
      rfl
     have t9 := tenZ_le9 (n := (9 - (1 + pdGo ((bz ms).drop (i + 1).toNat))).toNat) (by omega)
     have F := fin (o + 1) (a * 10 + rdD (byteAt s o.toNat)) (by omega) (by omega) (by omega) (by omega) (by omega) hf
     rw [w64 (n := a * 10) (by omega)]
     refine cond_intro (fun d => ?_) (fun d => c_t (by rw [g3]; cases decide (byteAt s o.toNat ≥ 48) <;> rfl) (cond_intro (fun e => c_t g3 ?_) (fun e => ?_)))
     ·have er : rdD (byteAt s o.toNat) = unD (byteAt s o.toNat) := by rw [rdD, d, cond_true]
      rw [er] at F rr
      rw [w64 (by omega)]
      exact F
     ·have er : rdD (byteAt s o.toNat) = byteAt s o.toNat - 48 := by rw [rdD, d, cond_false, e, cond_true]
      rw [er] at F rr
      rw [w8 (by omega), w64 (n := byteAt s o.toNat - 48) (by omega), w64 (by omega)]
      exact F
     ·have er : rdD (byteAt s o.toNat) = 0 := by rw [rdD, d, cond_false, e, cond_false]
      rw [er, Int.add_zero] at F
      exact F
    ·have hP : isP (byteAt ms i.toNat) = false := c
     rw [hP, cond_false, Int.zero_add] at p8 p9
     rw [c, cond_false] at hf
     exact fin (o + 1) a (by omega) (by omega) p7 p9 p8 hf
  ·have h := of_decide_eq_false h
   rw [bz_end (s := ms) (by omega), rdGo] at hf
   obtain rfl : i = ms.size := by omega
   exact hf _
def s23 (s : ByteArray) (t : ByteArray) : Bool × Value := (decide (s.size ≤ 9223372036854775807 ∧ t.size ≤ 9223372036854775807), .tuple ⟨[.int .i64 (rdV (bz s) (bz t)).1, .int .i64 (rdV (bz s) (bz t)).2]⟩)
theorem fn23 : Fn1 Tryz.prog 149 Tryz.f149 := ⟨Tryz.func149, by kernel_rfl, by kernel_rfl, by kernel_rfl⟩
theorem v23 (s : ByteArray) (t : ByteArray) (R : Value → Prop) : bodyQ Tryz.prog G12 (oneL 0 S23_0.h) Tryz.f149 [Enc.enc s, Enc.enc t] (fun _ => none) 0 (fun v _ _ => R v) = ( bif decide (ByteArray.size s ≤ 9223372036854775807) then bif pE (bz s) != 0 || true then bif pE (bz s) != 0 || !pN (bz s) then R (.tuple (.mk [I 0, I 30])) else bif (↑(ByteArray.size t) : Int) != pW (bz s) then R (.tuple (.mk [I 0, I 31])) else bif decide (ByteArray.size (sz (pS (bz s))) ≤ 1000) then bif LSpec.pre S23_0 (t, sz (pS (bz s)), pN (bz s), pW (bz s), pD (bz s), pQ (bz s), pG (bz s), 0, sz (marksZ (bz (sz (pS (bz s))))), 0, 0) then ∀ (o' : Int) (x : Tmps), bif decide (ByteArray.size (sz (pS (bz s))) ≤ 900 ∧ 0 ≤ pD (bz s) ∧ pD (bz s) ≤ 900 ∧ pdGo (marksZ (bz (sz (pS (bz s))))) ≤ pD (bz s) ∧ 0 ≤ pW (bz s) ∧ pW (bz s) ≤ 900 ∧ -9223372036854775808 ≤ rdGo (List.drop (Int.toNat 0) (bz (sz (marksZ (bz (sz (pS (bz s)))))))) (List.drop (Int.toNat 0) (bz t)) 0 ∧ rdGo (List.drop (Int.toNat 0) (bz (sz (marksZ (bz (sz (pS (bz s)))))))) (List.drop (Int.toNat 0) (bz t)) (0 : Int) ≤ 9223372036854775807 ∧ fdOK (bz (sz (pS (bz s)))) (pW (bz s)) (Int.toNat (pD (bz s))) (rdGo (List.drop (Int.toNat 0) (bz (sz (marksZ (bz (sz (pS (bz s)))))))) (List.drop (Int.toNat 0) (bz t)) 0) = true) then bif ByteArray.toList (sz (fieldZ (bz (sz (pS (bz s)))) (pW (bz s)) (Int.toNat (pD (bz s))) (rdGo (List.drop (Int.toNat 0) (bz (sz (marksZ (bz (sz (pS (bz s)))))))) (List.drop (Int.toNat 0) (bz t)) 0))) == ByteArray.toList t then R (.tuple (.mk [I (rdGo (List.drop (Int.toNat 0) (bz (sz (marksZ (bz (sz (pS (bz s)))))))) (List.drop (Int.toNat 0) (bz t)) 0), I 0])) else bif bif pG (bz s) then bif decide (rdGo (List.drop (Int.toNat 0) (bz (sz (marksZ (bz (sz (pS (bz s)))))))) (List.drop (Int.toNat 0) (bz t)) 0 > 0) then decide (ByteArray.size (sz (pS (bz s))) ≤ 900 ∧ 0 ≤ pD (bz s) ∧ pD (bz s) ≤ 900 ∧ pdGo (marksZ (bz (sz (pS (bz s))))) ≤ pD (bz s) ∧ 0 ≤ pW (bz s) ∧ pW (bz s) ≤ 900 ∧ -9223372036854775808 ≤ IntKind.wrap .i64 (0 - rdGo (List.drop (Int.toNat 0) (bz (sz (marksZ (bz (sz (pS (bz s)))))))) (List.drop (Int.toNat 0) (bz t)) 0) ∧ IntKind.wrap .i64 (0 - rdGo (List.drop (Int.toNat 0) (bz (sz (marksZ (bz (sz (pS (bz s)))))))) (List.drop (Int.toNat 0) (bz t)) 0) ≤ 9223372036854775807 ∧ fdOK (bz (sz (pS (bz s)))) (pW (bz s)) (Int.toNat (pD (bz s))) (IntKind.wrap .i64 (0 - rdGo (List.drop (Int.toNat 0) (bz (sz (marksZ (bz (sz (pS (bz s)))))))) (List.drop (Int.toNat 0) (bz t)) 0)) = true) && true else true else true then bif pG (bz s) && (decide (rdGo (List.drop (Int.toNat 0) (bz (sz (marksZ (bz (sz (pS (bz s)))))))) (List.drop (Int.toNat 0) (bz t)) 0 > 0) && ByteArray.toList (sz (fieldZ (bz (sz (pS (bz s)))) (pW (bz s)) (Int.toNat (pD (bz s))) (IntKind.wrap .i64 (0 - rdGo (List.drop (Int.toNat 0) (bz (sz (marksZ (bz (sz (pS (bz s)))))))) (List.drop (Int.toNat 0) (bz t)) 0)))) == ByteArray.toList t) then R (.tuple (.mk [I (IntKind.wrap .i64 (0 - rdGo (List.drop (Int.toNat 0) (bz (sz (marksZ (bz (sz (pS (bz s)))))))) (List.drop (Int.toNat 0) (bz t)) 0)), I 0])) else R (.tuple (.mk [I 0, I 31])) else False else False else False else False else False else False) := by kernel_rfl
theorem ok23 : PureOK Tryz.prog 149 (sp2 s23) := by
 refine qure2 ok_G12 hmix fn23 l23_0 (Nat.le_of_ble_eq_true (by kernel_rfl)) fun s t hc => ?_
 rw [DoesQ, v23]
 have hc : (s.size ≤ 9223372036854775807 ∧ t.size ≤ 9223372036854775807) := of_decide_eq_true hc
 try dsimp only [s23]
 rw [pE_ne, pN_or]
 refine c_t (decide_eq_true hc.1) (c_t (by simp) (cond_intro (fun h => ?_) (fun h => ?_)))
 ·have h : pN (bz s) = false := by simpa using h
  simp [rdV, h]
 have h : pN (bz s) = true := by simpa using h
 have hd := pD_rng h
 have hnv := pN_nv h
 refine cond_intro (fun h2 => ?_) (fun h2 => ?_)
 ·have h2 : ¬ (t.size : Int) = pW (bz s) := by simpa using h2
  simp [rdV, h, h2, bz_length]
 have h2 : (t.size : Int) = pW (bz s) := by simpa using h2
 obtain ⟨g1, g2, g3, g4, g5, g6⟩ := pN_ok (pS_len s) h (rdA (bz s) (bz t))
 obtain ⟨-, -, -, -, -, g7⟩ := pN_ok (pS_len s) h (0 - rdA (bz s) (bz t))
 have hmB := marks_isB (pS (bz s))
 have hml := marks_len (pS (bz s))
 have hr : 0 ≤ rdA (bz s) (bz t) ∧ rdA (bz s) (bz t) < 1000000000 := rdGo_rng _ _ 0 0 (by omega) (by decide) (by omega)
 have er : rdGo (marksZ (pS (bz s))) (bz t) 0 = rdA (bz s) (bz t) := rfl
 rw [bz_sz g1, sz_size, bz_sz hmB, drop0, drop0, er, w64 (n := 0 - rdA (bz s) (bz t)) (by omega), toList_beq, toList_beq, bz_sz (field_isB g1 _ _ _), bz_sz (field_isB g1 _ _ _)]
 have eF : ∀ n, fieldZ (pS (bz s)) (pW (bz s)) (pD (bz s)).toNat n = fdN (bz s) n := fun _ => rfl
 rw [eF, eF]
 have e1 : rdV (bz s) (bz t) = if fdN (bz s) (rdA (bz s) (bz t)) = bz t then (rdA (bz s) (bz t), 0) else if pG (bz s) = true ∧ rdA (bz s) (bz t) > 0 ∧ fdN (bz s) (0 - rdA (bz s) (bz t)) = bz t then (0 - rdA (bz s) (bz t), 0) else (0, 31) := by
  rw [rdV, if_pos h, if_pos (by rw [bz_length]; exact h2)]
 refine c_t (decide_eq_true (by omega)) (c_t ?_ (fun o' _ => c_t (decide_eq_true ⟨by omega, by omega, by omega, by omega, by omega, by omega, by omega, by omega, g6⟩) (cond_intro (fun a => ?_) (fun a => c_t ?_ (cond_intro (fun b => ?_) (fun b => ?_))))))
 ·simp only [S23_0, decide_eq_true_eq, sz_size, bz_sz hmB, Int.toNat_zero, List.drop_zero]
  refine ⟨by omega, by omega, by omega, by omega, by omega, by omega, by omega, by omega, ?_⟩
  have := tenZ_le (n := (9 - pdGo (marksZ (pS (bz s)))).toNat) (by omega)
  omega
 ·rw [e1, if_pos (of_decide_eq_true a)]
 ·cases pG (bz s) with
  | false => rfl
  | true =>
   cases decide (rdA (bz s) (bz t) > 0) with
   | false => rfl
   | true =>
    show (decide _ && true) = true
    rw [Bool.and_true]
    exact decide_eq_true ⟨by omega, by omega, by omega, by omega, by omega, by omega, by omega, by omega, g7⟩
 ·simp only [Bool.and_eq_true, decide_eq_true_eq] at b
  rw [e1, if_neg (of_decide_eq_false a), if_pos b]
 ·have b : ¬ (pG (bz s) = true ∧ rdA (bz s) (bz t) > 0 ∧ fdN (bz s) (0 - rdA (bz s) (bz t)) = bz t) := by
   rintro ⟨b1, b2, b3⟩
   rw [b1, decide_eq_true b2, decide_eq_true b3] at b
   cases b
  rw [e1, if_neg (of_decide_eq_false a), if_neg b]
def G13 : Env := ((G12.add 182 (sp3 s21)).add 149 (sp2 s23))
theorem ok_G13 : EnvOK Tryz.prog G13 := env_add (env_add (ok_G12) ok21) ok23
def V25_0 : Bool × ByteArray × ByteArray × Bool × Int × Int × Int × Bool × Int → List Value := fun (r, t, z, zb, z1, z2, z3, zg, i) => [B r, S t, .pointer (some ⟨6, 0, some 0⟩), I i]
def B25_0 : Bool × ByteArray × ByteArray × Bool × Int × Int × Int × Bool × Int → List (Option Blk) := fun (r, t, z, zb, z1, z2, z3, zg, i) => [some ⟨[S z, B zb, I z1, I z2, I z3, B zg], 131, true⟩]
def S25_0 : LSpec (Bool × ByteArray × ByteArray × Bool × Int × Int × Int × Bool × Int) where
 live := [4, 1, 5, 7]
 mid := [6]
 n := 120
 dec vs bs := match vs, bs with | [.bool r, .string t, .pointer (some ⟨6, 0, some 0⟩), .int .i64 i], [some ⟨[.string z, .bool zb, .int .i64 z1, .int .i64 z2, .int .i64 z3, .bool zg], 131, true⟩] => some (r, t, z, zb, z1, z2, z3, zg, i) | _, _ => none
 pre := fun (r, t, z, zb, z1, z2, z3, zg, i) => decide (0 ≤ i ∧ i ≤ t.size ∧ t.size = z.size ∧ t.size ≤ 1000)
 fin := fun (r, t, z, zb, z1, z2, z3, zg, i) Z => (bif onGo ((bz z).drop i.toNat) ((bz t).drop i.toNat) then Z (.exit 0) [B r, S t, .pointer (some ⟨6, 0, some 0⟩), I t.size] [some ⟨[S z, B zb, I z1, I z2, I z3, B zg], 131, true⟩] else (∀ i', Z .ret [B false, S t, .pointer (some ⟨6, 0, some 0⟩), I i'] [some ⟨[S z, B zb, I z1, I z2, I z3, B zg], 131, true⟩]))
theorem r25_0 (r : Bool) (t : ByteArray) (z : ByteArray) (zb : Bool) (z1 : Int) (z2 : Int) (z3 : Int) (zg : Bool) (i : Int) (jk : Tmps) (R : Exit → List Value → List (Option Blk) → Prop) : (codeQ Tryz.prog G13 noL Tryz.f75.ntmps (loopOf Tryz.f75 0) (tl S25_0.live (V25_0 (r, t, z, zb, z1, z2, z3, zg, i)) jk) (ml S25_0.mid (B25_0 (r, t, z, zb, z1, z2, z3, zg, i))) S25_0.n fun e t' m' _ => R e (List.map t' S25_0.live) (List.map m' S25_0.mid)) = ( bif decide (i < (↑(ByteArray.size t) : Int)) then bif decide (0 ≤ i ∧ i < (↑(ByteArray.size z) : Int)) then bif decide (0 ≤ i ∧ i < (↑(ByteArray.size t) : Int)) then bif decide (0 ≤ byteAt t (Int.toNat i) ∧ byteAt t (Int.toNat i) < 256) then bif !oneZ (byteAt z (Int.toNat i)) (byteAt t (Int.toNat i)) then R Exit.ret [B false, S t, .pointer (some (.mk 6 0 (some 0))), I i] [some (.mk [S z, B zb, I z1, I z2, I z3, B zg] 131 true)] else R Exit.normal [B r, S t, .pointer (some (.mk 6 0 (some 0))), I (IntKind.wrap .i64 (i + 1))] [some (.mk [S z, B zb, I z1, I z2, I z3, B zg] 131 true)] else False else False else False else R (Exit.exit 0) [B r, S t, .pointer (some (.mk 6 0 (some 0))), I i] [some (.mk [S z, B zb, I z1, I z2, I z3, B zg] 131 true)]) := by kernel_rfl
theorem l25_0 : LOKf Tryz.prog (oneL 0 S25_0.h) Tryz.f75 := by
 refine lokf_one (h := S25_0.h) (by kernel_rfl) (loop_specQ ok_G13 hmix (by kernel_rfl) (lok_none _) S25_0 V25_0 B25_0 (fun (r, t, z, zb, z1, z2, z3, zg, i) => (t.size - i).toNat) ?_ ?_ ?_)
 ·intro vs bs s h
  simp only [S25_0] at h
  split at h
  all_goals first | (cases h; exact ⟨rfl, rfl⟩) | cases h
 ·exact fun _ _ _ h => h
 ·intro ⟨r, t, z, zb, z1, z2, z3, zg, i⟩ jk Z hp hf
  rw [r25_0]
  simp only [S25_0] at hp hf
  simp only [decide_eq_true_eq] at hp
  refine cond_intro (fun h => ?_) (fun h => ?_)
  ·have h := of_decide_eq_true h
   have hz : i < (z.size : Int) := by omega
   have hb := bz_isB t (byteAt t i.toNat) (List.mem_of_mem_drop (by rw [bz_at hp.1 h]; exact List.mem_cons_self ..))
   rw [bz_at hp.1 h, bz_at hp.1 hz, onGo] at hf
   refine c_t (decide_eq_true (by omega)) (c_t (decide_eq_true (by omega)) (c_t (decide_eq_true hb) (cond_intro (fun a => ?_) (fun a => ?_))))
   ·have a : oneZ (byteAt z i.toNat) (byteAt t i.toNat) = false := by simpa using a
    rw [a, Bool.false_and, cond_false] at hf
    exact hf _
   ·have a : oneZ (byteAt z i.toNat) (byteAt t i.toNat) = true := by simpa using a
    rw [a, Bool.true_and] at hf
    rw [w64 (by omega)]
    exact ⟨(r, t, z, zb, z1, z2, z3, zg, i + 1), rfl, rfl, by simp only [S25_0, decide_eq_true_eq]; omega, by simp only; omega, hf⟩
  ·have h := of_decide_eq_false h
   rw [bz_end (s := t) (by omega), onGo, cond_true] at hf
   obtain rfl : i = t.size := by omega
   exact hf
def s25 (s : ByteArray) (t : ByteArray) : Bool × Value := (decide (s.size ≤ 9223372036854775807 ∧ t.size ≤ 9223372036854775807), .bool (hoZ (bz s) (bz t)))
theorem fn25 : Fn1 Tryz.prog 75 Tryz.f75 := ⟨Tryz.func75, by kernel_rfl, by kernel_rfl, by kernel_rfl⟩
theorem v25 (s : ByteArray) (t : ByteArray) (R : Value → Prop) : bodyQ Tryz.prog G13 (oneL 0 S25_0.h) Tryz.f75 [Enc.enc s, Enc.enc t] (fun _ => none) 0 (fun v _ _ => R v) = ( bif decide (ByteArray.size s ≤ 9223372036854775807) then bif pE (bz s) != 0 then R (B false) else bif pN (bz s) then bif decide (ByteArray.size s ≤ 9223372036854775807 ∧ ByteArray.size t ≤ 9223372036854775807) then R (B (Prod.snd (rdV (bz s) (bz t)) == 0)) else False else bif (↑(ByteArray.size t) : Int) != pW (bz s) then R (B false) else bif LSpec.pre S25_0 (false, t, sz (pS (bz s)), pN (bz s), pW (bz s), pD (bz s), pQ (bz s), pG (bz s), 0) then bif onGo (List.drop (Int.toNat 0) (bz (sz (pS (bz s))))) (List.drop (Int.toNat 0) (bz t)) then ∀ (x : Tmps), R (B true) else ∀ (i' : Int) (x : Tmps), R (B false) else False else False) := by kernel_rfl
theorem ok25 : PureOK Tryz.prog 75 (sp2 s25) := by
 refine qure2 ok_G13 hmix fn25 l25_0 (Nat.le_of_ble_eq_true (by kernel_rfl)) fun s t hc => ?_
 rw [DoesQ, v25]
 have hc : (s.size ≤ 9223372036854775807 ∧ t.size ≤ 9223372036854775807) := of_decide_eq_true hc
 try dsimp only [s25]
 obtain ⟨g1, g2⟩ := pS_len s
 rw [pE_ne, bz_sz g1]
 refine c_t (decide_eq_true hc.1) (cond_intro (fun h => ?_) (fun h => ?_))
 ·have h : vOK (bz s) = false := by simpa using h
  simp [hoZ, h]
 have h : vOK (bz s) = true := by simpa using h
 refine cond_intro (fun hn => c_t (decide_eq_true hc) ?_) (fun hn => ?_)
 ·have e : ((rdV (bz s) (bz t)).2 == 0) = decide ((rdV (bz s) (bz t)).2 = 0) := by rw [Bool.eq_iff_iff]; simp
  rw [e]
  simp [hoZ, h, hn]
 have hw := pCh h hn
 refine cond_intro (fun a => ?_) (fun a => ?_)
 ·have a : ¬ (t.size : Int) = pW (bz s) := by simpa using a
  simp [hoZ, h, hn, bz_length, a]
 have a : (t.size : Int) = pW (bz s) := by simpa using a
 refine c_t ?_ (cond_intro (fun b _ => ?_) (fun b _ _ => ?_))
 ·simp only [S25_0, decide_eq_true_eq, sz_size]
  omega
 ·rw [drop0, drop0] at b
  simp [hoZ, h, hn, bz_length, a, b]
 ·rw [drop0, drop0] at b
  simp [hoZ, h, hn, bz_length, a, b]
def G14 : Env := (G13.add 75 (sp2 s25))
theorem ok_G14 : EnvOK Tryz.prog G14 := env_add (ok_G13) ok25
def s53 (s : ByteArray) (t : ByteArray) : Bool × Value := (decide (s.size ≤ 9223372036854775807 ∧ t.size ≤ 9223372036854775807), .tuple ⟨[.string (sz (fiS (bz s) (bz t))), .bool (fiF (bz s) (bz t)), .int .i64 (fiE (bz s))]⟩)
theorem fn53 : Fn1 Tryz.prog 181 Tryz.f181 := ⟨Tryz.func181, by kernel_rfl, by kernel_rfl, by kernel_rfl⟩
theorem v53 (s : ByteArray) (t : ByteArray) (R : Value → Prop) : bodyQ Tryz.prog G14 noL Tryz.f181 [Enc.enc s, Enc.enc t] (fun _ => none) 0 (fun v _ _ => R v) = ( bif decide (ByteArray.size s ≤ 9223372036854775807) then bif pE (bz s) != 0 || true then bif pE (bz s) != 0 || pN (bz s) then R (.tuple (.mk [S (ByteArray.mk #[]), B false, I 30])) else bif decide ((↑(ByteArray.size t) : Int) > pW (bz s)) then bif decide ((0 : Int) ≤ 0 ∧ 0 ≤ pW (bz s) ∧ pW (bz s) ≤ (↑(ByteArray.size t) : Int)) then bif decide (ByteArray.size s ≤ 9223372036854775807 ∧ ByteArray.size (ByteArray.extract t 0 (Int.toNat (pW (bz s)))) ≤ 9223372036854775807) then R (.tuple (.mk [S (ByteArray.extract t 0 (Int.toNat (pW (bz s)))), B (hoZ (bz s) (bz (ByteArray.extract t 0 (Int.toNat (pW (bz s)))))), I 0])) else False else False else bif decide (0 ≤ IntKind.wrap .i64 (pW (bz s) - (↑(ByteArray.size t) : Int)) ∧ IntKind.wrap .i64 (pW (bz s) - (↑(ByteArray.size t) : Int)) ≤ 1000) then bif strFit (ByteArray.size t + ByteArray.size (sz (rep1 32 (Int.toNat (IntKind.wrap .i64 (pW (bz s) - (↑(ByteArray.size t) : Int))))))) then bif decide (ByteArray.size s ≤ 9223372036854775807 ∧ ByteArray.size (t ++ sz (rep1 32 (Int.toNat (IntKind.wrap .i64 (pW (bz s) - (↑(ByteArray.size t) : Int)))))) ≤ 9223372036854775807) then R (.tuple (.mk [S (t ++ sz (rep1 32 (Int.toNat (IntKind.wrap .i64 (pW (bz s) - (↑(ByteArray.size t) : Int)))))), B (hoZ (bz s) (bz (t ++ sz (rep1 32 (Int.toNat (IntKind.wrap .i64 (pW (bz s) - (↑(ByteArray.size t) : Int)))))))), I 0])) else False else False else False else False else False) := by kernel_rfl
theorem ok53 : PureOK Tryz.prog 181 (sp2 s53) := by
 refine qure2 ok_G14 hmix fn53 lokf_none (Nat.le_of_ble_eq_true (by kernel_rfl)) fun s t hc => ?_
 rw [DoesQ, v53]
 have hc : (s.size ≤ 9223372036854775807 ∧ t.size ≤ 9223372036854775807) := of_decide_eq_true hc
 try dsimp only [s53]
 have hw := @pW_rng s
 rw [pE_ne]
 refine c_t (decide_eq_true hc.1) (c_t (by simp) (cond_intro (fun h => ?_) (fun h => ?_)))
 ·have h : ¬ (vOK (bz s) = true ∧ pN (bz s) = false) := by
   rintro ⟨h1, h2⟩
   rw [h1, h2] at h
   cases h
  rw [fiS, fiF, fiE, if_neg h, if_neg h, if_neg h, sz_nil]
 have h : vOK (bz s) = true ∧ pN (bz s) = false := by
  cases h1 : vOK (bz s) <;> cases h2 : pN (bz s) <;> rw [h1, h2] at h <;> first | exact ⟨rfl, rfl⟩ | cases h
 rw [fiS, fiF, fiE, if_pos h, if_pos h, if_pos h]
 refine cond_intro (fun a => ?_) (fun a => ?_)
 ·have a := of_decide_eq_true a
  have ex : bz (t.extract 0 (pW (bz s)).toNat) = (bz t).take (pW (bz s)).toNat := by rw [bz_extract]; simp
  have exs : (t.extract 0 (pW (bz s)).toNat).size ≤ 9223372036854775807 := by rw [← bz_length, ex, List.length_take, bz_length]; omega
  have e : flZ (bz s) (bz t) = (bz t).take (pW (bz s)).toNat := by rw [flZ, if_pos (by rw [bz_length]; exact a)]
  refine c_t (decide_eq_true (by omega)) (c_t (decide_eq_true (by omega)) ?_)
  rw [e, ex, ← ex, sz_bz]
 ·have a := of_decide_eq_false a
  rw [w64 (by omega)]
  have hR := rep_isB 32 (pW (bz s) - t.size).toNat (by omega)
  have hl : (rep1 32 (pW (bz s) - t.size).toNat).length = (pW (bz s) - t.size).toNat := by simp [rep1]
  have e : flZ (bz s) (bz t) = bz t ++ rep1 32 (pW (bz s) - t.size).toNat := by rw [flZ, if_neg (by rw [bz_length]; exact a), bz_length]
  have eb : bz (t ++ sz (rep1 32 (pW (bz s) - t.size).toNat)) = bz t ++ rep1 32 (pW (bz s) - t.size).toNat := by rw [bz_append, bz_sz hR]
  have es : (t ++ sz (rep1 32 (pW (bz s) - t.size).toNat)).size ≤ 9223372036854775807 := by rw [← bz_length, eb, List.length_append, bz_length, hl]; omega
  refine c_t (decide_eq_true (by omega)) (c_t ?_ (c_t (decide_eq_true (by omega)) ?_))
  ·rw [sz_size, hl]
   simp only [strFit, Nat.ble_eq]
   omega
  ·rw [e, eb, sz_append, sz_bz]
def s55 (s : ByteArray) : Bool × Value := (decide (s.size ≤ 9223372036854775807), .tuple ⟨[.string (sz (zeS (bz s))), .int .i64 (pE (bz s))]⟩)
theorem fn55 : Fn1 Tryz.prog 179 Tryz.f179 := ⟨Tryz.func179, by kernel_rfl, by kernel_rfl, by kernel_rfl⟩
theorem v55 (s : ByteArray) (R : Value → Prop) : bodyQ Tryz.prog G14 noL Tryz.f179 [Enc.enc s] (fun _ => none) 0 (fun v _ _ => R v) = ( bif decide (ByteArray.size s ≤ 9223372036854775807) then bif pE (bz s) != 0 then R (.tuple (.mk [S (ByteArray.mk #[]), I (pE (bz s))])) else bif pN (bz s) then bif decide (ByteArray.size (sz (pS (bz s))) ≤ 900 ∧ 0 ≤ pD (bz s) ∧ pD (bz s) ≤ 900 ∧ pdGo (marksZ (bz (sz (pS (bz s))))) ≤ pD (bz s) ∧ 0 ≤ pW (bz s) ∧ pW (bz s) ≤ 900 ∧ -9223372036854775808 ≤ 0 ∧ (0 : Int) ≤ 9223372036854775807 ∧ fdOK (bz (sz (pS (bz s)))) (pW (bz s)) (Int.toNat (pD (bz s))) 0 = true) then R (.tuple (.mk [S (sz (fieldZ (bz (sz (pS (bz s)))) (pW (bz s)) (Int.toNat (pD (bz s))) 0)), I 0])) else False else bif decide (0 ≤ pW (bz s) ∧ pW (bz s) ≤ 1000) then R (.tuple (.mk [S (sz (rep1 32 (Int.toNat (pW (bz s))))), I 0])) else False else False) := by kernel_rfl
theorem ok55 : PureOK Tryz.prog 179 (sp1 s55) := by
 refine qure1 ok_G14 hmix fn55 lokf_none (Nat.le_of_ble_eq_true (by kernel_rfl)) fun s hc => ?_
 rw [DoesQ, v55]
 have hc : (s.size ≤ 9223372036854775807) := of_decide_eq_true hc
 try dsimp only [s55]
 have hw := @pW_rng s
 have g1 := pS_len s
 rw [pE_ne, bz_sz g1.1, sz_size]
 refine c_t (decide_eq_true hc) (cond_intro (fun h => ?_) (fun h => ?_))
 ·have h : vOK (bz s) = false := by simpa using h
  simp [zeS, h, sz_nil]
 have h : vOK (bz s) = true := by simpa using h
 have hE : pE (bz s) = 0 := by rw [pE, if_pos h]
 refine cond_intro (fun hn => ?_) (fun hn => c_t (decide_eq_true (by omega)) ?_)
 ·have hd := pD_rng hn
  obtain ⟨g1, g2, g3, g4, g5, g6⟩ := pN_ok (pS_len s) hn 0
  refine c_t (decide_eq_true ⟨by omega, by omega, by omega, by omega, by omega, by omega, by omega, by omega, g6⟩) ?_
  simp [zeS, h, hn, hE, fdN]
 ·simp [zeS, h, hn, hE]
end Go.Px
end
noncomputable section
set_option maxHeartbeats 3200000
namespace Go.Cx
open Go Go.Ab Go.Proofs Go.Shelf Go.Px Go.Cv
open Go.Fx (Ty Vl check Valid most base pw bnd Fit fits tv vv tup V0 T0 pw_zero pw_succ wrap_mul pw_w64 str0)
def s73 (v : Vl) (t : Ty) : Bool × Value := (true, I (Fx.fits v t))
theorem fn73 : Fn1 Tryz.prog 73 Tryz.f73 := ⟨Tryz.func73, by kernel_rfl, by kernel_rfl, by kernel_rfl⟩
theorem v73 (v : Vl) (t : Ty) (R : Value → Prop) : bodyQ Tryz.prog G4 noL Tryz.f73 [Enc.enc v, Enc.enc t] (fun _ => none) 0 (fun v _ _ => R v) = ( bif check t != 0 then R (I (check t)) else bif !ByteArray.toList (Vl.s v) == ByteArray.toList (ByteArray.mk #[]) || decide (Ty.p t ≤ 1000) && (decide (Vl.n v ≥ IntKind.wrap .i64 (bnd t)) || decide (Ty.p t ≤ 1000) && true) then bif !ByteArray.toList (Vl.s v) == ByteArray.toList (ByteArray.mk #[]) || (decide (Vl.n v ≥ IntKind.wrap .i64 (bnd t)) || decide (Vl.n v ≤ IntKind.wrap .i64 (0 - IntKind.wrap .i64 (bnd t)))) then R (I 6) else R (I 0) else False) := by kernel_rfl
theorem ok73 : PureOK Tryz.prog 73 (sp2 s73) := by
 refine qure2 ok_G4 hmix fn73 lokf_none (Nat.le_of_ble_eq_true (by kernel_rfl)) fun v t hc => ?_
 rw [DoesQ, v73]
 try dsimp only [s73]
 rw [str0]
 by_cases hv : Valid t
 ·obtain ⟨h1, h2, h3, h4⟩ := Fx.valid_r hv
  have hb := Fx.bnd_range hv
  have hc : check t = 0 := if_pos hv
  rw [hc, w64 (n := bnd t) (by omega), w64 (n := 0 - bnd t) (by omega), decide_eq_true (show t.p ≤ 1000 by omega)]
  refine c_f rfl (c_t (by simp) ?_)
  unfold Fx.fits
  rw [if_pos hv]
  refine cond_intro (fun h => ?_) (fun h => ?_)
  ·rw [if_neg]
   intro hf
   unfold Fit at hf
   simp [hf.1] at h
   omega
  ·rw [if_pos]
   unfold Fit
   simp at h
   grind
 ·have hc : check t = 5 := if_neg hv
  rw [hc]
  refine c_t rfl ?_
  unfold Fx.fits
  rw [if_neg hv]
def chk4 (t : Ty) : Int := if Valid t then 0
 else if t.k = 3 ∧ t.q = 0 ∧ bz t.s = [] ∧ 0 ≤ t.p ∧ t.p ≤ 255 then 0
 else if t.k = 4 ∧ t.q = 0 ∧ bz t.s = [] ∧ t.v = false ∧ 0 ≤ t.p ∧ t.p ≤ 64 then 0
 else if t.k = 5 ∧ t.p = 0 ∧ t.q = 0 ∧ t.v = false ∧ pE (bz t.s) = 0 then 0
 else if t.k = 6 ∧ t.q = 0 ∧ bz t.s = [] ∧ t.p = 0 ∧ t.v = false then 0 else 5
def is4 (v : Vl) (t : Ty) : Bool :=
 if t.k = 1 ∨ t.k = 2 then Fx.fits v t == 0
 else if t.k = 3 then decide (v.n = 0 ∧ ((v.s.size : Int) = t.p ∨ t.v = true ∧ (v.s.size : Int) < t.p))
 else if t.k = 4 then decide (v.n = 0 ∧ (v.s.size : Int) = t.p) && bitsZ (bz v.s)
 else if t.k = 5 then decide (v.n = 0) && hoZ (bz t.s) (bz v.s)
 else decide (bz v.s = [] ∧ 0 ≤ v.n ∧ v.n ≤ 524288)
def fit4 (v : Vl) (t : Ty) : Int := if chk4 t ≠ 0 then chk4 t else if is4 v t = true then 0 else 6
def G30 : Env := ((G4.add 73 (sp2 s73)).add 69 (sp1 Px.s48)).add 75 (sp2 Px.s25)
theorem ok_G30 : EnvOK Tryz.prog G30 := env_add (env_add (env_add ok_G4 ok73) Px.ok48) Px.ok25
def s21 (t : Ty) : Bool × Value := (decide (t.s.size ≤ 9223372036854775807), I (chk4 t))
theorem fn21 : Fn1 Tryz.prog 21 Tryz.f21 := ⟨Tryz.func21, by kernel_rfl, by kernel_rfl, by kernel_rfl⟩
theorem v21 (t : Ty) (R : Value → Prop) : bodyQ Tryz.prog G30 noL Tryz.f21 [Enc.enc t] (fun _ => none) 0 (fun v _ _ => R v) = ( bif decide (Valid t) then R (I 0) else bif Ty.q t == 0 || true then bif Ty.k t == 3 then bif bif Ty.q t == 0 && ByteArray.toList (Ty.s t) == ByteArray.toList (ByteArray.mk #[]) then decide (Ty.p t ≥ 0) || true else true then bif Ty.q t == 0 && ByteArray.toList (Ty.s t) == ByteArray.toList (ByteArray.mk #[]) && (decide (Ty.p t ≥ 0) && decide (Ty.p t ≤ 255)) then R (I 0) else R (I 5) else False else bif Ty.k t == 4 then bif bif Ty.q t == 0 && ByteArray.toList (Ty.s t) == ByteArray.toList (ByteArray.mk #[]) then bif !Ty.v t then decide (Ty.p t ≥ 0) || true else true else true then bif Ty.q t == 0 && ByteArray.toList (Ty.s t) == ByteArray.toList (ByteArray.mk #[]) && (!Ty.v t && (decide (Ty.p t ≥ 0) && decide (Ty.p t ≤ 64))) then R (I 0) else R (I 5) else False else bif Ty.k t == 5 then bif bif Ty.p t == 0 then bif Ty.q t == 0 then bif !Ty.v t then decide (ByteArray.size (Ty.s t) ≤ 9223372036854775807) && true else true else true else true then bif Ty.p t == 0 && (Ty.q t == 0 && (!Ty.v t && pE (bz (Ty.s t)) == 0)) then R (I 0) else R (I 5) else False else bif Ty.k t == 6 then bif bif Ty.q t == 0 && ByteArray.toList (Ty.s t) == ByteArray.toList (ByteArray.mk #[]) then Ty.p t == 0 || true else true then bif Ty.q t == 0 && ByteArray.toList (Ty.s t) == ByteArray.toList (ByteArray.mk #[]) && (Ty.p t == 0 && !Ty.v t) then R (I 0) else R (I 5) else False else R (I 5) else False) := by kernel_rfl
theorem ok21 : PureOK Tryz.prog 21 (sp1 s21) := by
 refine qure1 ok_G30 hmix fn21 lokf_none (Nat.le_of_ble_eq_true (by kernel_rfl)) fun t hc => ?_
 rw [DoesQ, v21]
 have hc : (t.s.size ≤ 9223372036854775807) := of_decide_eq_true hc
 try dsimp only [s21]
 rw [empty_iff]
 unfold chk4
 by_cases hv : Valid t
 ·rw [if_pos hv]
  exact c_t (decide_eq_true hv) rfl
 rw [if_neg hv]
 refine c_f (decide_eq_false hv) (c_t (Bool.or_true _) ?_)
 simp only [Bool.or_true, Bool.and_true, Bool.cond_self, decide_eq_true hc]
 repeat' refine cond_intro (fun h => ?_) (fun h => ?_)
 all_goals first | (exfalso; simp at h; done) | (congr 1; grind)
def G31 : Env := (G30.add 21 (sp1 s21))
theorem ok_G31 : EnvOK Tryz.prog G31 := env_add (ok_G30) ok21
def s23 (v : Vl) (t : Ty) : Bool × Value := (decide (t.s.size ≤ 9223372036854775807 ∧ v.s.size ≤ 9223372036854775807), I (fit4 v t))
theorem fn23 : Fn1 Tryz.prog 23 Tryz.f23 := ⟨Tryz.func23, by kernel_rfl, by kernel_rfl, by kernel_rfl⟩
theorem v23 (v : Vl) (t : Ty) (R : Value → Prop) : bodyQ Tryz.prog G31 noL Tryz.f23 [Enc.enc v, Enc.enc t] (fun _ => none) 0 (fun v _ _ => R v) = ( bif decide (ByteArray.size (Ty.s t) ≤ 9223372036854775807) then bif chk4 t != 0 then R (I (chk4 t)) else bif Ty.k t == 1 then bif !fits v t == 0 then R (I 6) else R (I 0) else bif Ty.k t == 2 then bif !fits v t == 0 then R (I 6) else R (I 0) else bif Ty.k t == 3 then bif bif Vl.n v == 0 then (↑(ByteArray.size (Vl.s v)) : Int) == Ty.p t || (Ty.v t || true) else true then bif !(Vl.n v == 0 && ((↑(ByteArray.size (Vl.s v)) : Int) == Ty.p t || Ty.v t && decide ((↑(ByteArray.size (Vl.s v)) : Int) < Ty.p t))) then R (I 6) else R (I 0) else False else bif Ty.k t == 4 then bif bif Vl.n v == 0 then bif (↑(ByteArray.size (Vl.s v)) : Int) == Ty.p t then decide (ByteArray.size (Vl.s v) ≤ 9223372036854775807) && true else true else true then bif !(Vl.n v == 0 && ((↑(ByteArray.size (Vl.s v)) : Int) == Ty.p t && bitsZ (bz (Vl.s v)))) then R (I 6) else R (I 0) else False else bif Ty.k t == 5 then bif bif Vl.n v == 0 then decide (ByteArray.size (Ty.s t) ≤ 9223372036854775807 ∧ ByteArray.size (Vl.s v) ≤ 9223372036854775807) && true else true then bif !(Vl.n v == 0 && hoZ (bz (Ty.s t)) (bz (Vl.s v))) then R (I 6) else R (I 0) else False else bif Ty.k t == 6 then bif bif ByteArray.toList (Vl.s v) == ByteArray.toList (ByteArray.mk #[]) then decide (Vl.n v ≥ 0) || true else true then bif !(ByteArray.toList (Vl.s v) == ByteArray.toList (ByteArray.mk #[]) && (decide (Vl.n v ≥ 0) && decide (Vl.n v ≤ 524288))) then R (I 6) else R (I 0) else False else R (I 6) else False) := by kernel_rfl
theorem ok23 : PureOK Tryz.prog 23 (sp2 s23) := by
 refine qure2 ok_G31 hmix fn23 lokf_none (Nat.le_of_ble_eq_true (by kernel_rfl)) fun v t hc => ?_
 rw [DoesQ, v23]
 have hc : (t.s.size ≤ 9223372036854775807 ∧ v.s.size ≤ 9223372036854775807) := of_decide_eq_true hc
 try dsimp only [s23]
 rw [empty_iff]
 unfold fit4 is4
 refine c_t (decide_eq_true hc.1) ?_
 have hk : chk4 t = 0 → t.k = 1 ∨ t.k = 2 ∨ t.k = 3 ∨ t.k = 4 ∨ t.k = 5 ∨ t.k = 6 := fun h => by
  unfold chk4 at h
  have hv : Valid t → t.k = 1 ∨ t.k = 2 := fun h => h.1
  grind
 refine cond_intro (fun h => ?_) (fun h => ?_)
 ·rw [if_pos (by simpa using h)]
 have h0 : chk4 t = 0 := by simpa using h
 rw [if_neg (fun z => z h0)]
 have hk := hk h0
 simp only [Bool.or_true, Bool.and_true, Bool.cond_self, decide_eq_true hc.2, decide_eq_true hc]
 repeat' refine cond_intro (fun h => ?_) (fun h => ?_)
 all_goals first | (exfalso; simp at h; done) | (congr 1; grind)
end Go.Cx
end
noncomputable section
set_option maxHeartbeats 3200000
namespace Go.Cx
open Go Go.Ab Go.Proofs Go.Shelf Go.Px Go.Cv
open Go.Fx (Ty Vl check Valid most base pw bnd Fit fits tv vv tup V0 T0 pw_zero pw_succ wrap_mul pw_w64 str0)
def K0 : Env := (H1.add 66 (sp1 s66)).add 85 (sp1 s85)
theorem ok_K0 : EnvOK Tryz.prog K0 := env_add (env_add ok_H1 ok66) ok85
def s191 : Bool × Value := (true, .agg ⟨Fx.tensL⟩)
theorem fn191 : Fn1 Tryz.prog 191 Tryz.f191 := ⟨Tryz.func191, by kernel_rfl, by kernel_rfl, by kernel_rfl⟩
theorem v191  (R : Value → Prop) : bodyQ Tryz.prog K0 noL Tryz.f191 [] (fun _ => none) 0 (fun v _ _ => R v) = ( R (.agg ⟨Fx.tensL⟩)) := by kernel_rfl
theorem ok191 : PureOK Tryz.prog 191 (sp0 s191) := by
 refine qure0 ok_K0 hmix fn191 lokf_none fun hc => ?_
 rw [DoesQ, v191]
 try dsimp only [s191]
def K1 : Env := (K0.add 191 (sp0 s191))
theorem ok_K1 : EnvOK Tryz.prog K1 := env_add (ok_K0) ok191
def s144 (t : Ty) : Bool × Value := (decide (Valid t), I (bnd t))
theorem fn144 : Fn1 Tryz.prog 144 Tryz.f144 := ⟨Tryz.func144, by kernel_rfl, by kernel_rfl, by kernel_rfl⟩
theorem v144 (t : Ty) (R : Value → Prop) : bodyQ Tryz.prog K1 noL Tryz.f144 [Enc.enc t] (fun _ => none) 0 (fun v _ _ => R v) = ( bif Ty.k t == 1 then bif decide (0 ≤ Ty.p t ∧ Ty.p t < 19) && isIntAt IntKind.i64 Fx.tensL (Int.toNat (Ty.p t)) then R (I (intAt Fx.tensL (Int.toNat (Ty.p t)))) else False else bif decide (0 ≤ Ty.p t) then R (I (IntKind.wrap .i64 (1 * 2 ^ min (Int.toNat (Ty.p t)) 64))) else False) := by kernel_rfl
theorem ok144 : PureOK Tryz.prog 144 (sp1 s144) := by
 refine qure1 ok_K1 hmix fn144 lokf_none (Nat.le_of_ble_eq_true (by kernel_rfl)) fun t hc => ?_
 rw [DoesQ, v144]
 have hc : (Valid t) := of_decide_eq_true hc
 try dsimp only [s144]
 obtain ⟨h1, h2, h3, h4, h5⟩ := Fx.valid_r hc
 have hm : t.k = 1 → t.p ≤ 9 := fun h => by have := hc.2.2.1; rw [h] at this; exact this
 refine cond_intro (fun h => ?_) (fun h => ?_)
 ·have h : t.k = 1 := eq_of_beq h
  have ht := Fx.tens_at (p := t.p) (by omega) (by have := hm h; omega)
  refine c_t (by rw [ht.1, decide_eq_true (show 0 ≤ t.p ∧ t.p < 19 by have := hm h; omega)]; rfl) ?_
  rw [ht.2, bnd, h]
  rfl
 ·have h : t.k = 2 := hc.1.resolve_left (by simpa using h)
  refine c_t (decide_eq_true (by omega)) ?_
  rw [Fx.shl_pw (by omega) (by omega), bnd, h]
  rfl
def K2 : Env := (K1.add 144 (sp1 s144))
theorem ok_K2 : EnvOK Tryz.prog K2 := env_add (ok_K1) ok144
def s70 (v : Vl) (t : Ty) : Bool × Value := (true, I (Fx.fits v t))
theorem fn70 : Fn1 Tryz.prog 70 Tryz.f70 := ⟨Tryz.func70, by kernel_rfl, by kernel_rfl, by kernel_rfl⟩
theorem v70 (v : Vl) (t : Ty) (R : Value → Prop) : bodyQ Tryz.prog K2 noL Tryz.f70 [Enc.enc v, Enc.enc t] (fun _ => none) 0 (fun v _ _ => R v) = ( bif check t != 0 then R (I (check t)) else bif decide (Valid t) then bif !ByteArray.toList (Vl.s v) == ByteArray.toList (ByteArray.mk #[]) || (decide (Vl.n v ≤ IntKind.wrap .i64 (0 - bnd t)) || true) then bif !ByteArray.toList (Vl.s v) == ByteArray.toList (ByteArray.mk #[]) || (decide (Vl.n v ≤ IntKind.wrap .i64 (0 - bnd t)) || decide (Vl.n v ≥ bnd t)) then R (I 6) else R (I 0) else False else False) := by kernel_rfl
theorem ok70 : PureOK Tryz.prog 70 (sp2 s70) := by
 refine qure2 ok_K2 hmix fn70 lokf_none (Nat.le_of_ble_eq_true (by kernel_rfl)) fun v t hc => ?_
 rw [DoesQ, v70]
 try dsimp only [s70]
 rw [str0]
 by_cases hv : Valid t
 ·obtain ⟨h1, h2, h3, h4⟩ := Fx.valid_r hv
  have hb := Fx.bnd_range hv
  have hc : check t = 0 := if_pos hv
  rw [hc, w64 (n := 0 - bnd t) (by omega)]
  refine c_f rfl (c_t (decide_eq_true hv) (c_t (by simp) ?_))
  unfold Fx.fits
  rw [if_pos hv]
  refine cond_intro (fun h => ?_) (fun h => ?_)
  ·rw [if_neg]
   intro hf
   unfold Fit at hf
   simp [hf.1] at h
   omega
  ·rw [if_pos]
   unfold Fit
   simp at h
   grind
 ·have hc : check t = 5 := if_neg hv
  rw [hc]
  refine c_t rfl ?_
  unfold Fx.fits
  rw [if_neg hv]
def s71 (s : ByteArray) : Bool × Value := (decide (s.size ≤ 9223372036854775807), B (bitsZ (bz s)))
theorem fn71 : Fn1 Tryz.prog 71 Tryz.f71 := ⟨Tryz.func71, by kernel_rfl, by kernel_rfl, by kernel_rfl⟩
theorem v71 (s : ByteArray) (R : Value → Prop) : bodyQ Tryz.prog K2 noL Tryz.f71 [Enc.enc s] (fun _ => none) 0 (fun v _ _ => R v) = ( bif decide (ByteArray.size s ≤ 9223372036854775807) && (decide (ByteArray.size (ByteArray.mk #[48, 49]) ≤ 1000) && asc (bz (ByteArray.mk #[48, 49]))) then R (B (ByteArray.toList (szO (trimZ (bz s) (bz (ByteArray.mk #[48, 49])))) == ByteArray.toList (ByteArray.mk #[]))) else False) := by kernel_rfl
theorem ok71 : PureOK Tryz.prog 71 (sp1 s71) := by
 refine qure1 ok_K2 hmix fn71 lokf_none (Nat.le_of_ble_eq_true (by kernel_rfl)) fun s hc => ?_
 rw [DoesQ, v71]
 have hc : (s.size ≤ 9223372036854775807) := of_decide_eq_true hc
 try dsimp only [s71]
 refine c_t (by rw [decide_eq_true hc, Bool.true_and]; kernel_rfl) ?_
 rw [empty_iff, bz_szO (trim_isB (bz_isB s)), trim_bits]
def K3 : Env := ((K2.add 70 (sp2 s70)).add 71 (sp1 s71))
theorem ok_K3 : EnvOK Tryz.prog K3 := env_add (env_add (ok_K2) ok70) ok71
def s20 (t : Ty) : Bool × Value := (decide (t.s.size ≤ 9223372036854775807 ∧ t.k ≠ 5), I (chk4 t))
theorem fn20 : Fn1 Tryz.prog 20 Tryz.f20 := ⟨Tryz.func20, by kernel_rfl, by kernel_rfl, by kernel_rfl⟩
theorem v20 (t : Ty) (R : Value → Prop) : bodyQ Tryz.prog K3 noL Tryz.f20 [Enc.enc t] (fun _ => none) 0 (fun v _ _ => R v) = ( bif Ty.k t == 1 then R (I (check t)) else bif Ty.k t == 2 then R (I (check t)) else bif Ty.k t == 3 then (bif decide (Ty.p t ≥ 0) || true then bif !(decide (Ty.p t ≥ 0) && decide (Ty.p t ≤ 255)) || true then bif !(decide (Ty.p t ≥ 0) && decide (Ty.p t ≤ 255)) || !(Ty.k t == Ty.k t && (Ty.p t == Ty.p t && (Ty.q t == 0 && (Ty.v t == Ty.v t && (ByteArray.toList (Ty.s t) == ByteArray.toList (ByteArray.mk #[]) && true))))) then R (I 5) else R (I 0) else False else False) ∧ bif decide (Ty.p t ≥ 0) || true then bif !(decide (Ty.p t ≥ 0) && decide (Ty.p t ≤ 255)) || true then bif !(decide (Ty.p t ≥ 0) && decide (Ty.p t ≤ 255)) || !(Ty.k t == Ty.k t && (Ty.p t == Ty.p t && (Ty.q t == 0 && (Ty.v t == Ty.v t && (ByteArray.toList (Ty.s t) == ByteArray.toList (ByteArray.mk #[]) && true))))) then R (I 5) else R (I 0) else False else False else bif Ty.k t == 4 then bif decide (Ty.p t ≥ 0) || true then bif !(decide (Ty.p t ≥ 0) && decide (Ty.p t ≤ 64)) || true then bif !(decide (Ty.p t ≥ 0) && decide (Ty.p t ≤ 64)) || !(Ty.k t == Ty.k t && (Ty.p t == Ty.p t && (Ty.q t == 0 && (Ty.v t == false && (ByteArray.toList (Ty.s t) == ByteArray.toList (ByteArray.mk #[]) && true))))) then R (I 5) else R (I 0) else False else False else bif Ty.k t == 5 then False else bif Ty.k t == 6 then bif !true || !(Ty.k t == Ty.k t && (Ty.p t == 0 && (Ty.q t == 0 && (Ty.v t == false && (ByteArray.toList (Ty.s t) == ByteArray.toList (ByteArray.mk #[]) && true))))) then R (I 5) else R (I 0) else R (I 5)) := by kernel_rfl
theorem ok20 : PureOK Tryz.prog 20 (sp1 s20) := by
 refine qure1 ok_K3 hmix fn20 lokf_none (Nat.le_of_ble_eq_true (by kernel_rfl)) fun t hc => ?_
 rw [DoesQ, v20]
 have hc : (t.s.size ≤ 9223372036854775807 ∧ t.k ≠ 5) := of_decide_eq_true hc
 try dsimp only [s20]
 rw [empty_iff]
 have hb : ∀ b : Bool, (b == b) = true := fun b => by cases b <;> rfl
 simp only [hb, Bool.or_true, Bool.cond_true, BEq.rfl, Bool.true_and, Bool.and_true]
 unfold chk4 check
 have hv : Valid t → t.k = 1 ∨ t.k = 2 := fun h => h.1
 repeat' first | refine And.intro ?_ ?_ | refine cond_intro (fun h => ?_) (fun h => ?_)
 all_goals first | (congr 1; grind) | (exfalso; grind)
def K4 : Env := (K3.add 20 (sp1 s20))
theorem ok_K4 : EnvOK Tryz.prog K4 := env_add (ok_K3) ok20
def s22 (v : Vl) (t : Ty) : Bool × Value := (decide (t.s.size ≤ 9223372036854775807 ∧ v.s.size ≤ 9223372036854775807 ∧ t.k ≠ 5), I (fit4 v t))
theorem fn22 : Fn1 Tryz.prog 22 Tryz.f22 := ⟨Tryz.func22, by kernel_rfl, by kernel_rfl, by kernel_rfl⟩
theorem v22 (v : Vl) (t : Ty) (R : Value → Prop) : bodyQ Tryz.prog K4 noL Tryz.f22 [Enc.enc v, Enc.enc t] (fun _ => none) 0 (fun v _ _ => R v) = ( bif decide (ByteArray.size (Ty.s t) ≤ 9223372036854775807 ∧ Ty.k t ≠ 5) then bif chk4 t != 0 then R (I (chk4 t)) else bif Ty.k t == 1 then R (I (fits v t)) else bif Ty.k t == 2 then R (I (fits v t)) else bif Ty.k t == 3 then bif bif Vl.n v == 0 then (↑(ByteArray.size (Vl.s v)) : Int) == Ty.p t || (Ty.v t || true) else true then bif !(Vl.n v == 0 && ((↑(ByteArray.size (Vl.s v)) : Int) == Ty.p t || Ty.v t && decide ((↑(ByteArray.size (Vl.s v)) : Int) < Ty.p t))) then R (I 6) else R (I 0) else False else bif Ty.k t == 4 then bif bif Vl.n v == 0 then bif (↑(ByteArray.size (Vl.s v)) : Int) == Ty.p t then decide (ByteArray.size (Vl.s v) ≤ 9223372036854775807) && true else true else true then bif !(Vl.n v == 0 && ((↑(ByteArray.size (Vl.s v)) : Int) == Ty.p t && bitsZ (bz (Vl.s v)))) then R (I 6) else R (I 0) else False else bif Ty.k t == 5 then bif Vl.n v == 0 then False else R (I 6) else bif Ty.k t == 6 then bif bif ByteArray.toList (Vl.s v) == ByteArray.toList (ByteArray.mk #[]) then decide (Vl.n v ≥ 0) || true else true then bif !(ByteArray.toList (Vl.s v) == ByteArray.toList (ByteArray.mk #[]) && (decide (Vl.n v ≥ 0) && decide (Vl.n v ≤ 524288))) then R (I 6) else R (I 0) else False else bif !Vl.n v == 0 then R (I 6) else R (I 0) else False) := by kernel_rfl
theorem ok22 : PureOK Tryz.prog 22 (sp2 s22) := by
 refine qure2 ok_K4 hmix fn22 lokf_none (Nat.le_of_ble_eq_true (by kernel_rfl)) fun v t hc => ?_
 rw [DoesQ, v22]
 have hc : (t.s.size ≤ 9223372036854775807 ∧ v.s.size ≤ 9223372036854775807 ∧ t.k ≠ 5) := of_decide_eq_true hc
 try dsimp only [s22]
 rw [empty_iff]
 unfold fit4 is4
 refine c_t (decide_eq_true ⟨hc.1, hc.2.2⟩) ?_
 have hk : chk4 t = 0 → (t.k = 1 ∨ t.k = 2 ∨ t.k = 3 ∨ t.k = 4 ∨ t.k = 6) ∧ ((t.k = 1 ∨ t.k = 2) → Valid t) := fun h => by
  unfold chk4 at h
  have hv : Valid t → t.k = 1 ∨ t.k = 2 := fun h => h.1
  grind
 refine cond_intro (fun h => ?_) (fun h => ?_)
 ·rw [if_pos (by simpa using h)]
 have h0 : chk4 t = 0 := by simpa using h
 rw [if_neg (fun z => z h0)]
 obtain ⟨hk, hval⟩ := hk h0
 have hf : Valid t → Fx.fits v t = if Fit v t then 0 else 6 := fun h => if_pos h
 simp only [Bool.or_true, Bool.and_true, Bool.cond_self, decide_eq_true hc.2.1]
 repeat' refine cond_intro (fun h => ?_) (fun h => ?_)
 all_goals first | (exfalso; simp at h; done) | (congr 1; grind) | (exfalso; grind)
end Go.Cx
end
