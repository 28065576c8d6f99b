/-
  The walks of the picture functions and their plain laws, in parts. (part 3)
-/
import Derived.Test.YtheglfmhbfngkaaGreatDoorE2
set_option linter.unusedVariables false
set_option linter.unusedSimpArgs false
section
namespace Go.Px
open Go Go.Ab Go.Proofs
theorem ro_isJ {b pre r : List Int} {c d f : Int} (h : DrP b d f) (hb : b = pre ++ c :: r) : (rmk (roP d f c pre.length) == 100 || (rmk (roP d f c pre.length) == 99 || c == d)) = (roP d f c pre.length == 0 || (roP d f c pre.length == 1 || (pre.length : Int) == f)) := by
 obtain ⟨h1, h2⟩ := h.eq hb
 have hr := ro_rng d f c pre.length
 have e100 : (rmk (roP d f c pre.length) == 100) = (roP d f c pre.length == 0) := by
  rcases rmk_cases hr with q | q | q | q | q | q <;> rw [q] <;> rfl
 have e99 : (rmk (roP d f c pre.length) == 99) = (roP d f c pre.length == 1) := by
  rcases rmk_cases hr with q | q | q | q | q | q <;> rw [q] <;> rfl
 rw [e100, e99]
 by_cases hf : (pre.length : Int) = f
 ·obtain ⟨q1, _⟩ := h2.1 hf
  have a1 : ((pre.length : Int) == f) = true := by simpa using hf
  have a2 : (c == d) = true := by simpa using q1
  rw [a1, a2]
 ·have a1 : ((pre.length : Int) == f) = false := by simpa using hf
  rw [a1]
  by_cases hc : c = d
  ·-- then a leader
   by_cases h0 : (roP d f c pre.length == 0) = true
   ·rw [h0]; rfl
   ·have hl : roP d f c pre.length = 1 := by
     have e : (c == 90 || (c == 42 || (c == d && (pre.length : Int) != f))) = true := by
      have a3 : ((pre.length : Int) != f) = true := by simpa using hf
      have a2 : (c == d) = true := by simpa using hc
      rw [a2, a3]; simp
     unfold roP at h0 ⊢
     rw [e] at h0 ⊢
     cases hq : hasZ [57, 89, 84, 73, 82] c with
     | true => rw [hq] at h0; exact absurd rfl h0
     | false => rfl
    rw [hl]; simp
  ·have a2 : (c == d) = false := by simpa using hc
   rw [a2]
theorem st_in {b : List Int} {d f x : Int} (h : DrP b d f) : ∀ (r pre : List Int) (lo hi : Int), b = pre ++ r →
  stIn d x r ((rolesP d f r pre.length).map rmk) pre.length (decide (lo < x)) (decide (hi > x)) = (decide (loGo f (rolesP d f r pre.length) pre.length lo < x), decide (hiGo f (rolesP d f r pre.length) pre.length hi > x))
 | [], pre, lo, hi, _ => by simp [stIn, rolesP, loGo, hiGo]
 | c :: r, pre, lo, hi, hb => by
  have ih := fun lo hi => st_in (x := x) h r (pre ++ [c]) lo hi (by rw [hb]; simp)
  have e : ((pre ++ [c]).length : Int) = pre.length + 1 := by simp
  rw [e] at ih
  rw [rolesP, List.map_cons, stIn, loGo, hiGo, ro_isJ h hb]
  cases (roP d f c pre.length == 0 || (roP d f c pre.length == 1 || (pre.length : Int) == f)) with
  | false => rw [cond_false, cond_false, cond_false, ih]
  | true =>
   rw [cond_true, cond_true, cond_true, ← ih]
   have e1 : (decide (lo < x) || decide ((pre.length : Int) < x)) = decide (imin lo pre.length < x) := by
    rw [Bool.eq_iff_iff]
    simp only [Bool.or_eq_true, decide_eq_true_eq]
    unfold imin
    split <;> omega
   have e2 : (decide (hi > x) || decide ((pre.length : Int) > x)) = decide (imax hi pre.length > x) := by
    rw [Bool.eq_iff_iff]
    simp only [Bool.or_eq_true, decide_eq_true_eq]
    unfold imax
    split <;> omega
   rw [e1, e2]
theorem ro_still {b pre r : List Int} {c d f : Int} (h : DrP b d f) (hb : b = pre ++ c :: r) : ((roP d f c pre.length == 4 || roP d f c pre.length == 5) && (pre.length : Int) != f) = (hasZ [36, 83, 43, 45] c && !(c == d)) := by
 obtain ⟨h1, h2⟩ := h.eq hb
 by_cases hc : c = d
 ·have a2 : (c == d) = true := by simpa using hc
  rw [a2, Bool.not_true, Bool.and_false]
  by_cases hf : (pre.length : Int) = f
  ·have a1 : ((pre.length : Int) != f) = false := by simpa using hf
   rw [a1, Bool.and_false]
  ·have a3 : ((pre.length : Int) != f) = true := by simpa using hf
   have e : (c == 90 || (c == 42 || (c == d && (pre.length : Int) != f))) = true := by rw [a2, a3]; simp
   unfold roP
   rw [e]
   cases hasZ [57, 89, 84, 73, 82] c <;> rfl
 ·have a2 : (c == d) = false := by simpa using hc
  have hf : ¬ (pre.length : Int) = f := fun q => hc (h2.1 q).1
  have a3 : ((pre.length : Int) != f) = true := by simpa using hf
  rw [a2, a3, Bool.and_true, Bool.not_false, Bool.and_true]
  have e : (c == 90 || (c == 42 || (c == d && (pre.length : Int) != f))) = (c == 90 || c == 42) := by rw [a2]; simp
  unfold roP
  rw [e]
  by_cases m : c ∈ [36, 83, 43, (45 : Int)]
  ·have : c = 36 ∨ c = 83 ∨ c = 43 ∨ c = 45 := by simpa using m
   rcases this with rfl | rfl | rfl | rfl <;> rfl
  ·have hm : hasZ [36, 83, 43, 45] c = false := by
    cases q : hasZ [36, 83, 43, 45] c with
    | false => rfl
    | true => exact absurd (hasZ_iff.1 q) m
   rw [hm]
   simp only [List.mem_cons, List.not_mem_nil, or_false, not_or] at m
   have b1 : (c == 36) = false := by simpa using m.1
   have b2 : (c == 83 || (c == 43 || c == 45)) = false := by simp [m.2.1, m.2.2.1, m.2.2.2]
   rw [b1, b2]
   cases hasZ [57, 89, 84, 73, 82] c <;> cases (c == 90 || c == 42) <;> cases c == 86 <;> rfl
theorem st_law {b ms : List Int} {d f lo hi : Int} (h : DrP b d f) (hin : ∀ x : Int, 0 ≤ x → x ≤ b.length → stIn d x b ms 0 false false = (decide (lo < x), decide (hi > x))) : ∀ (r pre : List Int), b = pre ++ r →
  stP f lo hi (rolesP d f r pre.length) pre.length = stGo d b ms r pre.length
 | [], _, _ => rfl
 | c :: r, pre, hb => by
  have ih := st_law h hin r (pre ++ [c]) (by rw [hb]; simp)
  have e : ((pre ++ [c]).length : Int) = pre.length + 1 := by simp
  rw [e] at ih
  have hl : (b.length : Int) = pre.length + 1 + r.length := by rw [hb]; simp; omega
  rw [rolesP, stP, stGo, ih, hin _ (by omega) (by omega)]
  congr 1
  have s := ro_still h hb
  have e3 : ((roP d f c pre.length == 4 || roP d f c pre.length == 5) && ((pre.length : Int) != f && (decide ((pre.length : Int) > lo) && decide ((pre.length : Int) < hi)))) = (((roP d f c pre.length == 4 || roP d f c pre.length == 5) && (pre.length : Int) != f) && (decide (lo < (pre.length : Int)) && decide (hi > (pre.length : Int)))) := by
   rw [Bool.and_assoc]
  rw [e3, s]
  cases hasZ [36, 83, 43, 45] c <;> cases (c == d) <;> rfl
theorem cnt_cons (c x : Int) (l : List Int) : (cntZ (c :: l) x : Int) = (if c = x then 1 else 0) + cntZ l x := by
 unfold cntZ
 rw [List.filter_cons]
 by_cases h : c = x
 ·rw [if_pos (by simpa using h), if_pos h, List.length_cons]; omega
 ·rw [if_neg (by simpa using h), if_neg h]; omega
theorem has_cons (c x : Int) (l : List Int) : hasZ (c :: l) x = (c == x || hasZ l x) := rfl
def sgX (d x : Int) (pre r : List Int) : Int := if x = d then (if d ∈ pre then 0 else b2i (hasZ r x)) else cntZ r x
theorem sgX_cons {d x c : Int} {pre r : List Int} : sgX d x pre (c :: r) = (if c = x ∧ ¬ (x = d ∧ d ∈ pre) then 1 else 0) + sgX d x (pre ++ [c]) r := by
 unfold sgX
 by_cases hx : x = d
 ·rw [if_pos hx, if_pos hx]
  by_cases hp : d ∈ pre
  ·have hp2 : d ∈ pre ++ [c] := List.mem_append.2 (.inl hp)
   rw [if_pos hp, if_pos hp2, if_neg (fun q => q.2 ⟨hx, hp⟩)]
   rfl
  ·rw [if_neg hp, has_cons]
   by_cases hc : c = x
   ·have hp2 : d ∈ pre ++ [c] := List.mem_append.2 (.inr (by rw [hc, hx]; exact List.mem_singleton.2 rfl))
    rw [if_pos ⟨hc, fun q => hp q.2⟩, if_pos hp2]
    have : (c == x) = true := by simpa using hc
    rw [this]
    rfl
   ·have : (c == x) = false := by simpa using hc
    have hp2 : d ∉ pre ++ [c] := fun q => by
     rcases List.mem_append.1 q with q | q
     ·exact hp q
     ·exact hc (by rw [hx]; exact (List.mem_singleton.1 q).symm)
    rw [if_neg (fun q => hc q.1), if_neg hp2, this, Bool.false_or]
    omega
 ·rw [if_neg hx, if_neg hx, cnt_cons]
  by_cases hc : c = x
  ·rw [if_pos hc, if_pos ⟨hc, fun q => hx q.1⟩]
  ·rw [if_neg hc, if_neg (fun q => hc q.1)]
theorem si_law {b : List Int} {d f : Int} (h : DrP b d f) : ∀ (r pre : List Int), b = pre ++ r →
  siGo r (rolesP d f r pre.length) = sgX d 83 pre r + sgX d 43 pre r + sgX d 45 pre r + cntZ r 84 + cntZ r 73 + cntZ r 82
 | [], pre, _ => by
  have : ∀ x, sgX d x pre [] = 0 := fun x => by unfold sgX; split <;> (try split) <;> rfl
  rw [this, this, this]
  rfl
 | c :: r, pre, hb => by
  have ih := si_law h r (pre ++ [c]) (by rw [hb]; simp)
  have e : ((pre ++ [c]).length : Int) = pre.length + 1 := by simp
  rw [e] at ih
  rw [rolesP, siGo, ih, sgX_cons, sgX_cons, sgX_cons, cnt_cons, cnt_cons, cnt_cons]
  have key : (bif roP d f c pre.length == 4 || hasZ [84, 73, 82] c then (1 : Int) else 0) = (if c = 83 ∧ ¬ ((83 : Int) = d ∧ d ∈ pre) then 1 else 0) + (if c = 43 ∧ ¬ ((43 : Int) = d ∧ d ∈ pre) then 1 else 0) + (if c = 45 ∧ ¬ ((45 : Int) = d ∧ d ∈ pre) then 1 else 0) + (if c = 84 then 1 else 0) + (if c = 73 then 1 else 0) + (if c = 82 then 1 else 0) := by
   obtain ⟨h1, h2⟩ := h.eq hb
   by_cases m : c = 83 ∨ c = 43 ∨ c = 45
   ·-- a sign
    have hc0 : c ≠ 0 := by omega
    have hl : (c = d ∧ (pre.length : Int) ≠ f) ↔ (c = d ∧ d ∈ pre) := by
     rw [h1]
     exact ⟨fun q => ⟨q.1, q.2.2⟩, fun q => ⟨q.1, by rw [← q.1]; exact hc0, q.2⟩⟩
    by_cases hs : c = d ∧ d ∈ pre
    ·have hq := hl.2 hs
     have e1 : (c == d && (pre.length : Int) != f) = true := by simpa using hq
     have hr : roP d f c pre.length = 1 := by
      unfold roP
      rw [e1]
      rcases m with rfl | rfl | rfl <;> simp <;> rfl
     rw [hr]
     rcases m with rfl | rfl | rfl
     ·rw [if_neg (fun q => q.2 hs)]; rfl
     ·rw [if_neg (fun q => by omega), if_neg (fun q => q.2 hs)]; rfl
     ·rw [if_neg (fun q => by omega), if_neg (fun q => by omega), if_neg (fun q => q.2 hs)]; rfl
    ·have hq : ¬ (c = d ∧ (pre.length : Int) ≠ f) := fun q => hs (hl.1 q)
     have e1 : (c == d && (pre.length : Int) != f) = false := by
      cases q : (c == d && (pre.length : Int) != f) with
      | false => rfl
      | true => exact absurd (by simpa using q) hq
     have hr : roP d f c pre.length = 4 := by
      unfold roP
      rw [e1]
      rcases m with rfl | rfl | rfl <;> rfl
     rw [hr]
     rcases m with rfl | rfl | rfl
     ·rw [if_pos ⟨rfl, hs⟩]; rfl
     ·rw [if_neg (fun q => by omega), if_pos ⟨rfl, hs⟩]; rfl
     ·rw [if_neg (fun q => by omega), if_neg (fun q => by omega), if_pos ⟨rfl, hs⟩]; rfl
   ·have hr : (roP d f c pre.length == 4) = false := by
     have e2 : (c == 83 || (c == 43 || c == 45)) = false := by simp; omega
     unfold roP
     rw [e2]
     cases hasZ [57, 89, 84, 73, 82] c <;> cases (c == 90 || (c == 42 || (c == d && (pre.length : Int) != f))) <;> cases c == 86 <;> cases c == 36 <;> rfl
    rw [hr, Bool.false_or, if_neg (fun q => by omega), if_neg (fun q => by omega), if_neg (fun q => by omega)]
    by_cases k : c = 84 ∨ c = 73 ∨ c = 82
    ·rcases k with rfl | rfl | rfl <;> rfl
    ·have : hasZ [84, 73, 82] c = false := by
      cases q : hasZ [84, 73, 82] c with
      | false => rfl
      | true => rw [hasZ_iff] at q; simp at q; omega
     rw [this, if_neg (by omega), if_neg (by omega), if_neg (by omega)]
     rfl
  rw [key]
  omega
end Go.Px
end
section
namespace Go.Px
open Go Go.Ab Go.Proofs
theorem cnt_app' (a b : List Int) (c : Int) : (cntZ (a ++ b) c : Int) = cntZ a c + cntZ b c := by rw [cnt_app]; omega
theorem mk_118 {dr : Int} (hd : dr = 0 ∨ hasZ [36, 83, 43, 45] dr = true) : ∀ (l : List Int) (seen : Bool), (cntZ (mkGo dr seen l) 118 : Int) = cntZ l 86
 | [], _ => rfl
 | c :: r, seen => by
  have hm := mk1_pt hd seen c
  rw [mkGo, cnt_cons, cnt_cons, mk_118 hd r]
  by_cases h : c = 86
  ·rw [if_pos h, if_pos (hm.2 h)]
  ·rw [if_neg h, if_neg fun e => h (hm.1 e)]
theorem has_cnt {l : List Int} {c : Int} (h : (cntZ l c : Int) ≤ 1) : (cntZ l c : Int) = b2i (hasZ l c) := by
 induction l with
 | nil => rfl
 | cons x l ih =>
  rw [cnt_cons] at h ⊢
  rw [has_cons]
  by_cases hx : x = c
  ·have : (x == c) = true := by simpa using hx
   rw [if_pos hx] at h ⊢
   rw [this, Bool.true_or]
   have : (cntZ l c : Int) = 0 := by omega
   rw [this]
   rfl
  ·have : (x == c) = false := by simpa using hx
   rw [if_neg hx] at h ⊢
   rw [this, Bool.false_or, Int.zero_add]
   exact ih (by omega)
theorem q_law {dr : Int} (hd : dr = 0 ∨ hasZ [36, 83, 43, 45] dr = true) {l t : List Int} : ∀ (r pre : List Int) (seen : Bool), l = pre ++ r ++ t → (cntZ (pre ++ r) 86 : Int) ≤ 1 →
  qgo (mkGo dr seen r) (cntZ pre 86) = pqGo l (mkGo dr seen r) pre.length
 | [], _, _, _, _ => rfl
 | c :: r, pre, seen, hl, hc => by
  have ih := q_law hd (l := l) (t := t) r (pre ++ [c]) (seen || (dr != 0 && c == dr)) (by rw [hl]; simp) (by simpa using hc)
  have hm := mk1_pt hd seen c
  have e : ((pre ++ [c]).length : Int) = pre.length + 1 := by simp
  have hk : (cntZ pre 86 : Int) ≤ 1 := by
   rw [cnt_app'] at hc
   omega
  have ht : l.take (pre.length : Int).toNat = pre := by
   rw [hl, Int.toNat_natCast, List.append_assoc]
   simp
  rw [cnt_app', e] at ih
  have e1 : (cntZ [c] 86 : Int) = if c = 86 then 1 else 0 := by
   have := cnt_cons c 86 []
   rw [this]
   have : (cntZ [] 86 : Int) = 0 := rfl
   omega
  rw [e1] at ih
  rw [mkGo, qgo, pqGo, ht, ← ih]
  by_cases h : c = 86
  ·have hm2 := hm.2 h
   rw [hm2]
   have : isP 118 = false := rfl
   rw [this, if_pos h]
   show qgo _ _ = 0 + qgo _ _
   rw [Int.zero_add]
  ·have hn : (mk1 dr seen c == 118) = false := by
    cases q : (mk1 dr seen c == 118) with
    | false => rfl
    | true => exact absurd (hm.1 (eq_of_beq q)) h
   rw [hn, cond_false, if_neg h, Int.add_zero, has_cnt hk]
   cases isP (mk1 dr seen c) <;> cases hasZ pre 86 <;> rfl
theorem pq_app (s : List Int) : ∀ (a b : List Int) (i : Int), pqGo s (a ++ b) i = pqGo s a i + pqGo s b (i + a.length)
 | [], b, i => by simp [pqGo]
 | m :: a, b, i => by
  rw [List.cons_append, pqGo, pqGo, pq_app s a b, List.length_cons]
  have : i + 1 + (a.length : Int) = i + ((a.length + 1 : Nat) : Int) := by omega
  rw [this]
  omega
theorem char_any {l : List Int} (h : (bodyZ l).any (hasZ [65, 88, 67, 68]) = false) : charZ l = false := by
 cases hc : charZ l with
 | false => rfl
 | true =>
  exfalso
  simp only [charZ, Bool.and_eq_true, List.all_eq_true, Bool.or_eq_true] at hc
  obtain ⟨h1, h2⟩ := hc
  have hcr : crZ l = false := by
   cases q : crZ l with
   | false => rfl
   | true =>
    exfalso
    simp only [crZ, Bool.and_eq_true, Bool.or_eq_true, decide_eq_true_eq] at q
    rcases q.2 with q | q
    ·have hm : (67 : Int) ∈ l.drop (l.length - 2) := by rw [q]; simp
     exact absurd (h1 _ (List.mem_of_mem_drop hm)) (by decide)
    ·have hm : (68 : Int) ∈ l.drop (l.length - 2) := by rw [q]; simp
     exact absurd (h1 _ (List.mem_of_mem_drop hm)) (by decide)
  have hb : bodyZ l = l := by rw [body_at hcr]; rfl
  rw [hb, List.any_eq_false] at h
  rcases h2 with q | q
  ·exact h 65 (hasZ_iff.1 q) (by decide)
  ·exact h 88 (hasZ_iff.1 q) (by decide)
structure NumL (l : List Int) : Prop where
 drP : DrP (bodyZ l) (drZ (bodyZ l)) (nD (bodyZ l)).2.2
 d : (nD (bodyZ l)).2.1 = drZ (bodyZ l)
 roles : (nR (bodyZ l)).map rmk = mkGo (drZ (bodyZ l)) false (bodyZ l)
 ok : okR (nR (bodyZ l))
 w : (nP (bodyZ l)).2.w + (bif crZ l then 2 else 0) = l.length - cntZ l 86
 dg : (nP (bodyZ l)).2.dg = pdGo (marksZ l)
 q : (nP (bodyZ l)).2.q = pqGo l (marksZ l) 0
 g : nG (bodyZ l) (crZ l) = signsZ l
 fm : (nP (bodyZ l)).2.fm = cntZ (mkGo (drZ (bodyZ l)) false (bodyZ l)) 100
theorem num_law {l : List Int} (hz : ∀ c ∈ bodyZ l, c ≠ 0) : numQ (bodyZ l) (crZ l) = numV l ∧ (numV l = true → NumL l) := by
 cases hA : anyZ (bodyZ l) [65, 88, 67, 68] with
 | true =>
  have hA' : (bodyZ l).any (hasZ [65, 88, 67, 68]) = true := hA
  have e1 : numQ (bodyZ l) (crZ l) = false := by rw [numQ, hA]; rfl
  have e2 : numV l = false := by rw [numV, hA']; cases charZ l <;> rfl
  rw [e1, e2]
  exact ⟨rfl, fun h => by cases h⟩
 | false =>
  have hA' : (bodyZ l).any (hasZ [65, 88, 67, 68]) = false := hA
  have hch := char_any hA'
  obtain ⟨d1, d2⟩ := nD_law (bodyZ l)
  cases hD : driftsZ (bodyZ l) with
  | false =>
   have e1 : numQ (bodyZ l) (crZ l) = false := by rw [numQ, d1, hD]; simp
   have e2 : numV l = false := by rw [numV, hD]; simp
   rw [e1, e2]
   exact ⟨rfl, fun h => by cases h⟩
  | true =>
   obtain ⟨d2, d3⟩ := d2 hD
   have hP : DrP (bodyZ l) (drZ (bodyZ l)) (nD (bodyZ l)).2.2 := by
    refine ⟨hz, ?_⟩
    by_cases h0 : drZ (bodyZ l) = 0
    ·rw [if_pos h0] at d3
     exact .inl ⟨h0, d3⟩
    ·rw [if_neg h0] at d3
     obtain ⟨f1, f2⟩ := (drGo_spec (bodyZ l) (bodyZ l)).resolve_left h0
     exact .inr ⟨h0, f2, d3, (flg_mem f1).1⟩
   have hd : drZ (bodyZ l) = 0 ∨ hasZ [36, 83, 43, 45] (drZ (bodyZ l)) = true := (dr_sign _ _).imp id And.left
   have eR : nR (bodyZ l) = rolesP (drZ (bodyZ l)) (nD (bodyZ l)).2.2 (bodyZ l) 0 := by rw [nR, d2]
   have hroles : (nR (bodyZ l)).map rmk = mkGo (drZ (bodyZ l)) false (bodyZ l) := by
    have := roles_marks hP (bodyZ l) [] rfl
    rw [eR]
    simpa using this
   have hok : okR (nR (bodyZ l)) := by rw [eR]; exact roles_ok _ _ _ _
   obtain ⟨p1, p2⟩ := pl_ld (nR (bodyZ l)) ⟨0, false, 0, 0, 0, 0⟩ hok (by simp only; omega) (by simp only; omega)
   simp only [hroles] at p1 p2
   have z0 : decide ((0 : Int) > 0) = false := rfl
   rw [z0] at p1 p2
   rw [mk_118 hd] at p2
   have p1 : (nP (bodyZ l)).1 = (ldGo (mkGo (drZ (bodyZ l)) false (bodyZ l)) false false false 0).1 := p1
   have eSt : nSt (bodyZ l) = (hasZ (bodyZ l) 90 && hasZ (bodyZ l) 42 || (hasZ (bodyZ l) 90 || hasZ (bodyZ l) 42) && drZ (bodyZ l) != 0) := by
    rw [nSt, d2]
    cases hasZ (bodyZ l) 42 <;> cases hasZ (bodyZ l) 90 <;> rfl
   have eS : nS (bodyZ l) = statsZ (bodyZ l) (mkGo (drZ (bodyZ l)) false (bodyZ l)) := by
    have hin : ∀ x : Int, 0 ≤ x → x ≤ (bodyZ l).length → stIn (drZ (bodyZ l)) x (bodyZ l) (mkGo (drZ (bodyZ l)) false (bodyZ l)) 0 false false =
      (decide (loGo (nD (bodyZ l)).2.2 (nR (bodyZ l)) 0 (bodyZ l).length < x), decide (hiGo (nD (bodyZ l)).2.2 (nR (bodyZ l)) 0 (-1) > x)) := fun x h0 h1 => by
     have := st_in (x := x) hP (bodyZ l) [] (bodyZ l).length (-1) rfl
     rw [decide_eq_false (show ¬ ((bodyZ l).length : Int) < x by omega), decide_eq_false (show ¬ (-1 : Int) > x by omega)] at this
     rw [← hroles, eR]
     exact this
    rw [nS, statsZ]
    have := st_law hP hin (bodyZ l) [] rfl
    rw [eR]
    rw [eR] at this
    exact this
   have eG : nG (bodyZ l) (crZ l) = signsZ l := by
    have hs := si_law hP (bodyZ l) [] rfl
    have one : ∀ x ∈ [36, 83, 43, (45 : Int)], x ≠ drZ (bodyZ l) → (cntZ (bodyZ l) x : Int) ≤ 1 := fun x hx hne => by
     cases hq : decide ((cntZ (bodyZ l) x : Int) < 2) with
     | true => have := of_decide_eq_true hq; omega
     | false =>
      have hf := (flg_iff hx).2 (of_decide_eq_false hq)
      have hm := cnt_mem (flg_mem hf).2
      have h0 : drZ (bodyZ l) ≠ 0 := drGo_ne (bodyZ l) hf (bodyZ l) hm
      have h0' : (drZ (bodyZ l) == 0) = false := by simpa using h0
      rw [driftsZ, h0', Bool.false_or, Bool.and_eq_true, df1_all, List.all_eq_true] at hD
      have := hD.1 x hm
      rw [hf] at this
      simp only [Bool.not_true, Bool.or_false, beq_iff_eq] at this
      exact absurd this hne
    have sx : ∀ x ∈ [36, 83, 43, (45 : Int)], sgX (drZ (bodyZ l)) x [] (bodyZ l) = b2i (hasZ (bodyZ l) x) := fun x hx => by
     unfold sgX
     split
     ·simp
     ·rename_i hne
      exact has_cnt (one x hx hne)
    rw [sx 83 (by simp), sx 43 (by simp), sx 45 (by simp)] at hs
    rw [nG, signsZ, eR]
    have hs' : siGo (bodyZ l) (rolesP (drZ (bodyZ l)) (nD (bodyZ l)).2.2 (bodyZ l) 0) = _ := hs
    rw [hs']
    cases crZ l <;> simp [b2i] <;> omega
   have eQ : numQ (bodyZ l) (crZ l) = numV l := by
    rw [numQ, numV, hA, hA', hch, d1, hD, eG, eS, eSt, marks_body hA', leadsZ, nPok, p1]
    cases hl : (ldGo (mkGo (drZ (bodyZ l)) false (bodyZ l)) false false false 0).1 with
    | false => cases hasZ (bodyZ l) 90 <;> cases hasZ (bodyZ l) 42 <;> cases drZ (bodyZ l) != 0 <;> simp
    | true =>
     obtain ⟨g1, g2, g3, g4, g5, g6, g7⟩ := p2 (p1.trans hl)
     have g1 : (nP (bodyZ l)).2.dg = _ := g1
     have g2 : (nP (bodyZ l)).2.bh = _ := g2
     have g3 : decide ((nP (bodyZ l)).2.fm > 0) = _ := g3
     have g4 : (nP (bodyZ l)).2.pts = _ := g4
     rw [g1, g2, g3, g4]
     simp only [Int.zero_add]
     generalize (ldGo (mkGo (drZ (bodyZ l)) false (bodyZ l)) false false false 0).2.2.2 = dg
     generalize (ldGo (mkGo (drZ (bodyZ l)) false (bodyZ l)) false false false 0).2.2.1 = bh
     generalize (ldGo (mkGo (drZ (bodyZ l)) false (bodyZ l)) false false false 0).2.1 = fm
     cases hasZ (bodyZ l) 90 <;> cases hasZ (bodyZ l) 42 <;> cases drZ (bodyZ l) != 0 <;> cases decide ((cntZ (bodyZ l) 86 : Int) ≤ 1) <;> cases decide (dg ≥ 1) <;> cases decide (dg ≤ 9) <;> cases bh <;> cases fm <;> cases decide (signsZ l ≤ 1) <;> cases statsZ (bodyZ l) (mkGo (drZ (bodyZ l)) false (bodyZ l)) <;> rfl
   refine ⟨eQ, fun hV => ?_⟩
   have hN := numV_iff.1 hV
   have hl : (ldGo (mkGo (drZ (bodyZ l)) false (bodyZ l)) false false false 0).1 = true := by
    have := hN.ld
    unfold leadsZ at this
    cases h1 : (hasZ (bodyZ l) 90 && hasZ (bodyZ l) 42) with
    | true => rw [h1] at this; cases this
    | false =>
     rw [h1, cond_false] at this
     cases h2 : ((hasZ (bodyZ l) 90 || hasZ (bodyZ l) 42) && drZ (bodyZ l) != 0) with
     | true => rw [h2] at this; cases this
     | false =>
      rw [h2, cond_false] at this
      simp only [Bool.and_eq_true] at this
      exact this.1
   obtain ⟨g1, g2, g3, g4, g5, g6, g7⟩ := p2 (p1.trans hl)
   simp only [Int.zero_add] at g5 g6 g7
   have eM : marksZ l = mkGo (drZ (bodyZ l)) false (bodyZ l) ++ (if crZ l = true then [115, 115] else []) := rfl
   refine ⟨hP, d2, hroles, hok, ?_, ?_, ?_, eG, g7⟩
   ·have := marks_nv l
    rw [eM, nv_app] at this
    have h5 : (nP (bodyZ l)).2.w = _ := g5
    rw [h5]
    cases hc : crZ l with
    | false => rw [hc] at this; have e0 : nv (if (false : Bool) = true then [115, 115] else []) = 0 := rfl; rw [e0] at this; simp only [cond_false]; omega
    | true => rw [hc] at this; have e0 : nv (if (true : Bool) = true then [115, 115] else []) = 2 := rfl; rw [e0] at this; simp only [cond_true]; omega
   ·have h1 : (nP (bodyZ l)).2.dg = _ := g1
    rw [h1, ld_cnt _ _ _ _ _ hl, eM, pd_app]
    cases crZ l <;> simp [pdGo, isP]
   ·have h6 : (nP (bodyZ l)).2.q = _ := g6
    rw [h6, eM, pq_app]
    obtain ⟨t, h, ht⟩ := body_app l
    have := q_law hd (l := l) (t := t) (bodyZ l) [] false (by simpa using h) (by simpa using hN.one)
    have e0 : ((cntZ [] 86 : Nat) : Int) = 0 := rfl
    rw [e0] at this
    have e1 : (([] : List Int).length : Int) = 0 := rfl
    rw [e1] at this
    rw [this]
    cases crZ l with
    | false => simp [pqGo]
    | true => simp [pqGo, isP]
end Go.Px
end
noncomputable section
namespace Go.Px
open Go Go.Ab Go.Proofs Go.Shelf
section
variable {P : Program} {G : Env} {L : Nat → Option LoopH} {f : FuncId} {fn : Func}
theorem gen_newR {h : List Value → Lk → Nat → (Value → Lk → Nat → Prop) → Prop} (hG : EnvOK P G) (hm : P.follows .mixedOrders = true) (hf : Fn1 P f fn) (hL : LOKf P L fn)
  (H : ∀ args m n K, h args m n K → ∃ (args' : List Value) (m0 : Lk) (n0 : Nat) (ρ : Nat → Nat) (R : Value → List (Option Blk) → Prop), SubM m ρ m0 n0 ∧ (∀ ι : Nm, args'.map (ren fun j => ι (ρ j)) = args.map (ren ι)) ∧ args'.length ≤ fn.ntmps ∧ (∀ v ∈ args', ∀ j ∈ ids v, j < n0) ∧
   DoesM P G L fn args' m0 n0 (fun v' m' _ => R v' (look m' v')) ∧
   ∀ v' m', R v' (look m' v') → ∃ v mm nn σ, ((∀ k b, m k = some b → k < n) → NewM m n m' mm nn σ) ∧ (∀ i ∈ ids v, n ≤ i ∧ i < nn) ∧ (∀ ι' ι'' : Nm, (∀ i, n ≤ i → ι'' i = ι' (σ i)) → ren ι'' v = ren ι' v') ∧ K v mm nn) : GenOK P f h := by
 obtain ⟨h1, h2, h3, h4⟩ := hf
 cases hb : fn.body with
 | none => rw [hb] at h2; cases h2
 | some c =>
  simp only [hb] at h4
  simp only [LOKf, hb] at hL
  refine ⟨⟨fn, h1, h3, by rw [hb]; rfl⟩, fun args m n K hh N w0 ι w hrel hwf hargs => ?_⟩
  obtain ⟨args', m0, n0, ρ, R, hs, ha, hlen, hids, hd, hR⟩ := H _ _ _ _ hh
  rw [DoesM] at hd
  rw [← ha ι]
  refine (bodyQ_sound (N := w.heap.size) (w0 := w) (ι := fun j => ι (ρ j)) hG hm h1 hb h4 hL hlen hd (hs.rel hrel) hs.lt hids).mono fun e w' ⟨v', m', n', ι', he, hv', _, _, hm', _, _⟩ => ?_
  obtain ⟨v, mm, nn, σ, hn, hvi, hvr, hk⟩ := hR v' m' hv'
  have hn := hn fun k b hk => (hwf k b hk).1
  obtain ⟨q1, q2⟩ := hn.rel hrel hwf hm'
  refine ⟨v, mm, nn, _, ?_, hk, hn.le, fun k hk => nmJ_old hk, q1, q2, fun j hj => (hvi j hj).2⟩
  rw [he, hvr ι' _ fun i hi => nmJ_new hi]
end
theorem sub_none (m : Lk) (ρ : Nat → Nat) (n : Nat) : SubM m ρ (fun _ => none) n := ⟨fun _ _ h => (by cases h), fun _ _ h => (by cases h)⟩
theorem new_none {m : Lk} {n : Nat} (hwf : ∀ k b, m k = some b → k < n) (m' : Lk) (σ : Nat → Nat) : NewM m n m' m n σ :=
 ⟨Nat.le_refl _, fun _ _ => rfl, fun j b h hj => by have := hwf j b hj; omega, fun j j' b b' h _ hj => by have := hwf j b hj; omega⟩
theorem new_one {m : Lk} {n : Nat} (hwf : ∀ k b, m k = some b → k < n) {m' : Lk} {a : Nat} {c : List Value} {ty : TypeId} (ha : m' a = some ⟨c, ty, true⟩) (hc : plainL c = true) (hit : Nat.beq ty itTy = false) :
  NewM m n m' (m.upd n ⟨c, ty, true⟩) (n + 1) (fun _ => a) := by
 have hget : ∀ j b, n ≤ j → m.upd n ⟨c, ty, true⟩ j = some b → j = n ∧ b = ⟨c, ty, true⟩ := fun j b hj h => by
  by_cases e : j = n
  ·subst e
   rw [Lk.upd_same] at h
   cases h
   exact ⟨rfl, rfl⟩
  ·rw [Lk.upd_other _ _ e] at h
   have := hwf j b h
   omega
 refine ⟨by omega, fun j hj => Lk.upd_other _ _ (by omega), fun j b hj h => ?_, fun j j' b b' hj hj' h h' hne => ?_⟩
 ·obtain ⟨rfl, rfl⟩ := hget j b hj h
  exact ⟨by omega, fun i hi => (by rw [ids_plainL hc] at hi; cases hi), rfl, hit, ⟨c, ty, true⟩, ha, rfl, rfl, fun ι' ι'' _ => renMap_congr fun k hk => by rw [ids_plainL hc] at hk; cases hk⟩
 ·have e1 := (hget j b hj h).1
  have e2 := (hget j' b' hj' h').1
  omega
theorem new_form {m : Lk} {n : Nat} (hwf : ∀ k b, m k = some b → k < n) {m' : Lk} {a x k cap : Nat} {A B d : List Value} {ty ty2 : TypeId} (ha : m' a = some ⟨A ++ .slice (some ⟨x, 0, some 1⟩) k cap :: B, ty, true⟩)
  (hx : m' x = some ⟨d, ty2, true⟩) (hA : plainL A = true) (hB : plainL B = true) (hd : plainL d = true) (hit : Nat.beq ty itTy = false) (hit2 : Nat.beq ty2 itTy = false) (hne : a ≠ x) :
  NewM m n m' ((m.upd n ⟨A ++ .slice (some ⟨n + 1, 0, some 1⟩) k cap :: B, ty, true⟩).upd (n + 1) ⟨d, ty2, true⟩) (n + 2) (fun j => if j = n then a else x) := by
 have hget : ∀ j b, n ≤ j → ((m.upd n ⟨A ++ .slice (some ⟨n + 1, 0, some 1⟩) k cap :: B, ty, true⟩).upd (n + 1) ⟨d, ty2, true⟩) j = some b →
   (j = n ∧ b = ⟨A ++ .slice (some ⟨n + 1, 0, some 1⟩) k cap :: B, ty, true⟩) ∨ (j = n + 1 ∧ b = ⟨d, ty2, true⟩) := fun j b hj h => by
  by_cases e : j = n + 1
  ·subst e
   rw [Lk.upd_same] at h
   cases h
   exact .inr ⟨rfl, rfl⟩
  ·rw [Lk.upd_other _ _ e] at h
   by_cases e2 : j = n
   ·subst e2
    rw [Lk.upd_same] at h
    cases h
    exact .inl ⟨rfl, rfl⟩
   ·rw [Lk.upd_other _ _ e2] at h
    have := hwf j b h
    omega
 have hids : ∀ y i, i ∈ idsL (A ++ Value.slice (some ⟨y, 0, some 1⟩) k cap :: B) → i = y := fun y i hi => by
  obtain ⟨v, hv, hi⟩ := mem_idsL.1 hi
  rcases List.mem_append.1 hv with hv | hv
  ·rw [ids_plain (plainL_iff.1 hA v hv)] at hi; cases hi
  ·rcases List.mem_cons.1 hv with rfl | hv
   ·simpa [ids] using hi
   ·rw [ids_plain (plainL_iff.1 hB v hv)] at hi; cases hi
 refine ⟨by omega, fun j hj => by rw [Lk.upd_other _ _ (by omega), Lk.upd_other _ _ (by omega)], fun j b hj h => ?_, fun j j' b b' hj hj' h h' hn => ?_⟩
 ·rcases hget j b hj h with ⟨rfl, rfl⟩ | ⟨rfl, rfl⟩
  ·refine ⟨by omega, fun i hi => by have := hids _ i hi; omega, rfl, hit, ⟨A ++ .slice (some ⟨x, 0, some 1⟩) k cap :: B, ty, true⟩, by rw [if_pos rfl]; exact ha, rfl, rfl, fun ι' ι'' hι => ?_⟩
   rw [List.map_append, List.map_append, List.map_cons, List.map_cons]
   have e1 : A.map (ren ι'') = A.map (ren ι') := renMap_congr fun k hk => by rw [ids_plainL hA] at hk; cases hk
   have e2 : B.map (ren ι'') = B.map (ren ι') := renMap_congr fun k hk => by rw [ids_plainL hB] at hk; cases hk
   have e3 : ι'' (j + 1) = ι' x := by rw [hι (j + 1) (by omega), if_neg (by omega)]
   rw [e1, e2]
   simp [ren, ren1, e3]
  ·refine ⟨by omega, fun i hi => (by rw [ids_plainL hd] at hi; cases hi), rfl, hit2, ⟨d, ty2, true⟩, (by rw [if_neg (by omega)]; exact hx), rfl, rfl, fun ι' ι'' _ => renMap_congr fun k hk => by rw [ids_plainL hd] at hk; cases hk⟩
 ·rcases hget j b hj h with ⟨rfl, rfl⟩ | ⟨rfl, rfl⟩ <;> rcases hget j' b' hj' h' with ⟨rfl, rfl⟩ | ⟨rfl, rfl⟩
  ·exact absurd rfl hn
  ·rw [if_pos rfl, if_neg (by omega)]; exact hne
  ·rw [if_neg (by omega), if_pos rfl]; exact hne.symm
  ·exact absurd rfl hn
theorem look_form {m : Lk} {a x k cap : Nat} {c d : List Value} {ty ty2 : TypeId} (hc : c[6]? = some (.slice (some ⟨x, 0, some 1⟩) k cap))
  (h : look m (.tuple ⟨[.pointer (some ⟨a, 0, some 0⟩), .bool true]⟩) = [some ⟨c, ty, true⟩, some ⟨d, ty2, true⟩]) : m a = some ⟨c, ty, true⟩ ∧ m x = some ⟨d, ty2, true⟩ := by
 simp only [look] at h
 cases ha : m a with
 | none => rw [ha] at h; cases h
 | some b =>
  rw [ha] at h
  simp only at h
  split at h
  ·rename_i a' l' c' hc'
   simp only [List.cons.injEq, and_true] at h
   obtain ⟨h1, h2⟩ := h
   cases h1
   rw [hc] at hc'
   cases hc'
   exact ⟨rfl, h2⟩
  ·cases h
def frm (l : List Int) (x k cap : Nat) : List Value := [.string (sz l), .bool true, .int .i64 (l.length - cntZ l 86), .int .i64 (pdGo (marksZ l)), .int .i64 (pqGo l (marksZ l) 0), .bool (signsZ l == 1)] ++
 .slice (some ⟨x, 0, some 1⟩) k cap :: [.int .u8 (drZ (bodyZ l)), .int .i64 (nD (bodyZ l)).2.2, .bool (crZ l), .int .u8 (fdFl l), .int .i64 (cntZ (mkGo (drZ (bodyZ l)) false (bodyZ l)) 100)]
def rolF (l : List Int) : List Int := nR (bodyZ l) ++ (bif crZ l then [4, 4] else [])
def allK (l : List Int) : Bool := l.all (hasZ kL)
theorem allK_spec {l : List Int} (h : allK l = true) : asc l = true ∧ ∀ c ∈ l, c ≠ 0 := by
 simp only [allK, List.all_eq_true] at h
 refine ⟨?_, fun c hc => ?_⟩
 ·simp only [asc, List.all_eq_true, decide_eq_true_eq]
  exact fun c hc => (kL_lt (h c hc)).2
 ·rintro rfl
  exact absurd (h 0 hc) (by decide)
theorem body_sub {l : List Int} {c : Int} (h : c ∈ bodyZ l) : c ∈ l := by
 unfold bodyZ at h
 split at h
 ·exact List.mem_of_mem_take h
 ·exact h
theorem star_body (l : List Int) : hasZ (bodyZ l) 42 = hasZ l 42 := by
 obtain ⟨t, h, ht⟩ := body_app l
 have e : hasZ l 42 = (hasZ (bodyZ l) 42 || hasZ t 42) := by
  conv => lhs; rw [h]
  simp [hasZ]
 rw [e]
 rcases ht with ⟨rfl, _⟩ | ⟨rfl | rfl, _⟩
 ·simp [hasZ]
 ·have : hasZ [67, 82] 42 = false := by decide
  rw [this, Bool.or_false]
 ·have : hasZ [68, 66] 42 = false := by decide
  rw [this, Bool.or_false]
theorem form_frm {s : ByteArray} (h : NumL (bz s)) (x k cap : Nat) : formC s (crZ (bz s)) x k cap = frm (bz s) x k cap := by
 have e : (bif hasZ (bodyZ (bz s)) 42 then (42 : Int) else 32) = fdFl (bz s) := by
  rw [star_body, fdFl]
  cases hasZ (bz s) 42 <;> rfl
 rw [formC, h.w, h.dg, h.q, h.g, h.d, h.fm, e, frm, sz_bz]
 rfl
def h103 : List Value → Lk → Nat → (Value → Lk → Nat → Prop) → Prop := fun args m n K => match args with
 | [.string s] => match cnd (decide (s.size ≤ 32) && allK (bz s)) with
  | true => bif numV (bz s) then ∀ (k cap : Nat) (d : List Value), rowIOK d k cap = true → zc d k = rolF (bz s) → K (.tuple ⟨[.pointer (some ⟨n, 0, some 0⟩), .bool true]⟩) ((m.upd n ⟨frm (bz s) (n + 1) k cap, 84, true⟩).upd (n + 1) ⟨d, 102, true⟩) (n + 2)
   else K (.tuple ⟨[.pointer none, .bool false]⟩) m n
  | false => False
 | _ => False
def R103 (s : ByteArray) (v : Value) (bs : List (Option Blk)) : Prop := (numV (bz s) = false ∧ v = .tuple ⟨[.pointer none, .bool false]⟩) ∨ (numV (bz s) = true ∧ v = .tuple ⟨[.pointer (some ⟨3, 0, some 0⟩), .bool true]⟩ ∧ ∃ x k cap d, RowI d k cap ∧ zc d k = rolF (bz s) ∧ bs = [some ⟨frm (bz s) x k cap, 84, true⟩, some ⟨d, 102, true⟩])
theorem w103' (s : ByteArray) (hs : s.size ≤ 32) (hk : allK (bz s) = true) : DoesM Tryz.prog G25 noL Tryz.f103 [.string s] (fun _ => none) 0 (fun v m _ => R103 s v (look m v)) := by
 obtain ⟨ha, h0⟩ := allK_spec hk
 obtain ⟨q1, q2⟩ := num_law (l := bz s) fun c hm => h0 c (body_sub hm)
 have A1 : numQ (bodyZ (bz s)) (crZ (bz s)) = false → R103 s (.tuple ⟨[.pointer none, .bool false]⟩) [] := fun hn => .inl ⟨by rw [← q1]; exact hn, rfl⟩
 have A2 : numQ (bodyZ (bz s)) (crZ (bz s)) = true → ∀ (x m cap : Nat) (d : List Value), RowI d m cap → zc d m = nRoles s (crZ (bz s)) →
   R103 s (.tuple ⟨[.pointer (some ⟨3, 0, some 0⟩), .bool true]⟩) [some ⟨formC s (crZ (bz s)) x m cap, 84, true⟩, some ⟨d, 102, true⟩] := fun hy x k cap d r1 r2 => by
  rw [q1] at hy
  rw [form_frm (q2 hy)]
  exact .inr ⟨hy, rfl, x, k, cap, d, r1, r2, rfl⟩
 exact w103 s hs ha (R103 s) A1 A2
theorem fn103 : Fn1 Tryz.prog 103 Tryz.f103 := ⟨Tryz.func103, by kernel_rfl, by kernel_rfl, by kernel_rfl⟩
theorem h103_ok : GenOK Tryz.prog 103 h103 := by
 refine gen_newR ok_G25 hmix fn103 lokf_none fun args m n K h => ?_
 unfold h103 at h
 split at h
 case h_2 => exact h.elim
 rename_i s
 split at h
 case h_2 => exact h.elim
 rename_i hc
 simp only [cnd, Bool.and_eq_true, decide_eq_true_eq] at hc
 refine ⟨[.string s], fun _ => none, 0, id, R103 s, sub_none _ _ _, fun ι => by simp [ren], Nat.le_of_ble_eq_true (by kernel_rfl), fun v hv j hj => ?_, w103' s hc.1 hc.2, fun v' m' hR => ?_⟩
 ·simp at hv; subst hv; simp [ids] at hj
 ·rcases hR with ⟨hv, rfl⟩ | ⟨hv, rfl, x, k, cap, d, r1, r2, hbs⟩
  ·rw [hv] at h
   exact ⟨_, m, n, id, fun hwf => new_none hwf _ _, by simp [ids, idsL], fun _ _ _ => by simp [ren, renL], h⟩
  ·rw [hv] at h
   obtain ⟨a1, a2⟩ := look_form (x := x) (k := k) (cap := cap) rfl hbs
   refine ⟨_, _, _, fun j => if j = n then 3 else x, fun hwf => new_form hwf a1 a2 rfl rfl r1.plain rfl rfl ?_, ?_, fun ι' ι'' hι => ?_, h k cap d (rowIOK_iff.2 r1) r2⟩
   ·rintro rfl
    rw [a1] at a2
    cases a2
   ·intro i hi
    have : i = n := by simpa [ids, idsL] using hi
    omega
   ·have e := hι n (Nat.le_refl _)
    simp only [if_true] at e
    simp [ren, renL, ren1, e]
def G26 : Env := G25.addG 103 h103
theorem ok_G26 : EnvOK Tryz.prog G26 := env_addG ok_G25 h103_ok
theorem dropW_nil {p : Int → Bool} : ∀ {l : List Int}, l.dropWhile p = [] ↔ ∀ c ∈ l, p c = true
 | [] => by simp
 | c :: l => by
  rw [List.dropWhile_cons]
  cases h : p c with
  | true => simp only [if_true]; rw [dropW_nil (l := l)]; simp [h]
  | false => simp [h]
theorem trim_nil {l cs : List Int} : trimZ l cs = [] ↔ ∀ c ∈ l, hasZ cs c = true := by
 unfold trimZ
 rw [dropW_nil]
 constructor
 ·intro h c hc
  cases hq : hasZ cs c with
  | true => rfl
  | false =>
   exfalso
   -- c stays in what is left
   have : ∀ r : List Int, c ∈ r → c ∈ r.dropWhile (hasZ cs) := by
    intro r
    induction r with
    | nil => exact fun h => by cases h
    | cons x r ih =>
     intro hx
     rw [List.dropWhile_cons]
     cases hh : hasZ cs x with
     | false => simpa using hx
     | true =>
      rw [if_pos rfl]
      rcases List.mem_cons.1 hx with rfl | hx
      ·rw [hq] at hh; cases hh
      ·exact ih hx
   have hm := this l.reverse (by simpa using hc)
   have := h c (by simpa using hm)
   rw [hq] at this
   cases this
 ·intro h c hc
  have : c ∈ l.reverse.dropWhile (hasZ cs) := by simpa using hc
  exact h c (by simpa using List.dropWhile_sublist _ |>.subset this)
theorem xp_kL : ∀ (l : List Int) (st n : Int) (out : List Int), allK out = true → allK (xpGo l st n out).1 = true
 | [], _, _, _, h => h
 | c :: r, st, n, out, h => by
  rw [xpGo]
  generalize (if st = 2 then n else 1) = k
  split
  ·split
   ·split
    ·exact xp_kL r _ _ _ h
    ·rfl
   ·split
    ·exact xp_kL r _ _ _ h
    ·rfl
  ·split
   ·rfl
   ·split
    ·exact xp_kL r _ _ _ h
    ·split
     ·rename_i hq
      refine xp_kL r _ _ _ ?_
      simp only [allK, List.all_append, Bool.and_eq_true]
      refine ⟨h, ?_⟩
      rw [List.all_eq_true]
      intro x hx
      rw [List.eq_of_mem_replicate hx]
      exact hq.1
     ·rfl
theorem ex_kL (l : List Int) : allK (exZ l) = true := by
 unfold exZ
 split
 ·exact xp_kL l 0 0 [] rfl
 ·rfl
def frmP (l : List Int) (x k cap : Nat) : List Value := [.string (sz (pS l)), .bool true, .int .i64 (pW l), .int .i64 (pD l), .int .i64 (pQ l), .bool (pG l)] ++
 .slice (some ⟨x, 0, some 1⟩) k cap :: [.int .u8 (drZ (bodyZ (pS l))), .int .i64 (nD (bodyZ (pS l))).2.2, .bool (crZ (pS l)), .int .u8 (fdFl (pS l)), .int .i64 (cntZ (mkGo (drZ (bodyZ (pS l))) false (bodyZ (pS l))) 100)]
def chrP (l : List Int) : List Value := [.string (sz (pS l)), .bool false, .int .i64 (pW l), .int .i64 0, .int .i64 0, .bool false, .slice none 0 0, .int .u8 0, .int .i64 0, .bool false, .int .u8 0, .int .i64 0]
theorem frm_P {l : List Int} (h : pN l = true) (x k cap : Nat) : frm (exZ l) x k cap = frmP l x k cap := by
 have hv := pN_vOK h
 have hc := (pN_num h).nch
 unfold frm frmP
 rw [pS, if_pos hv, pW, if_pos hv, if_neg (by rw [hc]; simp), pD, if_pos h, pQ, if_pos h, pG, h, Bool.true_and]
def h70 : List Value → Lk → Nat → (Value → Lk → Nat → Prop) → Prop := fun args m n K => match args with
 | [.string s] => match cnd (decide (s.size ≤ 9223372036854775807)) with
  | true => bif vOK (bz s) then (bif pN (bz s) then ∀ (k cap : Nat) (d : List Value), rowIOK d k cap = true → zc d k = rolF (pS (bz s)) → K (.tuple ⟨[.pointer (some ⟨n, 0, some 0⟩), .bool true]⟩) ((m.upd n ⟨frmP (bz s) (n + 1) k cap, 84, true⟩).upd (n + 1) ⟨d, 102, true⟩) (n + 2)
    else K (.tuple ⟨[.pointer (some ⟨n, 0, some 0⟩), .bool true]⟩) (m.upd n ⟨chrP (bz s), 84, true⟩) (n + 1))
   else K (.tuple ⟨[.pointer none, .bool false]⟩) m n
  | false => False
 | _ => False
def h62 : List Value → Lk → Nat → (Value → Lk → Nat → Prop) → Prop := fun args m n K => match args with
 | [.string s] => match cnd (decide (s.size ≤ 9223372036854775807)) with
  | true => bif pN (bz s) then ∀ (k cap : Nat) (d : List Value), rowIOK d k cap = true → zc d k = rolF (pS (bz s)) → K (.tuple ⟨[.pointer (some ⟨n, 0, some 0⟩), .bool true]⟩) ((m.upd n ⟨frmP (bz s) (n + 1) k cap, 84, true⟩).upd (n + 1) ⟨d, 102, true⟩) (n + 2)
   else K (.tuple ⟨[.pointer none, .bool false]⟩) m n
  | false => False
 | _ => False
def Rfm (c : Bool) (s : ByteArray) (v : Value) (bs : List (Option Blk)) : Prop :=
 (pN (bz s) = true ∧ ∃ a x k cap d, v = .tuple ⟨[.pointer (some ⟨a, 0, some 0⟩), .bool true]⟩ ∧ RowI d k cap ∧ zc d k = rolF (pS (bz s)) ∧ bs = [some ⟨frmP (bz s) x k cap, 84, true⟩, some ⟨d, 102, true⟩]) ∨
 (c = true ∧ vOK (bz s) = true ∧ pN (bz s) = false ∧ ∃ a, v = .tuple ⟨[.pointer (some ⟨a, 0, some 0⟩), .bool true]⟩ ∧ bs = [some ⟨chrP (bz s), 84, true⟩]) ∨
 (pN (bz s) = false ∧ (c = true → vOK (bz s) = false) ∧ v = .tuple ⟨[.pointer none, .bool false]⟩)
theorem rfm_new {c : Bool} {s : ByteArray} {v' : Value} {m m' : Lk} {n : Nat} {K : Value → Lk → Nat → Prop} (hR : Rfm c s v' (look m' v'))
  (h1 : pN (bz s) = true → ∀ (k cap : Nat) (d : List Value), rowIOK d k cap = true → zc d k = rolF (pS (bz s)) → K (.tuple ⟨[.pointer (some ⟨n, 0, some 0⟩), .bool true]⟩) ((m.upd n ⟨frmP (bz s) (n + 1) k cap, 84, true⟩).upd (n + 1) ⟨d, 102, true⟩) (n + 2))
  (h2 : c = true → vOK (bz s) = true → pN (bz s) = false → K (.tuple ⟨[.pointer (some ⟨n, 0, some 0⟩), .bool true]⟩) (m.upd n ⟨chrP (bz s), 84, true⟩) (n + 1))
  (h3 : pN (bz s) = false → (c = true → vOK (bz s) = false) → K (.tuple ⟨[.pointer none, .bool false]⟩) m n) :
  ∃ v mm nn σ, ((∀ k b, m k = some b → k < n) → NewM m n m' mm nn σ) ∧ (∀ i ∈ ids v, n ≤ i ∧ i < nn) ∧ (∀ ι' ι'' : Nm, (∀ i, n ≤ i → ι'' i = ι' (σ i)) → ren ι'' v = ren ι' v') ∧ K v mm nn := by
 rcases hR with ⟨hv, a, x, k, cap, d, rfl, r1, r2, hbs⟩ | ⟨hc, hv, hp, a, rfl, hbs⟩ | ⟨hv, hc, rfl⟩
 ·obtain ⟨a1, a2⟩ := look_form (x := x) (k := k) (cap := cap) rfl hbs
  refine ⟨_, _, _, fun j => if j = n then a else x, fun hwf => new_form hwf a1 a2 rfl rfl r1.plain rfl rfl ?_, ?_, fun ι' ι'' hι => ?_, h1 hv k cap d (rowIOK_iff.2 r1) r2⟩
  ·rintro rfl
   rw [a1] at a2
   cases a2
  ·intro i hi
   have : i = n := by simpa [ids, idsL] using hi
   omega
  ·have e := hι n (Nat.le_refl _)
   simp only [if_true] at e
   simp [ren, renL, ren1, e]
 ·have ha : m' a = some ⟨chrP (bz s), 84, true⟩ := by
   simp only [look] at hbs
   cases ha : m' a with
   | none => rw [ha] at hbs; cases hbs
   | some b =>
    rw [ha] at hbs
    simp only at hbs
    split at hbs
    ·cases hbs
    ·cases hbs; rfl
  refine ⟨_, _, _, fun j => a, fun hwf => new_one hwf ha rfl rfl, ?_, fun ι' ι'' hι => ?_, h2 hc hv hp⟩
  ·intro i hi
   have : i = n := by simpa [ids, idsL] using hi
   omega
  ·have e := hι n (Nat.le_refl _)
   simp [ren, renL, ren1, e]
 ·exact ⟨_, m, n, id, fun hwf => new_none hwf _ _, by simp [ids, idsL], fun _ _ _ => by simp [ren, renL], h3 hv hc⟩
theorem v70 (s : ByteArray) (R : Value → List (Option Blk) → Prop) : (bodyQ Tryz.prog G26 noL Tryz.f70 [.string s] (fun _ => none) 0 (fun v m _ => R v (look m v))) = ( bif decide (ByteArray.size s ≤ 9223372036854775807) then bif !exOK (bz s) then R (.tuple (.mk [.pointer none, .bool false])) [] else bif decide (ByteArray.size (sz (Prod.fst (xpGo (bz s) 0 0 []))) ≤ 1000) && (decide (ByteArray.size (ByteArray.mk #[65, 88, 57]) ≤ 1000) && asc (bz (ByteArray.mk #[65, 88, 57]))) && bif ByteArray.toList (szO (trimZ (bz (sz (Prod.fst (xpGo (bz s) 0 0 [])))) (bz (ByteArray.mk #[65, 88, 57])))) == ByteArray.toList (ByteArray.mk #[]) then decide (ByteArray.size (sz (Prod.fst (xpGo (bz s) 0 0 []))) ≤ 1000) && (decide (ByteArray.size (ByteArray.mk #[65, 88]) ≤ 1000) && (asc (bz (sz (Prod.fst (xpGo (bz s) 0 0 [])))) && asc (bz (ByteArray.mk #[65, 88])))) && true else true then bif ByteArray.toList (szO (trimZ (bz (sz (Prod.fst (xpGo (bz s) 0 0 [])))) (bz (ByteArray.mk #[65, 88, 57])))) == ByteArray.toList (ByteArray.mk #[]) && anyZ (bz (sz (Prod.fst (xpGo (bz s) 0 0 [])))) (bz (ByteArray.mk #[65, 88])) then R (.tuple (.mk [.pointer (some (.mk 23 0 (some 0))), .bool true])) [some (.mk [.string (sz (Prod.fst (xpGo (bz s) 0 0 []))), .bool false, .int .i64 (↑(ByteArray.size (sz (Prod.fst (xpGo (bz s) 0 0 [])))) : Int), .int .i64 0, .int .i64 0, .bool false, .slice none 0 0, .int .u8 0, .int .i64 0, .bool false, .int .u8 0, .int .i64 0] 84 true)] else bif decide (ByteArray.size (sz (Prod.fst (xpGo (bz s) 0 0 []))) ≤ 32) && allK (bz (sz (Prod.fst (xpGo (bz s) 0 0 [])))) then bif numV (bz (sz (Prod.fst (xpGo (bz s) 0 0 [])))) then ∀ (k cap : Nat) (d : List Value), rowIOK d k cap = true → zc d k = rolF (bz (sz (Prod.fst (xpGo (bz s) 0 0 [])))) → R (.tuple (.mk [.pointer (some (.mk 20 0 (some 0))), .bool true])) [some (.mk [.string (sz (bz (sz (Prod.fst (xpGo (bz s) 0 0 []))))), .bool true, .int .i64 ((↑(List.length (bz (sz (Prod.fst (xpGo (bz s) 0 0 []))))) : Int) - (↑(cntZ (bz (sz (Prod.fst (xpGo (bz s) 0 0 [])))) 86) : Int)), .int .i64 (pdGo (marksZ (bz (sz (Prod.fst (xpGo (bz s) 0 0 [])))))), .int .i64 (pqGo (bz (sz (Prod.fst (xpGo (bz s) 0 0 [])))) (marksZ (bz (sz (Prod.fst (xpGo (bz s) 0 0 []))))) 0), .bool (signsZ (bz (sz (Prod.fst (xpGo (bz s) 0 0 [])))) == 1), .slice (some (.mk 21 0 (some 1))) k cap, .int .u8 (drZ (bodyZ (bz (sz (Prod.fst (xpGo (bz s) 0 0 [])))))), .int .i64 (Prod.snd (Prod.snd (nD (bodyZ (bz (sz (Prod.fst (xpGo (bz s) 0 0 [])))))))), .bool (crZ (bz (sz (Prod.fst (xpGo (bz s) 0 0 []))))), .int .u8 (fdFl (bz (sz (Prod.fst (xpGo (bz s) 0 0 []))))), .int .i64 (↑(cntZ (mkGo (drZ (bodyZ (bz (sz (Prod.fst (xpGo (bz s) 0 0 [])))))) false (bodyZ (bz (sz (Prod.fst (xpGo (bz s) 0 0 [])))))) 100) : Int)] 84 true), some (.mk d 102 true)] else R (.tuple (.mk [.pointer none, .bool false])) [] else False else False else False) := by kernel_rfl
theorem fn70 : Fn1 Tryz.prog 70 Tryz.f70 := ⟨Tryz.func70, by kernel_rfl, by kernel_rfl, by kernel_rfl⟩
theorem w70 (s : ByteArray) (hs : s.size ≤ 9223372036854775807) : DoesM Tryz.prog G26 noL Tryz.f70 [.string s] (fun _ => none) 0 (fun v m _ => Rfm true s v (look m v)) := by
 rw [DoesM, v70]
 have hN : pN (bz s) = false → vOK (bz s) = false → Rfm true s (.tuple ⟨[.pointer none, .bool false]⟩) [] := fun h1 h2 => .inr (.inr ⟨h1, fun _ => h2, rfl⟩)
 refine c_t (decide_eq_true hs) (cond_intro (fun h => ?_) (fun h => ?_))
 ·have h : exOK (bz s) = false := by simpa using h
  exact hN (by rw [pN, h]; rfl) (by rw [vOK, h]; rfl)
 have h : exOK (bz s) = true := by simpa using h
 have e : (xpGo (bz s) 0 0 []).1 = exZ (bz s) := by rw [exZ, if_pos h]
 obtain ⟨x1, x2⟩ := ex_rng s
 have k1 : bz ⟨#[65, 88, 57]⟩ = [65, 88, 57] := rfl
 have k2 : bz ⟨#[65, 88]⟩ = [65, 88] := rfl
 rw [e, bz_sz x1, sz_size, k1, k2, szO_eq, toList_beq, bz_sz (l := trimZ (exZ (bz s)) [65, 88, 57])]
 rotate_left
 ·intro c hc
  refine x1 c ?_
  unfold trimZ at hc
  have := List.dropWhile_sublist _ |>.subset hc
  have : c ∈ (exZ (bz s)).reverse.dropWhile (hasZ [65, 88, 57]) := by simpa using this
  simpa using List.dropWhile_sublist _ |>.subset this
 have hk := allK_spec (ex_kL (bz s))
 have k3 : bz ⟨#[]⟩ = [] := rfl
 rw [k3]
 have eC : (decide (trimZ (exZ (bz s)) [65, 88, 57] = []) && anyZ (exZ (bz s)) [65, 88]) = charZ (exZ (bz s)) := by
  rw [charZ, Bool.eq_iff_iff]
  simp only [Bool.and_eq_true, decide_eq_true_eq, trim_nil, List.all_eq_true, anyZ, List.any_eq_true, Bool.or_eq_true, hasZ_iff]
  refine and_congr Iff.rfl ⟨?_, ?_⟩
  ·rintro ⟨c, h1, h2⟩
   simp at h2
   rcases h2 with rfl | rfl
   ·exact .inl h1
   ·exact .inr h1
  ·rintro (h1 | h1)
   ·exact ⟨65, h1, by simp⟩
   ·exact ⟨88, h1, by simp⟩
 rw [eC]
 refine c_t ?_ (cond_intro (fun hc => ?_) (fun hc => c_t ?_ (cond_intro (fun hn k cap d r1 r2 => ?_) (fun hn => ?_))))
 ·have a1 : decide ((exZ (bz s)).length ≤ 1000) = true := decide_eq_true (by omega)
  rw [a1, hk.1]
  cases decide (trimZ (exZ (bz s)) [65, 88, 57] = []) <;> rfl
 ·have hv : vOK (bz s) = true := by rw [vOK, h, hc]; rfl
  have hp : pN (bz s) = false := by rw [pN, h, numV, hc]; rfl
  refine .inr (.inl ⟨rfl, hv, hp, 23, rfl, ?_⟩)
  have e1 : pS (bz s) = exZ (bz s) := by rw [pS, if_pos hv]
  have e2 : pW (bz s) = (exZ (bz s)).length := by rw [pW, if_pos hv, if_pos hc]
  rw [chrP, e1, e2]
 ·rw [decide_eq_true (show (exZ (bz s)).length ≤ 32 by omega), ex_kL]
  rfl
 ·have hp : pN (bz s) = true := by rw [pN, h, hn]; rfl
  have e1 : pS (bz s) = exZ (bz s) := by rw [pS, if_pos (pN_vOK hp)]
  refine .inl ⟨hp, 20, 21, k, cap, d, rfl, rowIOK_iff.1 r1, by rw [e1]; exact r2, ?_⟩
  rw [← frm_P hp]
  rfl
 ·exact hN (by rw [pN, h, hn]; rfl) (by rw [vOK, h, hc, hn]; rfl)
theorem h70_ok : GenOK Tryz.prog 70 h70 := by
 refine gen_newR ok_G26 hmix fn70 lokf_none fun args m n K h => ?_
 unfold h70 at h
 split at h
 case h_2 => exact h.elim
 rename_i s
 split at h
 case h_2 => exact h.elim
 rename_i hc
 have hc : s.size ≤ 9223372036854775807 := of_decide_eq_true hc
 refine ⟨[.string s], fun _ => none, 0, id, Rfm true s, sub_none _ _ _, fun ι => by simp [ren], Nat.le_of_ble_eq_true (by kernel_rfl), fun v hv j hj => ?_, w70 s hc, fun v' m' hR => ?_⟩
 ·simp at hv; subst hv; simp [ids] at hj
 ·refine rfm_new hR (fun hp => ?_) (fun _ hv hp => ?_) (fun hp hv => ?_)
  ·rw [pN_vOK hp, hp] at h; exact h
  ·rw [hv, hp] at h; exact h
  ·rw [hv rfl] at h; exact h
def G27 : Env := G26.addG 70 h70
theorem ok_G27 : EnvOK Tryz.prog G27 := env_addG ok_G26 h70_ok
theorem v62 (s : ByteArray) (R : Value → List (Option Blk) → Prop) : (bodyQ Tryz.prog G27 noL Tryz.f62 [.string s] (fun _ => none) 0 (fun v m _ => R v (look m v))) = ( bif decide (ByteArray.size s ≤ 9223372036854775807) then bif vOK (bz s) then bif pN (bz s) then ∀ (k cap : Nat) (d : List Value), rowIOK d k cap = true → zc d k = rolF (pS (bz s)) → R (.tuple (.mk [.pointer (some (.mk 4 0 (some 0))), .bool true])) [some (.mk [.string (sz (pS (bz s))), .bool true, .int .i64 (pW (bz s)), .int .i64 (pD (bz s)), .int .i64 (pQ (bz s)), .bool (pG (bz s)), .slice (some (.mk 5 0 (some 1))) k cap, .int .u8 (drZ (bodyZ (pS (bz s)))), .int .i64 (Prod.snd (Prod.snd (nD (bodyZ (pS (bz s)))))), .bool (crZ (pS (bz s))), .int .u8 (fdFl (pS (bz s))), .int .i64 (↑(cntZ (mkGo (drZ (bodyZ (pS (bz s)))) false (bodyZ (pS (bz s)))) 100) : Int)] 84 true), some (.mk d 102 true)] else R (.tuple (.mk [.pointer none, .bool false])) [] else R (.tuple (.mk [.pointer none, .bool false])) [] else False) := by kernel_rfl
theorem fn62 : Fn1 Tryz.prog 62 Tryz.f62 := ⟨Tryz.func62, by kernel_rfl, by kernel_rfl, by kernel_rfl⟩
theorem w62 (s : ByteArray) (hs : s.size ≤ 9223372036854775807) : DoesM Tryz.prog G27 noL Tryz.f62 [.string s] (fun _ => none) 0 (fun v m _ => Rfm false s v (look m v)) := by
 rw [DoesM, v62]
 refine c_t (decide_eq_true hs) (cond_intro (fun h => cond_intro (fun hn k cap d r1 r2 => ?_) (fun hn => ?_)) (fun h => ?_))
 ·exact .inl ⟨hn, 4, 5, k, cap, d, rfl, rowIOK_iff.1 r1, r2, rfl⟩
 ·exact .inr (.inr ⟨hn, fun q => (by cases q), rfl⟩)
 ·refine .inr (.inr ⟨?_, fun q => (by cases q), rfl⟩)
  cases hp : pN (bz s) with
  | false => rfl
  | true => rw [pN_vOK hp] at h; cases h
theorem h62_ok : GenOK Tryz.prog 62 h62 := by
 refine gen_newR ok_G27 hmix fn62 lokf_none fun args m n K h => ?_
 unfold h62 at h
 split at h
 case h_2 => exact h.elim
 rename_i s
 split at h
 case h_2 => exact h.elim
 rename_i hc
 have hc : s.size ≤ 9223372036854775807 := of_decide_eq_true hc
 refine ⟨[.string s], fun _ => none, 0, id, Rfm false s, sub_none _ _ _, fun ι => by simp [ren], Nat.le_of_ble_eq_true (by kernel_rfl), fun v hv j hj => ?_, w62 s hc, fun v' m' hR => ?_⟩
 ·simp at hv; subst hv; simp [ids] at hj
 ·refine rfm_new hR (fun hp => ?_) (fun q _ _ => by cases q) (fun hp _ => ?_)
  ·rw [hp] at h; exact h
  ·rw [hp] at h; exact h
def G28 : Env := G27.addG 62 h62
theorem ok_G28 : EnvOK Tryz.prog G28 := env_addG ok_G27 h62_ok
end Go.Px
end
noncomputable section
namespace Go.Px
open Go Go.Ab Go.Proofs Go.Shelf
def s35 (s : ByteArray) : Bool × Value := (decide (s.size ≤ 9223372036854775807), .tuple ⟨[picV (bz s), .int .i64 (pE (bz s))]⟩)
theorem fn35 : Fn1 Tryz.prog 35 Tryz.f35 := ⟨Tryz.func35, by kernel_rfl, by kernel_rfl, by kernel_rfl⟩
theorem v35 (s : ByteArray) (R : Value → Prop) : bodyQ Tryz.prog G28 noL Tryz.f35 [Enc.enc s] (fun _ => none) 0 (fun v _ _ => R v) = ( bif decide (ByteArray.size s ≤ 9223372036854775807) then bif vOK (bz s) then bif pN (bz s) then ∀ (k cap : Nat) (d : List Value), rowIOK d k cap = true → zc d k = rolF (pS (bz s)) → R (.tuple (.mk [.agg (.mk [.string (sz (pS (bz s))), .bool true, .int .i64 (pW (bz s)), .int .i64 (pD (bz s)), .int .i64 (pQ (bz s)), .bool (pG (bz s))]), .int .i64 0])) else R (.tuple (.mk [.agg (.mk [.string (sz (pS (bz s))), .bool false, .int .i64 (pW (bz s)), .int .i64 0, .int .i64 0, .bool false]), .int .i64 0])) else R (.tuple (.mk [.agg (.mk [.string (ByteArray.mk #[]), .bool false, .int .i64 0, .int .i64 0, .int .i64 0, .bool false]), .int .i64 30])) else False) := by kernel_rfl
theorem ok35 : PureOK Tryz.prog 35 (sp1 s35) := by
 refine qure1 ok_G28 hmix fn35 lokf_none (Nat.le_of_ble_eq_true (by kernel_rfl)) fun s hc => ?_
 rw [DoesQ, v35]
 have hc : (s.size ≤ 9223372036854775807) := of_decide_eq_true hc
 try dsimp only [s35]
 refine c_t (decide_eq_true hc) (cond_intro (fun hv => cond_intro (fun hn k cap d _ _ => ?_) (fun hn => ?_)) (fun hv => ?_))
 ·simp [picV, pE, hv, hn]
 ·simp [picV, pE, hv, hn, pD, pQ, pG]
 ·have hn : pN (bz s) = false := by
   cases q : pN (bz s) with
   | false => rfl
   | true => rw [pN_vOK q] at hv; cases hv
  have a1 : pS (bz s) = [] := by rw [pS, if_neg (by rw [hv]; simp)]
  have a2 : pW (bz s) = 0 := by rw [pW, if_neg (by rw [hv]; simp)]
  have a3 : pD (bz s) = 0 := by rw [pD, if_neg (by rw [hn]; simp)]
  have a4 : pQ (bz s) = 0 := by rw [pQ, if_neg (by rw [hn]; simp)]
  have a5 : pG (bz s) = false := by rw [pG, hn]; rfl
  have a6 : pE (bz s) = 30 := by rw [pE, if_neg (by rw [hv]; simp)]
  rw [picV, a1, a2, a3, a4, a5, a6, hn, sz_nil]
def s31 (s : ByteArray) : Bool × Value := (decide (s.size ≤ 9223372036854775807), .bool (pN (bz s)))
theorem fn31 : Fn1 Tryz.prog 31 Tryz.f31 := ⟨Tryz.func31, by kernel_rfl, by kernel_rfl, by kernel_rfl⟩
theorem v31 (s : ByteArray) (R : Value → Prop) : bodyQ Tryz.prog G28 noL Tryz.f31 [Enc.enc s] (fun _ => none) 0 (fun v _ _ => R v) = ( bif decide (ByteArray.size s ≤ 9223372036854775807) then bif pN (bz s) then ∀ (k cap : Nat) (d : List Value), rowIOK d k cap = true → zc d k = rolF (pS (bz s)) → R (.bool true) else R (.bool false) else False) := by kernel_rfl
theorem ok31 : PureOK Tryz.prog 31 (sp1 s31) := by
 refine qure1 ok_G28 hmix fn31 lokf_none (Nat.le_of_ble_eq_true (by kernel_rfl)) fun s hc => ?_
 rw [DoesQ, v31]
 have hc : (s.size ≤ 9223372036854775807) := of_decide_eq_true hc
 try dsimp only [s31]
 refine c_t (decide_eq_true hc) (cond_intro (fun h k cap d _ _ => ?_) (fun h => ?_))
 ·rw [h]
 ·rw [h]
def G29 : Env := (G28.add 35 (sp1 s35))
theorem ok_G29 : EnvOK Tryz.prog G29 := env_add (ok_G28) ok35
def s33 (s : ByteArray) : Bool × Value := (decide (s.size ≤ 9223372036854775807), .int .i64 (pE (bz s)))
theorem fn33 : Fn1 Tryz.prog 33 Tryz.f33 := ⟨Tryz.func33, by kernel_rfl, by kernel_rfl, by kernel_rfl⟩
theorem v33 (s : ByteArray) (R : Value → Prop) : bodyQ Tryz.prog G29 noL Tryz.f33 [Enc.enc s] (fun _ => none) 0 (fun v _ _ => R v) = ( bif decide (ByteArray.size s ≤ 9223372036854775807) then R (.int .i64 (pE (bz s))) else False) := by kernel_rfl
theorem ok33 : PureOK Tryz.prog 33 (sp1 s33) := by
 refine qure1 ok_G29 hmix fn33 lokf_none (Nat.le_of_ble_eq_true (by kernel_rfl)) fun s hc => ?_
 rw [DoesQ, v33]
 have hc : (s.size ≤ 9223372036854775807) := of_decide_eq_true hc
 try dsimp only [s33]
 exact c_t (decide_eq_true hc) rfl
def s46 (s : ByteArray) : Bool × Value := (decide (s.size ≤ 9223372036854775807), .tuple ⟨[tyV (bz s), .int .i64 (pE (bz s))]⟩)
theorem fn46 : Fn1 Tryz.prog 46 Tryz.f46 := ⟨Tryz.func46, by kernel_rfl, by kernel_rfl, by kernel_rfl⟩
theorem v46 (s : ByteArray) (R : Value → Prop) : bodyQ Tryz.prog G29 noL Tryz.f46 [Enc.enc s] (fun _ => none) 0 (fun v _ _ => R v) = ( bif decide (ByteArray.size s ≤ 9223372036854775807) then bif pE (bz s) != 0 then R (.tuple (.mk [.agg (.mk [.int .i64 0, .int .i64 0, .int .i64 0, .bool false, .string (ByteArray.mk #[])]), .int .i64 (pE (bz s))])) else bif pN (bz s) then R (.tuple (.mk [.agg (.mk [.int .i64 1, .int .i64 (pD (bz s)), .int .i64 (pQ (bz s)), .bool false, .string (ByteArray.mk #[])]), .int .i64 0])) else R (.tuple (.mk [.agg (.mk [.int .i64 3, .int .i64 (pW (bz s)), .int .i64 0, .bool false, .string (ByteArray.mk #[])]), .int .i64 0])) else False) := by kernel_rfl
theorem ok46 : PureOK Tryz.prog 46 (sp1 s46) := by
 refine qure1 ok_G29 hmix fn46 lokf_none (Nat.le_of_ble_eq_true (by kernel_rfl)) fun s hc => ?_
 rw [DoesQ, v46]
 have hc : (s.size ≤ 9223372036854775807) := of_decide_eq_true hc
 try dsimp only [s46]
 rw [pE_ne]
 refine c_t (decide_eq_true hc) (cond_intro (fun h => ?_) (fun h => ?_))
 ·have h : vOK (bz s) = false := by simpa using h
  have hn : pN (bz s) = false := by
   cases q : pN (bz s) with
   | false => rfl
   | true => rw [pN_vOK q] at h; cases h
  simp [tyV, tyK, tyP, pQ, h, hn]
 ·have h : vOK (bz s) = true := by simpa using h
  refine cond_intro (fun hn => ?_) (fun hn => ?_)
  ·simp [tyV, tyK, tyP, pE, h, hn]
  ·simp [tyV, tyK, tyP, pE, pQ, h, hn]
def V50_0 : Int × Int × Int × Int × Int × Int × ByteArray × Bool × Int × Int × Int × Bool × Nat × Nat × Int × Int × Bool × Int × Int → List Value := fun (r1, r2, r3, n, D, i, s, nb, w, dg, q, sg, k, cap, dr, f, cr, fl, fm) => [I r1, I r2, I r3, .pointer (some ⟨5, 0, some 0⟩), I n, I D, I i]
def B50_0 : Int × Int × Int × Int × Int × Int × ByteArray × Bool × Int × Int × Int × Bool × Nat × Nat × Int × Int × Bool × Int × Int → List (Option Blk) := fun (r1, r2, r3, n, D, i, s, nb, w, dg, q, sg, k, cap, dr, f, cr, fl, fm) => [some ⟨[S s, B nb, I w, I dg, I q, B sg, .slice (some ⟨6, 0, some 1⟩) k cap, C8 dr, I f, B cr, C8 fl, I fm], 84, true⟩]
def S50_0 : LSpec (Int × Int × Int × Int × Int × Int × ByteArray × Bool × Int × Int × Int × Bool × Nat × Nat × Int × Int × Bool × Int × Int) where
 live := [2, 3, 4, 5, 7, 19, 20]
 mid := [5]
 n := 120
 dec vs bs := match vs, bs with | [.int .i64 r1, .int .i64 r2, .int .i64 r3, .pointer (some ⟨5, 0, some 0⟩), .int .i64 n, .int .i64 D, .int .i64 i], [some ⟨[.string s, .bool nb, .int .i64 w, .int .i64 dg, .int .i64 q, .bool sg, .slice (some ⟨6, 0, some 1⟩) k cap, .int .u8 dr, .int .i64 f, .bool cr, .int .u8 fl, .int .i64 fm], 84, true⟩] => some (r1, r2, r3, n, D, i, s, nb, w, dg, q, sg, k, cap, dr, f, cr, fl, fm) | _, _ => none
 pre := fun (r1, r2, r3, n, D, i, s, nb, w, dg, q, sg, k, cap, dr, f, cr, fl, fm) => decide (0 ≤ i ∧ i ≤ D ∧ D ≤ 9 ∧ n = tenZ i.toNat)
 fin := fun (r1, r2, r3, n, D, i, s, nb, w, dg, q, sg, k, cap, dr, f, cr, fl, fm) Z => Z (.exit 0) [I r1, I r2, I r3, .pointer (some ⟨5, 0, some 0⟩), I (tenZ D.toNat), I D, I D] [some ⟨[S s, B nb, I w, I dg, I q, B sg, .slice (some ⟨6, 0, some 1⟩) k cap, C8 dr, I f, B cr, C8 fl, I fm], 84, true⟩]
theorem r50_0 (r1 : Int) (r2 : Int) (r3 : Int) (n : Int) (D : Int) (i : Int) (s : ByteArray) (nb : Bool) (w : Int) (dg : Int) (q : Int) (sg : Bool) (k : Nat) (cap : Nat) (dr : Int) (f : Int) (cr : Bool) (fl : Int) (fm : Int) (jk : Tmps) (R : Exit → List Value → List (Option Blk) → Prop) : (codeQ Tryz.prog G28 noL Tryz.f50.ntmps (loopOf Tryz.f50 0) (tl S50_0.live (V50_0 (r1, r2, r3, n, D, i, s, nb, w, dg, q, sg, k, cap, dr, f, cr, fl, fm)) jk) (ml S50_0.mid (B50_0 (r1, r2, r3, n, D, i, s, nb, w, dg, q, sg, k, cap, dr, f, cr, fl, fm))) S50_0.n fun e t' m' _ => R e (List.map t' S50_0.live) (List.map m' S50_0.mid)) = ( bif decide (i < D) then R Exit.normal [.int .i64 r1, .int .i64 r2, .int .i64 r3, .pointer (some (.mk 5 0 (some 0))), .int .i64 (IntKind.wrap .i64 (n * 10)), .int .i64 D, .int .i64 (IntKind.wrap .i64 (i + 1))] [some (.mk [.string s, .bool nb, .int .i64 w, .int .i64 dg, .int .i64 q, .bool sg, .slice (some (.mk 6 0 (some 1))) k cap, .int .u8 dr, .int .i64 f, .bool cr, .int .u8 fl, .int .i64 fm] 84 true)] else R (Exit.exit 0) [.int .i64 r1, .int .i64 r2, .int .i64 r3, .pointer (some (.mk 5 0 (some 0))), .int .i64 n, .int .i64 D, .int .i64 i] [some (.mk [.string s, .bool nb, .int .i64 w, .int .i64 dg, .int .i64 q, .bool sg, .slice (some (.mk 6 0 (some 1))) k cap, .int .u8 dr, .int .i64 f, .bool cr, .int .u8 fl, .int .i64 fm] 84 true)]) := by kernel_rfl
theorem l50_0 : LOKf Tryz.prog (oneL 0 S50_0.h) Tryz.f50 := by
 refine lokf_one (h := S50_0.h) (by kernel_rfl) (loop_specQ ok_G28 hmix (by kernel_rfl) (lok_none _) S50_0 V50_0 B50_0 (fun (r1, r2, r3, n, D, i, s, nb, w, dg, q, sg, k, cap, dr, f, cr, fl, fm) => (D - i).toNat) ?_ ?_ ?_)
 ·intro vs bs s h
  simp only [S50_0] at h
  split at h
  all_goals first | (cases h; exact ⟨rfl, rfl⟩) | cases h | (split at h <;> first | (rename_i hq; cases h; have hq := Nat.eq_of_beq_eq_true hq; subst hq; exact ⟨rfl, rfl⟩) | cases h)
 ·exact fun _ _ _ h => h
 ·intro ⟨r1, r2, r3, n, D, i, s, nb, w, dg, q, sg, k, cap, dr, f, cr, fl, fm⟩ jk Z hp hf
  rw [r50_0]
  simp only [S50_0] at hp hf
  simp only [decide_eq_true_eq] at hp
  obtain ⟨h0, h1, h2, rfl⟩ := hp
  refine cond_intro (fun h => ?_) (fun h => ?_)
  ·have h := of_decide_eq_true h
   have ht := tenZ_le9 (n := i.toNat + 1) (by omega)
   have e : tenZ i.toNat * 10 = tenZ (i + 1).toNat := by rw [show (i + 1).toNat = i.toNat + 1 by omega, tenZ_succ]
   have t1 := tenZ_le (n := i.toNat) (by omega)
   rw [tenZ_succ] at ht
   rw [w64 (n := tenZ i.toNat * 10) (by omega), w64 (n := i + 1) (by omega), e]
   exact ⟨(r1, r2, r3, tenZ (i + 1).toNat, D, i + 1, s, nb, w, dg, q, sg, k, cap, dr, f, cr, fl, fm), rfl, rfl, by simp only [S50_0, decide_eq_true_eq]; exact ⟨by omega, by omega, by omega, trivial⟩, by simp only; omega, hf⟩
  ·have h := of_decide_eq_false h
   obtain rfl : i = D := by omega
   exact hf
def s50 (s : ByteArray) : Bool × Value := (decide (s.size ≤ 9223372036854775807), .tuple ⟨[.int .i64 (raL (bz s)), .int .i64 (raH (bz s)), .int .i64 (nE (bz s))]⟩)
theorem fn50 : Fn1 Tryz.prog 50 Tryz.f50 := ⟨Tryz.func50, by kernel_rfl, by kernel_rfl, by kernel_rfl⟩
theorem v50 (s : ByteArray) (R : Value → Prop) : bodyQ Tryz.prog G28 (oneL 0 S50_0.h) Tryz.f50 [Enc.enc s] (fun _ => none) 0 (fun v _ _ => R v) = ( bif decide (ByteArray.size s ≤ 9223372036854775807) then bif pN (bz s) then ∀ (k cap : Nat) (d : List Value), rowIOK d k cap = true → zc d k = rolF (pS (bz s)) → bif LSpec.pre S50_0 (0, 0, 0, 1, pD (bz s), 0, sz (pS (bz s)), true, pW (bz s), pD (bz s), pQ (bz s), pG (bz s), k, cap, drZ (bodyZ (pS (bz s))), Prod.snd (Prod.snd (nD (bodyZ (pS (bz s))))), crZ (pS (bz s)), fdFl (pS (bz s)), (↑(cntZ (mkGo (drZ (bodyZ (pS (bz s)))) false (bodyZ (pS (bz s)))) 100) : Int)) then ∀ (x : Tmps), bif pG (bz s) then R (.tuple (.mk [.int .i64 (IntKind.wrap .i64 (1 - tenZ (Int.toNat (pD (bz s))))), .int .i64 (IntKind.wrap .i64 (tenZ (Int.toNat (pD (bz s))) - 1)), .int .i64 0])) else R (.tuple (.mk [.int .i64 0, .int .i64 (IntKind.wrap .i64 (tenZ (Int.toNat (pD (bz s))) - 1)), .int .i64 0])) else False else R (.tuple (.mk [.int .i64 0, .int .i64 0, .int .i64 30])) else False) := by kernel_rfl
theorem ok50 : PureOK Tryz.prog 50 (sp1 s50) := by
 refine qure1 ok_G28 hmix fn50 l50_0 (Nat.le_of_ble_eq_true (by kernel_rfl)) fun s hc => ?_
 rw [DoesQ, v50]
 have hc : (s.size ≤ 9223372036854775807) := of_decide_eq_true hc
 try dsimp only [s50]
 refine c_t (decide_eq_true hc) (cond_intro (fun h k cap d _ _ => c_t ?_ fun x => ?_) (fun h => ?_))
 ·have hd := pD_rng h
  simp only [S50_0, decide_eq_true_eq]
  exact ⟨by omega, by omega, by omega, rfl⟩
 ·have hd := pD_rng h
  have ht := tenZ_le (n := (pD (bz s)).toNat) (by omega)
  rw [w64 (n := tenZ (pD (bz s)).toNat - 1) (by omega), w64 (n := 1 - tenZ (pD (bz s)).toNat) (by omega)]
  refine cond_intro (fun hg => ?_) (fun hg => ?_)
  ·have e : 1 - tenZ (pD (bz s)).toNat = 0 - (tenZ (pD (bz s)).toNat - 1) := by omega
   simp [raL, raH, nE, h, hg, e]
  ·simp [raL, raH, nE, h, hg]
 ·have hg : pG (bz s) = false := by simp [pG, h]
  simp [raL, raH, nE, h, hg]
theorem lets {r : Int} (h : 0 ≤ r ∧ r ≤ 5) : byteAt (ByteArray.mk #[100, 99, 118, 105, 115, 109]) r.toNat = rmk r := by
 rcases rmk_cases h with rfl | rfl | rfl | rfl | rfl | rfl <;> rfl
theorem rol_marks {l : List Int} (h : pN l = true) : NumL (pS l) ∧ okR (rolF (pS l)) ∧ (rolF (pS l)).map rmk = marksZ (pS l) := by
 have hv := pN_vOK h
 have e : pS l = exZ l := by rw [pS, if_pos hv]
 simp only [pN, Bool.and_eq_true] at h
 rw [e]
 have hL := (num_law (l := exZ l) fun c hm => (allK_spec (ex_kL l)).2 c (body_sub hm)).2 h.2
 have hm : (rolF (exZ l)).map rmk = marksZ (exZ l) := by
  rw [rolF, List.map_append, hL.roles, marksZ]
  congr 1
  cases crZ (exZ l) <;> rfl
 refine ⟨hL, ?_, hm⟩
 intro r hr
 rcases List.mem_append.1 hr with hr | hr
 ·exact hL.ok r hr
 ·cases hc : crZ (exZ l) with
  | false => rw [hc] at hr; cases hr
  | true =>
   rw [hc] at hr
   have : r = 4 ∨ r = 4 := by simpa using hr
   omega
theorem rol_len {l : List Int} (h : pN l = true) : (rolF (pS l)).length = (pS l).length := by
 have := congrArg List.length (rol_marks h).2.2
 rw [List.length_map, marks_len] at this
 exact this
def okRb (l : List Int) : Bool := l.all fun r => decide (0 ≤ r ∧ r ≤ 5)
theorem okRb_iff {l : List Int} : okRb l = true ↔ okR l := by simp [okRb, okR]
def V56_0 : ByteArray × Int × Rw × Nat × Nat × Int × Int × List Value → List Value := fun (r, e, o, k, cap, L, i, d2) => [S r, I e, o.v 200, .slice (some ⟨5, 0, some 1⟩) k cap, I L, I i]
def B56_0 : ByteArray × Int × Rw × Nat × Nat × Int × Int × List Value → List (Option Blk) := fun (r, e, o, k, cap, L, i, d2) => [some ⟨d2, 102, true⟩, o.b]
def S56_0 : LSpecA (ByteArray × Int × Rw × Nat × Nat × Int × Int × List Value) where
 live := [2, 3, 6, 19, 20, 21]
 mid := [5, 200]
 n := 210
 ap := [(.tmp 6, 200)]
 dec vs bs := match vs, bs with
  | [.string r, .int .i64 e, .slice none 0 0, .slice (some ⟨5, 0, some 1⟩) k cap, .int .i64 L, .int .i64 i], [some ⟨d2, 102, true⟩, none] => some (r, e, .nil, k, cap, L, i, d2)
  | [.string r, .int .i64 e, .slice (some ⟨200, 0, some 1⟩) m2 cap2, .slice (some ⟨5, 0, some 1⟩) k cap, .int .i64 L, .int .i64 i], [some ⟨d2, 102, true⟩, some ⟨d, 5, true⟩] => some (r, e, .own d m2 cap2, k, cap, L, i, d2)
  | _, _ => none
 pre := fun (r, e, o, k, cap, L, i, d2) => o.ok && (rowIOK d2 k cap && (okRb (zc d2 k) && decide (0 ≤ i ∧ i ≤ k ∧ k ≤ 100 ∧ L = k ∧ o.z.length ≤ i)))
 fin := fun (r, e, o, k, cap, L, i, d2) Z => (o.is = false → (zc d2 k).drop i.toNat = [] → Z (.exit 0) [S r, I e, .slice none 0 0, .slice (some ⟨5, 0, some 1⟩) k cap, I L, I k] [some ⟨d2, 102, true⟩, none]) ∧ ∀ d' m' cap', rowOK d' m' cap' = true → zc d' m' = o.z ++ ((zc d2 k).drop i.toNat).map rmk → Z (.exit 0) [S r, I e, .slice (some ⟨200, 0, some 1⟩) m' cap', .slice (some ⟨5, 0, some 1⟩) k cap, I L, I k] [some ⟨d2, 102, true⟩, some ⟨d', 5, true⟩]
theorem r56_0n (r : ByteArray) (e : Int) (k : Nat) (cap : Nat) (L : Int) (i : Int) (d2 : List Value) (jk : Tmps) (R : Exit → List Value → List (Option Blk) → Prop) : (codeQ Tryz.prog G29 noL Tryz.f56.ntmps (loopOf Tryz.f56 0) (tl S56_0.live (V56_0 (r, e, .nil, k, cap, L, i, d2)) jk) (ml S56_0.mid (B56_0 (r, e, .nil, k, cap, L, i, d2))) S56_0.n fun e t' m' _ => S56_0.out R e t' m') = ( bif decide (i < L) then bif decide (0 ≤ i ∧ i < (↑k : Int)) then bif isIntAt IntKind.i64 d2 (0 + Int.toNat i * 1) then bif decide (0 ≤ intAt d2 (0 + Int.toNat i * 1) ∧ intAt d2 (0 + Int.toNat i * 1) < 6) then ∀ (cap_1 : Nat) (tail : List Value), tailOK tail cap_1 1 1 = true → bif goodL [(218, 200)] d2 && (goodL [(218, 200)] (.int .u8 (byteAt (ByteArray.mk #[100, 99, 118, 105, 115, 109]) (Int.toNat (intAt d2 (0 + Int.toNat i * 1)))) :: tail) && true) && true then R Exit.normal [.string r, .int .i64 e, .slice (some (.mk 200 0 (some 1))) 1 cap_1, .slice (some (.mk 5 0 (some 1))) k cap, .int .i64 L, .int .i64 (IntKind.wrap .i64 (i + 1))] [some (.mk (rlbL [(218, 200)] d2) 102 true), some (.mk (rlbL [(218, 200)] (.int .u8 (byteAt (ByteArray.mk #[100, 99, 118, 105, 115, 109]) (Int.toNat (intAt d2 (0 + Int.toNat i * 1)))) :: tail)) 5 true)] else False else False else False else False else bif goodL [] d2 && true && true then R (Exit.exit 0) [.string r, .int .i64 e, .slice none 0 0, .slice (some (.mk 5 0 (some 1))) k cap, .int .i64 L, .int .i64 i] [some (.mk (rlbL [] d2) 102 true), none] else False) := by kernel_rfl
theorem r56_0o (r : ByteArray) (e : Int) (d : List Value) (m2 : Nat) (cap2 : Nat) (k : Nat) (cap : Nat) (L : Int) (i : Int) (d2 : List Value) (jk : Tmps) (R : Exit → List Value → List (Option Blk) → Prop) : (codeQ Tryz.prog G29 noL Tryz.f56.ntmps (loopOf Tryz.f56 0) (tl S56_0.live (V56_0 (r, e, .own d m2 cap2, k, cap, L, i, d2)) jk) (ml S56_0.mid (B56_0 (r, e, .own d m2 cap2, k, cap, L, i, d2))) S56_0.n fun e t' m' _ => S56_0.out R e t' m') = ( bif decide (i < L) then bif decide (0 ≤ i ∧ i < (↑k : Int)) then bif isIntAt IntKind.i64 d2 (0 + Int.toNat i * 1) then bif decide (0 ≤ intAt d2 (0 + Int.toNat i * 1) ∧ intAt d2 (0 + Int.toNat i * 1) < 6) then bif Nat.beq (List.length d) (cap2 * 1) && Nat.ble m2 cap2 && Nat.ble cap2 9223372036854775807 && true && fitsA (m2 + 1) 1 then ∀ (cap_1 : Nat) (tail : List Value), tailOK tail cap_1 (m2 + 1) 1 = true → bif goodL [(218, 200)] d2 && (goodL [(218, 200)] (List.take (m2 * 1) d ++ [.int .u8 (byteAt (ByteArray.mk #[100, 99, 118, 105, 115, 109]) (Int.toNat (intAt d2 (0 + Int.toNat i * 1))))] ++ tail) && true) && true then R Exit.normal [.string r, .int .i64 e, .slice (some (.mk 200 0 (some 1))) (m2 + 1) cap_1, .slice (some (.mk 5 0 (some 1))) k cap, .int .i64 L, .int .i64 (IntKind.wrap .i64 (i + 1))] [some (.mk (rlbL [(218, 200)] d2) 102 true), some (.mk (rlbL [(218, 200)] (List.take (m2 * 1) d ++ [.int .u8 (byteAt (ByteArray.mk #[100, 99, 118, 105, 115, 109]) (Int.toNat (intAt d2 (0 + Int.toNat i * 1))))] ++ tail)) 5 true)] else False else False else False else False else False else bif goodL [(200, 200)] d2 && (goodL [(200, 200)] d && true) && true then R (Exit.exit 0) [.string r, .int .i64 e, .slice (some (.mk 200 0 (some 1))) m2 cap2, .slice (some (.mk 5 0 (some 1))) k cap, .int .i64 L, .int .i64 i] [some (.mk (rlbL [(200, 200)] d2) 102 true), some (.mk (rlbL [(200, 200)] d) 5 true)] else False) := by kernel_rfl
theorem l56_0 : LOKf Tryz.prog (oneL 0 S56_0.hA) Tryz.f56 := by
 refine lokf_one (h := S56_0.hA) (by kernel_rfl) (loop_specA ok_G29 hmix (by kernel_rfl) (lok_none _) S56_0 V56_0 B56_0 (fun (r, e, o, k, cap, L, i, d2) => (k - i).toNat) ?_ ?_ ?_)
 ·intro vs bs s h
  simp only [S56_0] at h
  split at h
  all_goals first | (cases h; exact ⟨rfl, rfl⟩) | cases h | (split at h <;> first | (rename_i hq; cases h; have hq := Nat.eq_of_beq_eq_true hq; subst hq; exact ⟨rfl, rfl⟩) | cases h)
 ·exact fun ⟨r, e, o, k, cap, L, i, d2⟩ hp => by
   simp only [S56_0, Bool.and_eq_true] at hp
   have hi := rowIOK_iff.1 hp.2.1
   cases o with
   | nil => simp [V56_0, B56_0, S56_0, idsLt, idsLtB, idsL, ids, Rw.v, Rw.b, ids_plainL hi.plain]
   | own d m2 cap2 => simp [V56_0, B56_0, S56_0, idsLt, idsLtB, idsL, ids, Rw.v, Rw.b, ids_plainL hi.plain, ids_plainL (rowOK_iff.1 hp.1).plain]
 ·intro ⟨r, e, o, k, cap, L, i, d2⟩ jk Z hp hf
  simp only [S56_0] at hp hf
  cases o with
  | nil =>
   rw [r56_0n]
   simp only [Bool.and_eq_true, decide_eq_true_eq] at hp
   obtain ⟨-, hI, hK, hp⟩ := hp
   have hi := rowIOK_iff.1 hI
   have hk := okRb_iff.1 hK
   simp only [Rw.z, List.length_nil] at hp hf
   have e0 : 0 + i.toNat * 1 = i.toNat := by omega
   rw [e0]
   refine cond_intro (fun h => ?_) (fun h => ?_)
   ·have h := of_decide_eq_true h
    obtain ⟨a1, a3⟩ := hi.at hp.1 (by omega)
    rw [a3] at hf
    have hc : 0 ≤ intAt d2 i.toNat ∧ intAt d2 i.toNat ≤ 5 := hk _ (List.mem_of_mem_drop (by rw [a3]; exact List.mem_cons_self ..))
    rw [a1, w64 (n := i + 1) (by omega), lets hc]
    generalize intAt d2 i.toNat = c at *
    refine c_t (decide_eq_true (by omega)) (c_t rfl (c_t (decide_eq_true (by omega)) ?_))
    intro cap1 tail ht
    obtain ⟨h1, h2⟩ : RowP (Value.int IntKind.u8 (rmk c) :: tail) 1 cap1 ∧ zc (Value.int IntKind.u8 (rmk c) :: tail) 1 = [rmk c] := row_new [rmk c] ht
    have hl1 := zc_length h1
    generalize Value.int IntKind.u8 (rmk c) :: tail = d' at *
    refine c_t (by rw [goodL_plain hi.plain, goodL_plain h1.plain]; rfl) ?_
    rw [rlbL_plain _ hi.plain, rlbL_plain _ h1.plain]
    refine ⟨(r, e, .own d' (1) cap1, k, cap, L, i + 1, d2), rfl, rfl, by simp only [S56_0, Bool.and_eq_true, decide_eq_true_eq]; exact ⟨rowOK_iff.2 h1, hI, hK, by simp only [Rw.z, hl1]; omega⟩, by simp only; omega, ?_⟩
    simp only [S56_0]
    exact ⟨fun q => (by cases q), fun d'' m'' cap'' g1 g2 => hf.2 d'' m'' cap'' g1 (by rw [g2]; simp [Rw.z, h2])⟩
   ·have h := of_decide_eq_false h
    rw [hi.end (by omega)] at hf
    obtain rfl : i = k := by omega
    refine c_t (by rw [goodL_plain hi.plain]; rfl) ?_
    rw [rlbL_plain _ hi.plain]
    exact hf.1 rfl rfl
  | own d m2 cap2 =>
   rw [r56_0o]
   simp only [Bool.and_eq_true, decide_eq_true_eq] at hp
   obtain ⟨hR, hI, hK, hp⟩ := hp
   have hi := rowIOK_iff.1 hI
   have hk := okRb_iff.1 hK
   have hr := rowOK_iff.1 hR
   have hzl := zc_length hr
   simp only [Rw.z, hzl] at hp hf
   have e0 : 0 + i.toNat * 1 = i.toNat := by omega
   rw [e0]
   refine cond_intro (fun h => ?_) (fun h => ?_)
   ·have h := of_decide_eq_true h
    obtain ⟨a1, a3⟩ := hi.at hp.1 (by omega)
    rw [a3] at hf
    have hc : 0 ≤ intAt d2 i.toNat ∧ intAt d2 i.toNat ≤ 5 := hk _ (List.mem_of_mem_drop (by rw [a3]; exact List.mem_cons_self ..))
    rw [a1, w64 (n := i + 1) (by omega), lets hc]
    generalize intAt d2 i.toNat = c at *
    refine c_t (decide_eq_true (by omega)) (c_t rfl (c_t (decide_eq_true (by omega)) ?_))
    refine c_t (hr.ask (k := 1) (by omega)) (fun cap1 tail ht => ?_)
    obtain ⟨h1, h2⟩ := hr.app1 (rmk c) ht
    have hl1 := zc_length h1
    generalize List.take (m2 * 1) d ++ [Value.int IntKind.u8 (rmk c)] ++ tail = d' at *
    refine c_t (by rw [goodL_plain hi.plain, goodL_plain h1.plain]; rfl) ?_
    rw [rlbL_plain _ hi.plain, rlbL_plain _ h1.plain]
    refine ⟨(r, e, .own d' (m2 + 1) cap1, k, cap, L, i + 1, d2), rfl, rfl, by simp only [S56_0, Bool.and_eq_true, decide_eq_true_eq]; exact ⟨rowOK_iff.2 h1, hI, hK, by simp only [Rw.z, hl1]; omega⟩, by simp only; omega, ?_⟩
    simp only [S56_0]
    exact ⟨fun q => (by cases q), fun d'' m'' cap'' g1 g2 => hf.2 d'' m'' cap'' g1 (by rw [g2]; simp [Rw.z, h2])⟩
   ·have h := of_decide_eq_false h
    rw [hi.end (by omega)] at hf
    obtain rfl : i = k := by omega
    refine c_t (by rw [goodL_plain hi.plain, goodL_plain hr.plain]; rfl) ?_
    rw [rlbL_plain _ hi.plain, rlbL_plain _ hr.plain]
    exact hf.2 d m2 cap2 hR (by simp)
def s56 (s : ByteArray) : Bool × Value := (decide (s.size ≤ 9223372036854775807), .tuple ⟨[.string (sz (roZ (bz s))), .int .i64 (nE (bz s))]⟩)
theorem fn56 : Fn1 Tryz.prog 56 Tryz.f56 := ⟨Tryz.func56, by kernel_rfl, by kernel_rfl, by kernel_rfl⟩
theorem v56 (s : ByteArray) (R : Value → Prop) : bodyQ Tryz.prog G29 (oneL 0 S56_0.hA) Tryz.f56 [Enc.enc s] (fun _ => none) 0 (fun v _ _ => R v) = ( bif decide (ByteArray.size s ≤ 9223372036854775807) then bif pN (bz s) then ∀ (k cap : Nat) (d : List Value), rowIOK d k cap = true → zc d k = rolF (pS (bz s)) → bif goodL [] d && true && true && (idsLt 210 (rlbL [] d) && true) then bif LSpec.pre (LSpecA.toLSpec S56_0) (ByteArray.mk #[], 0, Rw.nil, k, cap, natO k, 0, rlbL [] d) then (Rw.is Rw.nil = false → List.drop (Int.toNat 0) (zc (rlbL [] d) k) = [] → bif idsLt 210 (rlbL [] d) && true then ∀ (x : Tmps), R (.tuple (.mk [.string ByteArray.empty, .int .i64 0])) else False) ∧ ∀ (d' : List Value) (m' cap' : Nat), rowOK d' m' cap' = true → zc d' m' = Rw.z Rw.nil ++ List.map rmk (List.drop (Int.toNat 0) (zc (rlbL [] d) k)) → bif idsLt 210 (rlbL [] d) && (idsLt 210 d' && true) then ∀ (x : Tmps), bif bytesOK d' 0 m' then R (.tuple (.mk [.string (bytesOf d' 0 m'), .int .i64 0])) else False else False else False else False else R (.tuple (.mk [.string (ByteArray.mk #[]), .int .i64 30])) else False) := by kernel_rfl
theorem ok56 : PureOK Tryz.prog 56 (sp1 s56) := by
 refine qure1 ok_G29 hmix fn56 l56_0 (Nat.le_of_ble_eq_true (by kernel_rfl)) fun s hc => ?_
 rw [DoesQ, v56]
 have hc : (s.size ≤ 9223372036854775807) := of_decide_eq_true hc
 try dsimp only [s56]
 refine c_t (decide_eq_true hc) (cond_intro (fun h k cap d r1 r2 => ?_) (fun h => ?_))
 ·have r1' := rowIOK_iff.1 r1
  obtain ⟨-, m2, m3⟩ := rol_marks h
  have hl := rol_len h
  have hs := (pS_len s).2
  have hz := zi_length r1'
  simp only [r1'.rlb]
  have gi := ids_plainB r1'.plain
  rw [r2] at hz
  have eO : roZ (bz s) = marksZ (pS (bz s)) := by rw [roZ, if_pos h]
  refine c_t (by rw [r1'.good, gi]; rfl) (c_t ?_ ⟨fun _ hnil => c_t (by rw [gi]; rfl) fun x => ?_, fun d' m' cap' g1 g2 => c_t (by rw [gi, ids_plainB (rowOK_iff.1 g1).plain]; rfl) fun x => c_t (rowOK_iff.1 g1).str.1 ?_⟩)
  ·simp only [S56_0, Rw.ok, Rw.z, Bool.true_and, Bool.and_eq_true, decide_eq_true_eq]
   exact ⟨r1, okRb_iff.2 (by rw [r2]; exact m2), decide_eq_true ⟨by omega, by omega, by omega, natO_eq _, by simp⟩⟩
  ·have : rolF (pS (bz s)) = [] := by rw [← r2]; exact hnil
   rw [eO, ← m3, this]
   simp [nE, h]
   rfl
  ·rw [(rowOK_iff.1 g1).str.2, g2, r2, eO]
   show Value.tuple ⟨[.string (sz (List.map rmk (rolF (pS (bz s))))), _]⟩ = _
   rw [m3]
   simp [nE, h]
 ·simp [roZ, nE, h, sz_nil]
end Go.Px
end
noncomputable section
namespace Go.Px
open Go Go.Ab Go.Proofs Go.Shelf Go.RowKit Go.Sort Go.Lib
theorem laysM284 : LaysM.n284 Tryz.prog Tryz.lays172_ren := { Tryz.lays172 with
 i0 := by kernel_rfl
 i3 := by kernel_rfl
 i4 := by kernel_rfl
 i5 := by kernel_rfl
 i9 := by kernel_rfl
 i46 := by kernel_rfl
 i53 := by kernel_rfl
 i212 := by kernel_rfl
 m17 := by kernel_rfl }
theorem tab_pow {w : World} (h : TabsIn w.heap.size w) : Lib.TabIs Tryz.prog w "internal/strconv.uint64pow10" .u64 Lib.pow10Tab := by
 obtain ⟨_, ty, fr, h2⟩ := h 3 _ rfl
 unfold Lib.TabIs World.var?
 have e : Tryz.prog.globalNamed "internal/strconv.uint64pow10" = some 3 := by kernel_rfl
 rw [e]
 simp only [Option.bind_some, h2]
 rfl
theorem fmt_small (u : Nat) (hu : u < 100) (w : World) : Calls Tryz.prog 115 #[.int .u64 u, .int .i64 10] w fun e w' => e = .returned (.string ⟨(Lib.decDigits u).toArray⟩) ∧ w' = w := by
 have mixed := Tryz.lays172.mixed
 have e142 : ∀ args w, (callFunc 142 args).run Tryz.prog w = .ok (.enter 142 args) w := enters_of Tryz.func142 (by kernel_rfl) rfl
 have hw : IntKind.i64.wrap (u : Int) = (u : Int) := by rw [IntKind.wrap_i64]; omega
 go_enter Tryz.func115, Tryz.ntmps115
 go_wp2_with (go_at_fn 142; refine (Any.internal_strconv_small (ρ := Tryz.lays172_ren) { Tryz.lays172 with } u hu _).mono ?_; rintro e w' ⟨rfl, rfl⟩)
 go_ret
 exact ⟨rfl, rfl⟩
set_option maxHeartbeats 6400000 in
set_option maxRecDepth 100000 in
theorem fmt_big (u : Nat) (hu : 100 ≤ u) (hu64 : u < 18446744073709551616) (w : World) (htab : Lib.TabIs Tryz.prog w "internal/strconv.uint64pow10" .u64 Lib.pow10Tab) :
  Calls Tryz.prog 115 #[.int .u64 u, .int .i64 10] w fun e w' => e = .returned (.string ⟨(Lib.decDigits u).toArray⟩) ∧ ∃ k os, w' = grow (w.drewN k) os := by
 have mixed := Tryz.lays172.mixed
 have e143 : ∀ args w, (callFunc 143 args).run Tryz.prog w = .ok (.enter 143 args) w := enters_of Tryz.func143 (by kernel_rfl) rfl
 have e144 : ∀ args w, (callFunc 144 args).run Tryz.prog w = .ok (.enter 144 args) w := enters_of Tryz.func144 (by kernel_rfl) rfl
 have hu1 : 1 ≤ u := by omega
 have hnd20 : Lib.nDigits u ≤ 20 := by have := Lib.numDigits_eq u hu1 hu64; split at this <;> omega
 have iu : (100 : Int) ≤ (u : Int) := by omega
 have t148 := Tryz.underlying148
 have hal : Tryz.prog.arrayLen 148 = 24 := by simp [Program.arrayLen, Tryz.underlying148]
 have hsl : ∀ W, (Instr.sliceAt 148 (.pointer (some ⟨w.heap.size, 0, none⟩)) none (some (.int .i64 (Lib.nDigits u : Int))) none).run Tryz.prog W = .ok (.slice (some ⟨w.heap.size, 0, none⟩) (Lib.nDigits u) 24) W := fun W => by
  rw [run_sliceAt_array_h W 148 ⟨w.heap.size, 0, none⟩ (by simp [Program.arrayLen, Program.elem, Tryz.underlying148]) .i64 (Lib.nDigits u : Int) (by omega) (by rw [hal]; omega)]
  go_simp
 have hH0 := Lib.holds_zero0 w 148 (Lib.nDigits u) (by omega)
 have hfmt := Any.internal_strconv_formatBase10 (ρ := Tryz.lays172_ren) { Tryz.lays172 with } w.heap.size 0 24 u (Array.replicate (Lib.nDigits u) 0) (w.alloc (.cells Lib.zeros24 148)) hH0 (by rw [Array.size_replicate]; exact Lib.lt_pow_nDigits u) hu64 (by rw [Array.size_replicate]; omega)
 rw [Array.size_replicate] at hfmt
 have HH0 := Lib.hid hH0
 clear hH0 hal
 go_enter Tryz.func115, Tryz.ntmps115
 go_wp2_with (first
  | (go_at_fn 143; refine (Any.internal_strconv_numDigits (ρ := Tryz.lays172_ren) laysM284 u hu1 hu64 _ (Lib.tabIs_alloc htab _)).mono ?_; rintro e w' ⟨rfl, rfl⟩))
 go_at_fn 144
 refine hfmt.mono ?_
 rintro e w' ⟨rfl, k, v', dk, rfl, hF⟩
 have hcv : (convert 42 9 (.slice (some ⟨w.heap.size, 0, none⟩) (Lib.nDigits u) 24)).run Tryz.prog ((putRow (fun (b : UInt8) => Value.int .u8 (b.toNat : Int)) (w.alloc (.cells Lib.zeros24 148)) w.heap.size 0 dk).drewN k) = .ok (.string ⟨(Lib.decDigits u).toArray⟩) ((putRow (fun (b : UInt8) => Value.int .u8 (b.toNat : Int)) (w.alloc (.cells Lib.zeros24 148)) w.heap.size 0 dk).drewN k) := by
  have h := run_convert_bytes_back (P := Tryz.prog) ((putRow (fun (b : UInt8) => Value.int .u8 (b.toNat : Int)) (w.alloc (.cells Lib.zeros24 148)) w.heap.size 0 dk).drewN k) 42 9 5 ⟨w.heap.size, 0, none⟩ 24 (Lib.decDigits u) Tryz.underlying42 Tryz.underlying5 Tryz.underlying9 (fun j hj => by
   rw [Lib.row_is_numeral hF j hj, Lib.add_plain, World.cell?_drewN]
   exact cell?_putRow (fun (b : UInt8) => Value.int .u8 (b.toNat : Int)) _ w.heap.size 0 _ dk HH0.out (by rw [hF.size, Array.size_replicate]) j (by rw [hF.size]; rw [Lib.decDigits_length] at hj; exact hj))
  rw [Lib.decDigits_length] at h
  exact h
 go_wp2
 go_ret
 obtain ⟨os, eo⟩ := Lib.fin_at w (.cells Lib.zeros24 148) dk k 0
 exact ⟨rfl, k, os, eo⟩
def decZ (n : Int) : List Int := zl (Lib.decDigits n.toNat)
theorem c87 : Callable Tryz.prog 87 := cal Tryz.func87 (by kernel_rfl) (by kernel_rfl)
theorem fmt_all (u : Nat) (hu64 : u < 18446744073709551616) (w : World) (ht : TabsIn w.heap.size w) :
  Calls Tryz.prog 115 #[.int .u64 u, .int .i64 10] w fun e w' => e = .returned (.string ⟨(Lib.decDigits u).toArray⟩) ∧ RowKit.Below w.heap.size w w' := by
 by_cases hu : u < 100
 ·exact (fmt_small u hu w).mono fun e w' ⟨h1, h2⟩ => ⟨h1, below_of_eq h2⟩
 ·exact (fmt_big u (by omega) hu64 w (tab_pow ht)).mono fun e w' ⟨h1, k, os, h2⟩ => ⟨h1, by rw [h2]; exact Lib.below_grow _ _ (Nat.le_refl _) _ _⟩
theorem fmt87 (u : Nat) (hu64 : u < 18446744073709551616) (w : World) (ht : TabsIn w.heap.size w) :
  Calls Tryz.prog 87 #[.int .u64 u, .int .i64 10] w fun e w' => e = .returned (.string ⟨(Lib.decDigits u).toArray⟩) ∧ RowKit.Below w.heap.size w w' := by
 have mixed := Tryz.lays172.mixed
 have e115 : ∀ args w, (callFunc 115 args).run Tryz.prog w = .ok (.enter 115 args) w := enters_of Tryz.func115 (by kernel_rfl) rfl
 go_enter Tryz.func87, Tryz.ntmps87
 go_wp2_with (go_at_fn 115; refine (fmt_all u hu64 _ ht).mono ?_; rintro e w' ⟨rfl, hb⟩)
 go_ret
 exact ⟨rfl, hb⟩
def isTen (b : Int) : Bool := b == 10
def s87 (n : U64) (b : Int) : Bool × Value := (decide (0 ≤ n.n ∧ n.n < 18446744073709551616) && isTen b, .string (sz (decZ n.n)))
theorem ok87 : PureOK Tryz.prog 87 (sp2 s87) := shelf2 c87 fun n b hc w ht => by
 simp only [s87, isTen, Bool.and_eq_true, decide_eq_true_eq, beq_iff_eq] at hc
 obtain ⟨⟨h0, h1⟩, rfl⟩ := hc
 have e : Enc.enc n = Value.int .u64 (n.n.toNat : Int) := by
  show Value.int .u64 n.n = _
  rw [Int.toNat_of_nonneg h0]
 rw [e]
 refine (fmt87 n.n.toNat (by omega) w ht).mono fun e w' ⟨h4, h5⟩ => ⟨?_, h5⟩
 rw [h4, sz_zl]
 rfl
end Go.Px
end
section
namespace Go.Px
open Go Go.Ab Go.Proofs
def dval (l : List Int) : Int := numZ l 0
theorem numZ_acc : ∀ (l : List Int) (a : Int), numZ l a = a * tenZ l.length + numZ l 0
 | [], a => by simp [numZ, tenZ]
 | c :: r, a => by
  rw [numZ, numZ_acc r, numZ, numZ_acc r (0 * 10 + (c - 48)), List.length_cons, tenZ_succ, Int.add_mul, Int.add_mul, Int.mul_assoc, Int.mul_comm 10 (tenZ r.length)]
  omega
theorem dval_app (a b : List Int) : dval (a ++ b) = dval a * tenZ b.length + dval b := by
 have : ∀ (l : List Int) (x : Int), numZ (l ++ b) x = numZ b (numZ l x) := by
  intro l
  induction l with
  | nil => exact fun _ => rfl
  | cons c r ih => exact fun x => ih _
 rw [dval, this, numZ_acc b]
 rfl
theorem dval_snoc (l : List Int) (c : Int) : dval (l ++ [c]) = dval l * 10 + (c - 48) := by
 rw [dval_app]
 simp [dval, numZ, tenZ]
theorem dgL_app {a b : List Int} : dgL (a ++ b) = true ↔ dgL a = true ∧ dgL b = true := by simp [dgL]
theorem dgL_cons {c : Int} {l : List Int} : dgL (c :: l) = true ↔ (48 ≤ c ∧ c ≤ 57) ∧ dgL l = true := by simp [dgL]
theorem tenZ_pos (n : Nat) : 0 < tenZ n := by unfold tenZ; exact Int.pow_pos (by decide)
theorem dval_rng : ∀ l : List Int, dgL l = true → 0 ≤ dval l ∧ dval l < tenZ l.length
 | [], _ => by simp [dval, numZ, tenZ]
 | c :: r, h => by
  obtain ⟨h1, h2⟩ := dgL_cons.1 h
  have ih := dval_rng r h2
  have e : dval (c :: r) = (c - 48) * tenZ r.length + dval r := by
   have := dval_app [c] r
   simpa [dval, numZ] using this
  have hp := tenZ_pos r.length
  rw [e, List.length_cons, tenZ_succ]
  have h3 : (c - 48) * tenZ r.length ≤ 9 * tenZ r.length := Int.mul_le_mul_of_nonneg_right (by omega) (by omega)
  have h4 : 0 ≤ (c - 48) * tenZ r.length := Int.mul_nonneg (by omega) (by omega)
  omega
theorem dval_head {c : Int} {r : List Int} (h : dgL (c :: r) = true) (hc : c ≠ 48) : tenZ r.length ≤ dval (c :: r) := by
 obtain ⟨h1, h2⟩ := dgL_cons.1 h
 have ih := dval_rng r h2
 have e : dval (c :: r) = (c - 48) * tenZ r.length + dval r := by
  have := dval_app [c] r
  simpa [dval, numZ] using this
 have hp := tenZ_pos r.length
 have h3 : 1 * tenZ r.length ≤ (c - 48) * tenZ r.length := Int.mul_le_mul_of_nonneg_right (by omega) (by omega)
 rw [e]
 omega
theorem dec_spec (u : Nat) : dgL (zl (Lib.decDigits u)) = true ∧ dval (zl (Lib.decDigits u)) = u := by
 induction u using Nat.strongRecOn with
 | _ u ih =>
  rw [Lib.decDigits]
  split
  ·rename_i h
   have e : (((UInt8.ofNat (48 + u)).toNat : Nat) : Int) = 48 + u := by
    simp only [UInt8.toNat_ofNat']
    omega
   simp only [zl, List.map_cons, List.map_nil, e]
   exact ⟨by simp [dgL]; omega, by simp [dval, numZ]; omega⟩
  ·rename_i h
   obtain ⟨h1, h2⟩ := ih (u / 10) (by omega)
   have e : (((UInt8.ofNat (48 + u % 10)).toNat : Nat) : Int) = 48 + (u % 10 : Nat) := by
    simp only [UInt8.toNat_ofNat']
    omega
   have es : zl (Lib.decDigits (u / 10) ++ [UInt8.ofNat (48 + u % 10)]) = zl (Lib.decDigits (u / 10)) ++ [48 + ((u % 10 : Nat) : Int)] := by
    simp only [zl, List.map_append, List.map_cons, List.map_nil, e]
   rw [es]
   refine ⟨dgL_app.2 ⟨h1, by simp [dgL]; omega⟩, ?_⟩
   rw [dval_snoc, h2]
   omega
theorem digZ_val' : ∀ (n : Nat) (l : List Int), l.length = n → dgL l = true → digZ (dval l) n = l
 | 0, l, hl, _ => by rw [List.length_eq_zero_iff.1 hl]; rfl
 | n + 1, l, hl, h => by
  rcases List.eq_nil_or_concat l with rfl | ⟨a, c, rfl⟩
  ·cases hl
  ·rw [List.concat_eq_append] at h hl ⊢
   obtain ⟨h1, h2⟩ := dgL_app.1 h
   have h2 := (dgL_cons.1 h2).1
   rw [digZ, dval_snoc]
   have e1 : (dval a * 10 + (c - 48)) / 10 = dval a := by omega
   have e2 : 48 + (dval a * 10 + (c - 48)) % 10 = c := by omega
   rw [e1, e2, digZ_val' n a (by simpa using hl) h1]
theorem digZ_val (l : List Int) (h : dgL l = true) : digZ (dval l) l.length = l := digZ_val' _ l rfl h
theorem digZ_drop : ∀ (d k : Nat) (v : Int), d ≤ k → (digZ v k).drop (k - d) = digZ v d
 | 0, k, v, _ => by
  rw [Nat.sub_zero]
  exact List.drop_eq_nil_of_le (by rw [digZ_len]; exact Nat.le_refl _)
 | d + 1, 0, v, h => by omega
 | d + 1, k + 1, v, h => by
  rw [digZ, digZ, List.drop_append_of_le_length (by rw [digZ_len]; omega), show k + 1 - (d + 1) = k - d by omega, digZ_drop d k _ (by omega)]
theorem digZ_last {l : List Int} (h : dgL l = true) {d : Nat} (hd : d ≤ l.length) : l.drop (l.length - d) = digZ (dval l) d := by
 have := digZ_drop d l.length (dval l) hd
 rwa [digZ_val l h] at this
theorem digZ_mod : ∀ (d : Nat) (v : Int), 0 ≤ v → digZ (v % tenZ d) d = digZ v d
 | 0, _, _ => rfl
 | d + 1, v, h => by
  obtain ⟨n, rfl⟩ : ∃ n : Nat, v = n := ⟨v.toNat, by omega⟩
  have et : tenZ (d + 1) = ((10 * 10 ^ d : Nat) : Int) := by
   unfold tenZ
   rw [Nat.mul_comm, ← Nat.pow_succ]
   simp
  have ed : tenZ d = ((10 ^ d : Nat) : Int) := by unfold tenZ; simp
  have e1 : ((n : Int) % tenZ (d + 1)) / 10 = ((n : Int) / 10) % tenZ d := by
   rw [et, ed]
   have := Nat.mod_mul_right_div_self n 10 (10 ^ d)
   exact_mod_cast this
  have e2 : ((n : Int) % tenZ (d + 1)) % 10 = (n : Int) % 10 := by
   rw [et]
   have := Nat.mod_mul_right_mod n 10 (10 ^ d)
   exact_mod_cast this
  rw [digZ, digZ, e1, e2, digZ_mod d _ (by omega)]
theorem dval_take {l : List Int} (h : dgL l = true) (k : Nat) : dval (l.take (l.length - k)) = dval l / tenZ k := by
 by_cases hk : k ≤ l.length
 ·have e := List.take_append_drop (l.length - k) l
  have hh : dgL (l.take (l.length - k) ++ l.drop (l.length - k)) = true := by rw [e]; exact h
  have h2 := (dgL_app.1 hh).2
  have r := dval_rng _ h2
  have el : (l.drop (l.length - k)).length = k := by rw [List.length_drop]; omega
  have ev := dval_app (l.take (l.length - k)) (l.drop (l.length - k))
  rw [e, el] at ev
  rw [el] at r
  have hp := tenZ_pos k
  rw [ev, Int.add_comm, Int.add_mul_ediv_right _ _ (by omega), Int.ediv_eq_zero_of_lt r.1 r.2, Int.zero_add]
 ·have : l.length - k = 0 := by omega
  rw [this, List.take_zero]
  have r := dval_rng l h
  have hle : tenZ l.length ≤ tenZ k := by
   unfold tenZ
   have : (10 : Nat) ^ l.length ≤ 10 ^ k := Nat.pow_le_pow_right (by decide) (by omega)
   exact_mod_cast this
  rw [Int.ediv_eq_zero_of_lt r.1 (by omega)]
  rfl
theorem dval_rep (k : Nat) : dval (rep1 48 k) = 0 ∧ dgL (rep1 48 k) = true := by
 induction k with
 | zero => exact ⟨rfl, rfl⟩
 | succ k ih =>
  have e : rep1 48 (k + 1) = 48 :: rep1 48 k := rfl
  rw [e]
  refine ⟨?_, dgL_cons.2 ⟨by omega, ih.2⟩⟩
  have := dval_app [48] (rep1 48 k)
  rw [ih.1] at this
  rw [List.singleton_append] at this
  rw [this]
  simp [dval, numZ]
theorem dval_strip : ∀ l : List Int, dval (l.dropWhile (· == 48)) = dval l
 | [] => rfl
 | c :: r => by
  rw [List.dropWhile_cons]
  cases h : c == 48 with
  | false => simp
  | true =>
   rw [if_pos rfl, dval_strip r]
   have := dval_app [c] r
   rw [eq_of_beq h] at this ⊢
   simp [dval, numZ]
theorem dgL_strip {l : List Int} (h : dgL l = true) : dgL (l.dropWhile (· == 48)) = true := by
 simp only [dgL, List.all_eq_true] at h ⊢
 exact fun c hc => h c ((List.dropWhile_sublist _).subset hc)
theorem strip_head : ∀ l : List Int, l.dropWhile (· == 48) = [] ∨ ∃ c r, l.dropWhile (· == 48) = c :: r ∧ c ≠ 48
 | [] => .inl rfl
 | c :: r => by
  rw [List.dropWhile_cons]
  cases h : c == 48 with
  | true => rw [if_pos rfl]; exact strip_head r
  | false => exact .inr ⟨c, r, by simp, by simpa using h⟩
theorem tenZ_mono {a b : Nat} (h : a ≤ b) : tenZ a ≤ tenZ b := by
 unfold tenZ
 have : (10 : Nat) ^ a ≤ 10 ^ b := Nat.pow_le_pow_right (by decide) h
 exact_mod_cast this
theorem strip_len {l : List Int} (h : dgL l = true) (d : Nat) : (l.dropWhile (· == 48)).length ≤ d ↔ dval l < tenZ d := by
 have hs := dgL_strip h
 have r := dval_rng _ hs
 rw [dval_strip] at r
 constructor
 ·intro hl
  have := tenZ_mono hl
  omega
 ·intro hv
  rcases strip_head l with e | ⟨c, t, e, hc⟩
  ·rw [e]; exact Nat.zero_le _
  ·have := dval_head (e ▸ hs) hc
   rw [← e, dval_strip] at this
   rw [e, List.length_cons]
   have hlt : ¬ d ≤ t.length := fun q => by have := tenZ_mono q; omega
   omega
theorem strip_nil {l : List Int} (h : dgL l = true) : l.dropWhile (· == 48) = [] ↔ dval l = 0 := by
 have r := strip_len h 0
 have hv := (dval_rng l h).1
 have e : tenZ 0 = 1 := rfl
 rw [e, Nat.le_zero, List.length_eq_zero_iff] at r
 rw [r]
 omega
theorem dval_dig : ∀ (d : Nat) (v : Int), 0 ≤ v → dval (digZ v d) = v % tenZ d
 | 0, v, _ => by simp [digZ, dval, numZ, tenZ]
 | d + 1, v, h => by
  have e := digZ_mod (d + 1) v h
  have r := dval_rng (digZ v (d + 1)) (digZ_dg _ _)
  rw [digZ, dval_snoc, dval_dig d _ (by omega)]
  obtain ⟨n, rfl⟩ : ∃ n : Nat, v = n := ⟨v.toNat, by omega⟩
  have et : tenZ (d + 1) = ((10 * 10 ^ d : Nat) : Int) := by
   unfold tenZ
   rw [Nat.mul_comm, ← Nat.pow_succ]
   simp
  have ed : tenZ d = ((10 ^ d : Nat) : Int) := by unfold tenZ; simp
  have e1 : ((n : Int) % tenZ (d + 1)) / 10 = ((n : Int) / 10) % tenZ d := by
   rw [et, ed]
   have := Nat.mod_mul_right_div_self n 10 (10 ^ d)
   exact_mod_cast this
  have e2 : ((n : Int) % tenZ (d + 1)) % 10 = (n : Int) % 10 := by
   rw [et]
   have := Nat.mod_mul_right_mod n 10 (10 ^ d)
   exact_mod_cast this
  omega
end Go.Px
end
noncomputable section
namespace Go.Px
open Go Go.Ab Go.Proofs Go.Shelf
def G30 : Env := ((((((G29.add 31 (sp1 s31)).add 33 (sp1 s33)).add 46 (sp1 s46)).add 50 (sp1 s50)).add 56 (sp1 s56)).add 87 (sp2 s87))
theorem ok_G30 : EnvOK Tryz.prog G30 := env_add (env_add (env_add (env_add (env_add (env_add (ok_G29) ok31) ok33) ok46) ok50) ok56) ok87
def fmL (s : ByteArray) (nb : Bool) (w d sc : Int) (sg : Bool) (x k cap : Nat) (dr f : Int) (cr : Bool) (fl fm : Int) : List Value :=
 [.string s, .bool nb, .int .i64 w, .int .i64 d, .int .i64 sc, .bool sg, .slice (some ⟨x, 0, some 1⟩) k cap, .int .u8 dr, .int .i64 f, .bool cr, .int .u8 fl, .int .i64 fm]
def vwF (c : List Value) : Lk := fun j => match Nat.beq j 0 with | true => some ⟨c, 84, false⟩ | false => none
def vwF2 (c d : List Value) : Lk := fun j => match Nat.beq j 0 with | true => some ⟨c, 84, false⟩ | false => match Nat.beq j 1 with | true => some ⟨d, 102, false⟩ | false => none
def rho2 (a x : Nat) : Nat → Nat := fun j => match j with | 0 => a | _ => x
theorem sub_F {m : Lk} {a x k cap : Nat} {s : ByteArray} {nb : Bool} {w d sc : Int} {sg : Bool} {dr f : Int} {cr : Bool} {fl fm : Int} {own : Bool} (ha : m a = some ⟨fmL s nb w d sc sg x k cap dr f cr fl fm, 84, own⟩) :
  SubM m (rho2 a x) (vwF (fmL s nb w d sc sg 1 k cap dr f cr fl fm)) 2 := by
 have hget : ∀ j b, vwF (fmL s nb w d sc sg 1 k cap dr f cr fl fm) j = some b → j = 0 ∧ b = ⟨fmL s nb w d sc sg 1 k cap dr f cr fl fm, 84, false⟩ := fun j b h => by
  simp only [vwF] at h
  split at h
  ·rename_i h0; cases h; exact ⟨Nat.eq_of_beq_eq_true h0, rfl⟩
  ·cases h
 refine ⟨fun j b h => ?_, fun j b h => ?_⟩
 ·obtain ⟨rfl, rfl⟩ := hget j b h
  refine ⟨by omega, fun i hi => ?_⟩
  have : i = 1 := by simpa [fmL, idsL, ids] using hi
  omega
 ·obtain ⟨rfl, rfl⟩ := hget j b h
  refine ⟨rfl, ⟨fmL s nb w d sc sg x k cap dr f cr fl fm, 84, own⟩, ?_, fun ι => ?_⟩
  ·show noIt (m a) = _
   rw [ha]
   simp only [noIt]
   have : (own && Nat.beq 84 itTy) = false := by cases own <;> rfl
   rw [this]
  ·simp [fmL, ren, ren1, rho2]
theorem sub_F2 {m : Lk} {a x k cap : Nat} {s : ByteArray} {nb : Bool} {w d sc : Int} {sg : Bool} {dr f : Int} {cr : Bool} {fl fm : Int} {own own2 : Bool} {r : List Value} (hr : plainL r = true)
  (ha : m a = some ⟨fmL s nb w d sc sg x k cap dr f cr fl fm, 84, own⟩) (hx : m x = some ⟨r, 102, own2⟩) :
  SubM m (rho2 a x) (vwF2 (fmL s nb w d sc sg 1 k cap dr f cr fl fm) r) 2 := by
 have hget : ∀ j b, vwF2 (fmL s nb w d sc sg 1 k cap dr f cr fl fm) r j = some b → (j = 0 ∧ b = ⟨fmL s nb w d sc sg 1 k cap dr f cr fl fm, 84, false⟩) ∨ (j = 1 ∧ b = ⟨r, 102, false⟩) := fun j b h => by
  simp only [vwF2] at h
  split at h
  ·rename_i h0; cases h; exact .inl ⟨Nat.eq_of_beq_eq_true h0, rfl⟩
  ·split at h
   ·rename_i h0; cases h; exact .inr ⟨Nat.eq_of_beq_eq_true h0, rfl⟩
   ·cases h
 refine ⟨fun j b h => ?_, fun j b h => ?_⟩
 ·rcases hget j b h with ⟨rfl, rfl⟩ | ⟨rfl, rfl⟩
  ·refine ⟨by omega, fun i hi => ?_⟩
   have : i = 1 := by simpa [fmL, idsL, ids] using hi
   omega
  ·exact ⟨by omega, fun i hi => by rw [ids_plainL hr] at hi; cases hi⟩
 ·rcases hget j b h with ⟨rfl, rfl⟩ | ⟨rfl, rfl⟩
  ·refine ⟨rfl, ⟨fmL s nb w d sc sg x k cap dr f cr fl fm, 84, own⟩, ?_, fun ι => ?_⟩
   ·show noIt (m a) = _
    rw [ha]
    simp only [noIt]
    have : (own && Nat.beq 84 itTy) = false := by cases own <;> rfl
    rw [this]
   ·simp [fmL, ren, ren1, rho2]
  ·refine ⟨rfl, ⟨r, 102, own2⟩, ?_, fun ι => renMap_congr fun k hk => by rw [ids_plainL hr] at hk; cases hk⟩
   show noIt (m x) = _
   rw [hx]
   simp only [noIt]
   have : (own2 && Nat.beq 102 itTy) = false := by cases own2 <;> rfl
   rw [this]
def hideS (sp : Ab.Spec) : List Value → Lk → Nat → (Value → Lk → Nat → Prop) → Prop := fun args m n K => match sp args (args.map (blkOf m)) with
 | some (c, .string e) => match cnd c with
  | true => ∀ s' : ByteArray, e = s' → K (.string s') m n
  | false => False
 | _ => False
theorem gen_hide {P : Program} {f : FuncId} {sp : Ab.Spec} (h : PureOK P f sp) : GenOK P f (hideS sp) := by
 obtain ⟨hc, hp⟩ := h
 refine ⟨hc, fun args m n K hh N w0 ι w hrel hwf hargs => ?_⟩
 unfold hideS at hh
 split at hh
 case h_2 => exact hh.elim
 rename_i c e hs
 split at hh
 case h_2 => exact hh.elim
 rename_i hcc
 have hcc : c = true := hcc
 subst hcc
 refine (hp args (.string e) N w0 m ι w hrel hs rfl).mono fun e' w' ⟨h1, h2⟩ => ?_
 exact ⟨.string e, m, n, ι, by rw [h1]; rfl, hh e rfl, Nat.le_refl _, fun _ _ => rfl, hrel.grow h2, hwf, by simp [ids]⟩
def G31 : Env := ((G30.addG 87 (hideS (sp2 s87))).addG 88 (hideS (sp2 s88))).addG 78 (hideS (sp2 s78))
theorem ok_G31 : EnvOK Tryz.prog G31 := env_addG (env_addG (env_addG ok_G30 (gen_hide ok87)) (gen_hide ok88)) (gen_hide ok78)
theorem v63 (s : ByteArray) (nb : Bool) (w : Int) (d : Int) (sc : Int) (sg : Bool) (k : Nat) (cap : Nat) (dr : Int) (f : Int) (cr : Bool) (fl : Int) (fm : Int) (n : Int) (q : Int) (R : Value → Prop) : (bodyQ Tryz.prog G31 noL Tryz.f63 [.pointer (some ⟨0, 0, some 0⟩), .int .i64 n, .int .i64 q] (vwF (fmL s nb w d sc sg 1 k cap dr f cr fl fm)) 2 (fun v _ _ => R v)) = ( bif decide (n < 0) then bif decide (0 ≤ IntKind.wrap .u64 (0 - IntKind.wrap .u64 n) ∧ IntKind.wrap .u64 (0 - IntKind.wrap .u64 n) < 18446744073709551616) && true then ∀ (s' : ByteArray), sz (decZ (IntKind.wrap .u64 (0 - IntKind.wrap .u64 n))) = s' → bif decide (sc ≥ q) then bif decide (0 ≤ IntKind.wrap .i64 (sc - q) ∧ IntKind.wrap .i64 (sc - q) ≤ 1000 ∧ ByteArray.size (ByteArray.mk #[48]) ≤ 1000) then ∀ (s'_1 : ByteArray), sz (repZ (bz (ByteArray.mk #[48])) (Int.toNat (IntKind.wrap .i64 (sc - q)))) = s'_1 → bif strFit (ByteArray.size s' + ByteArray.size s'_1) then ∀ (s'_2 : ByteArray), sz (List.dropWhile (fun x => x == List.getD (bz (ByteArray.mk #[48])) 0 0) (bz (s' ++ s'_1))) = s'_2 → bif bif decide ((↑(ByteArray.size s'_2) : Int) ≤ d) then decide (n ≥ 0) || (sg || true) else true then bif decide (0 ≤ imax 0 (IntKind.wrap .i64 (d - (↑(ByteArray.size s'_2) : Int))) ∧ imax 0 (IntKind.wrap .i64 (d - (↑(ByteArray.size s'_2) : Int))) ≤ 1000 ∧ ByteArray.size (ByteArray.mk #[48]) ≤ 1000) then ∀ (s' : ByteArray), sz (repZ (bz (ByteArray.mk #[48])) (Int.toNat (imax 0 (IntKind.wrap .i64 (d - (↑(ByteArray.size s'_2) : Int)))))) = s' → bif strFit (ByteArray.size s' + ByteArray.size s'_2) then bif decide (0 ≤ IntKind.wrap .i64 ((↑(ByteArray.size (s' ++ s'_2)) : Int) - d) ∧ IntKind.wrap .i64 ((↑(ByteArray.size (s' ++ s'_2)) : Int) - d) ≤ (↑(ByteArray.size (s' ++ s'_2)) : Int) ∧ (↑(ByteArray.size (s' ++ s'_2)) : Int) ≤ (↑(ByteArray.size (s' ++ s'_2)) : Int)) then bif bif decide (n < 0) then bif sg then decide (ByteArray.size (ByteArray.extract (s' ++ s'_2) (Int.toNat (IntKind.wrap .i64 ((↑(ByteArray.size (s' ++ s'_2)) : Int) - d))) (ByteArray.size (s' ++ s'_2))) ≤ 1000) && (decide (ByteArray.size (ByteArray.mk #[48]) ≤ 1000) && asc (bz (ByteArray.mk #[48]))) && true else true else true then R (.tuple (.mk [.string (bif decide (n < 0) then bif sg then ByteArray.extract (s' ++ s'_2) (Int.toNat (IntKind.wrap .i64 ((↑(ByteArray.size (s' ++ s'_2)) : Int) - d))) (ByteArray.size (s' ++ s'_2)) else ByteArray.extract (s' ++ s'_2) (Int.toNat (IntKind.wrap .i64 ((↑(ByteArray.size (s' ++ s'_2)) : Int) - d))) (ByteArray.size (s' ++ s'_2)) else ByteArray.extract (s' ++ s'_2) (Int.toNat (IntKind.wrap .i64 ((↑(ByteArray.size (s' ++ s'_2)) : Int) - d))) (ByteArray.size (s' ++ s'_2))), .bool (decide (n < 0) && (sg && !ByteArray.toList (szO (trimZ (bz (ByteArray.extract (s' ++ s'_2) (Int.toNat (IntKind.wrap .i64 ((↑(ByteArray.size (s' ++ s'_2)) : Int) - d))) (ByteArray.size (s' ++ s'_2)))) (bz (ByteArray.mk #[48])))) == ByteArray.toList (ByteArray.mk #[]))), .bool (bif decide (n < 0) then bif sg then decide ((↑(ByteArray.size s'_2) : Int) ≤ d) && (decide (n ≥ 0) || (sg || ByteArray.toList s'_2 == ByteArray.toList (ByteArray.mk #[]))) else decide ((↑(ByteArray.size s'_2) : Int) ≤ d) && (decide (n ≥ 0) || (sg || ByteArray.toList s'_2 == ByteArray.toList (ByteArray.mk #[]))) else decide ((↑(ByteArray.size s'_2) : Int) ≤ d) && (decide (n ≥ 0) || (sg || ByteArray.toList s'_2 == ByteArray.toList (ByteArray.mk #[]))))])) else False else False else False else False else False else False else False else bif decide ((0 : Int) ≤ 0 ∧ 0 ≤ imax 0 (IntKind.wrap .i64 ((↑(ByteArray.size s') : Int) - IntKind.wrap .i64 (q - sc))) ∧ imax 0 (IntKind.wrap .i64 ((↑(ByteArray.size s') : Int) - IntKind.wrap .i64 (q - sc))) ≤ (↑(ByteArray.size s') : Int)) then ∀ (s'_1 : ByteArray), sz (List.dropWhile (fun x => x == List.getD (bz (ByteArray.mk #[48])) 0 0) (bz (ByteArray.extract s' 0 (Int.toNat (imax 0 (IntKind.wrap .i64 ((↑(ByteArray.size s') : Int) - IntKind.wrap .i64 (q - sc)))))))) = s'_1 → bif bif decide ((↑(ByteArray.size s'_1) : Int) ≤ d) then decide (n ≥ 0) || (sg || true) else true then bif decide (0 ≤ imax 0 (IntKind.wrap .i64 (d - (↑(ByteArray.size s'_1) : Int))) ∧ imax 0 (IntKind.wrap .i64 (d - (↑(ByteArray.size s'_1) : Int))) ≤ 1000 ∧ ByteArray.size (ByteArray.mk #[48]) ≤ 1000) then ∀ (s' : ByteArray), sz (repZ (bz (ByteArray.mk #[48])) (Int.toNat (imax 0 (IntKind.wrap .i64 (d - (↑(ByteArray.size s'_1) : Int)))))) = s' → bif strFit (ByteArray.size s' + ByteArray.size s'_1) then bif decide (0 ≤ IntKind.wrap .i64 ((↑(ByteArray.size (s' ++ s'_1)) : Int) - d) ∧ IntKind.wrap .i64 ((↑(ByteArray.size (s' ++ s'_1)) : Int) - d) ≤ (↑(ByteArray.size (s' ++ s'_1)) : Int) ∧ (↑(ByteArray.size (s' ++ s'_1)) : Int) ≤ (↑(ByteArray.size (s' ++ s'_1)) : Int)) then bif bif decide (n < 0) then bif sg then decide (ByteArray.size (ByteArray.extract (s' ++ s'_1) (Int.toNat (IntKind.wrap .i64 ((↑(ByteArray.size (s' ++ s'_1)) : Int) - d))) (ByteArray.size (s' ++ s'_1))) ≤ 1000) && (decide (ByteArray.size (ByteArray.mk #[48]) ≤ 1000) && asc (bz (ByteArray.mk #[48]))) && true else true else true then R (.tuple (.mk [.string (bif decide (n < 0) then bif sg then ByteArray.extract (s' ++ s'_1) (Int.toNat (IntKind.wrap .i64 ((↑(ByteArray.size (s' ++ s'_1)) : Int) - d))) (ByteArray.size (s' ++ s'_1)) else ByteArray.extract (s' ++ s'_1) (Int.toNat (IntKind.wrap .i64 ((↑(ByteArray.size (s' ++ s'_1)) : Int) - d))) (ByteArray.size (s' ++ s'_1)) else ByteArray.extract (s' ++ s'_1) (Int.toNat (IntKind.wrap .i64 ((↑(ByteArray.size (s' ++ s'_1)) : Int) - d))) (ByteArray.size (s' ++ s'_1))), .bool (decide (n < 0) && (sg && !ByteArray.toList (szO (trimZ (bz (ByteArray.extract (s' ++ s'_1) (Int.toNat (IntKind.wrap .i64 ((↑(ByteArray.size (s' ++ s'_1)) : Int) - d))) (ByteArray.size (s' ++ s'_1)))) (bz (ByteArray.mk #[48])))) == ByteArray.toList (ByteArray.mk #[]))), .bool (bif decide (n < 0) then bif sg then decide ((↑(ByteArray.size s'_1) : Int) ≤ d) && (decide (n ≥ 0) || (sg || ByteArray.toList s'_1 == ByteArray.toList (ByteArray.mk #[]))) else decide ((↑(ByteArray.size s'_1) : Int) ≤ d) && (decide (n ≥ 0) || (sg || ByteArray.toList s'_1 == ByteArray.toList (ByteArray.mk #[]))) else decide ((↑(ByteArray.size s'_1) : Int) ≤ d) && (decide (n ≥ 0) || (sg || ByteArray.toList s'_1 == ByteArray.toList (ByteArray.mk #[]))))])) else False else False else False else False else False else False else False else bif decide (0 ≤ IntKind.wrap .u64 n ∧ IntKind.wrap .u64 n < 18446744073709551616) && true then ∀ (s' : ByteArray), sz (decZ (IntKind.wrap .u64 n)) = s' → bif decide (sc ≥ q) then bif decide (0 ≤ IntKind.wrap .i64 (sc - q) ∧ IntKind.wrap .i64 (sc - q) ≤ 1000 ∧ ByteArray.size (ByteArray.mk #[48]) ≤ 1000) then ∀ (s'_1 : ByteArray), sz (repZ (bz (ByteArray.mk #[48])) (Int.toNat (IntKind.wrap .i64 (sc - q)))) = s'_1 → bif strFit (ByteArray.size s' + ByteArray.size s'_1) then ∀ (s'_2 : ByteArray), sz (List.dropWhile (fun x => x == List.getD (bz (ByteArray.mk #[48])) 0 0) (bz (s' ++ s'_1))) = s'_2 → bif bif decide ((↑(ByteArray.size s'_2) : Int) ≤ d) then decide (n ≥ 0) || (sg || true) else true then bif decide (0 ≤ imax 0 (IntKind.wrap .i64 (d - (↑(ByteArray.size s'_2) : Int))) ∧ imax 0 (IntKind.wrap .i64 (d - (↑(ByteArray.size s'_2) : Int))) ≤ 1000 ∧ ByteArray.size (ByteArray.mk #[48]) ≤ 1000) then ∀ (s' : ByteArray), sz (repZ (bz (ByteArray.mk #[48])) (Int.toNat (imax 0 (IntKind.wrap .i64 (d - (↑(ByteArray.size s'_2) : Int)))))) = s' → bif strFit (ByteArray.size s' + ByteArray.size s'_2) then bif decide (0 ≤ IntKind.wrap .i64 ((↑(ByteArray.size (s' ++ s'_2)) : Int) - d) ∧ IntKind.wrap .i64 ((↑(ByteArray.size (s' ++ s'_2)) : Int) - d) ≤ (↑(ByteArray.size (s' ++ s'_2)) : Int) ∧ (↑(ByteArray.size (s' ++ s'_2)) : Int) ≤ (↑(ByteArray.size (s' ++ s'_2)) : Int)) then bif bif decide (n < 0) then bif sg then decide (ByteArray.size (ByteArray.extract (s' ++ s'_2) (Int.toNat (IntKind.wrap .i64 ((↑(ByteArray.size (s' ++ s'_2)) : Int) - d))) (ByteArray.size (s' ++ s'_2))) ≤ 1000) && (decide (ByteArray.size (ByteArray.mk #[48]) ≤ 1000) && asc (bz (ByteArray.mk #[48]))) && true else true else true then R (.tuple (.mk [.string (bif decide (n < 0) then bif sg then ByteArray.extract (s' ++ s'_2) (Int.toNat (IntKind.wrap .i64 ((↑(ByteArray.size (s' ++ s'_2)) : Int) - d))) (ByteArray.size (s' ++ s'_2)) else ByteArray.extract (s' ++ s'_2) (Int.toNat (IntKind.wrap .i64 ((↑(ByteArray.size (s' ++ s'_2)) : Int) - d))) (ByteArray.size (s' ++ s'_2)) else ByteArray.extract (s' ++ s'_2) (Int.toNat (IntKind.wrap .i64 ((↑(ByteArray.size (s' ++ s'_2)) : Int) - d))) (ByteArray.size (s' ++ s'_2))), .bool (decide (n < 0) && (sg && !ByteArray.toList (szO (trimZ (bz (ByteArray.extract (s' ++ s'_2) (Int.toNat (IntKind.wrap .i64 ((↑(ByteArray.size (s' ++ s'_2)) : Int) - d))) (ByteArray.size (s' ++ s'_2)))) (bz (ByteArray.mk #[48])))) == ByteArray.toList (ByteArray.mk #[]))), .bool (bif decide (n < 0) then bif sg then decide ((↑(ByteArray.size s'_2) : Int) ≤ d) && (decide (n ≥ 0) || (sg || ByteArray.toList s'_2 == ByteArray.toList (ByteArray.mk #[]))) else decide ((↑(ByteArray.size s'_2) : Int) ≤ d) && (decide (n ≥ 0) || (sg || ByteArray.toList s'_2 == ByteArray.toList (ByteArray.mk #[]))) else decide ((↑(ByteArray.size s'_2) : Int) ≤ d) && (decide (n ≥ 0) || (sg || ByteArray.toList s'_2 == ByteArray.toList (ByteArray.mk #[]))))])) else False else False else False else False else False else False else False else bif decide ((0 : Int) ≤ 0 ∧ 0 ≤ imax 0 (IntKind.wrap .i64 ((↑(ByteArray.size s') : Int) - IntKind.wrap .i64 (q - sc))) ∧ imax 0 (IntKind.wrap .i64 ((↑(ByteArray.size s') : Int) - IntKind.wrap .i64 (q - sc))) ≤ (↑(ByteArray.size s') : Int)) then ∀ (s'_1 : ByteArray), sz (List.dropWhile (fun x => x == List.getD (bz (ByteArray.mk #[48])) 0 0) (bz (ByteArray.extract s' 0 (Int.toNat (imax 0 (IntKind.wrap .i64 ((↑(ByteArray.size s') : Int) - IntKind.wrap .i64 (q - sc)))))))) = s'_1 → bif bif decide ((↑(ByteArray.size s'_1) : Int) ≤ d) then decide (n ≥ 0) || (sg || true) else true then bif decide (0 ≤ imax 0 (IntKind.wrap .i64 (d - (↑(ByteArray.size s'_1) : Int))) ∧ imax 0 (IntKind.wrap .i64 (d - (↑(ByteArray.size s'_1) : Int))) ≤ 1000 ∧ ByteArray.size (ByteArray.mk #[48]) ≤ 1000) then ∀ (s' : ByteArray), sz (repZ (bz (ByteArray.mk #[48])) (Int.toNat (imax 0 (IntKind.wrap .i64 (d - (↑(ByteArray.size s'_1) : Int)))))) = s' → bif strFit (ByteArray.size s' + ByteArray.size s'_1) then bif decide (0 ≤ IntKind.wrap .i64 ((↑(ByteArray.size (s' ++ s'_1)) : Int) - d) ∧ IntKind.wrap .i64 ((↑(ByteArray.size (s' ++ s'_1)) : Int) - d) ≤ (↑(ByteArray.size (s' ++ s'_1)) : Int) ∧ (↑(ByteArray.size (s' ++ s'_1)) : Int) ≤ (↑(ByteArray.size (s' ++ s'_1)) : Int)) then bif bif decide (n < 0) then bif sg then decide (ByteArray.size (ByteArray.extract (s' ++ s'_1) (Int.toNat (IntKind.wrap .i64 ((↑(ByteArray.size (s' ++ s'_1)) : Int) - d))) (ByteArray.size (s' ++ s'_1))) ≤ 1000) && (decide (ByteArray.size (ByteArray.mk #[48]) ≤ 1000) && asc (bz (ByteArray.mk #[48]))) && true else true else true then R (.tuple (.mk [.string (bif decide (n < 0) then bif sg then ByteArray.extract (s' ++ s'_1) (Int.toNat (IntKind.wrap .i64 ((↑(ByteArray.size (s' ++ s'_1)) : Int) - d))) (ByteArray.size (s' ++ s'_1)) else ByteArray.extract (s' ++ s'_1) (Int.toNat (IntKind.wrap .i64 ((↑(ByteArray.size (s' ++ s'_1)) : Int) - d))) (ByteArray.size (s' ++ s'_1)) else ByteArray.extract (s' ++ s'_1) (Int.toNat (IntKind.wrap .i64 ((↑(ByteArray.size (s' ++ s'_1)) : Int) - d))) (ByteArray.size (s' ++ s'_1))), .bool (decide (n < 0) && (sg && !ByteArray.toList (szO (trimZ (bz (ByteArray.extract (s' ++ s'_1) (Int.toNat (IntKind.wrap .i64 ((↑(ByteArray.size (s' ++ s'_1)) : Int) - d))) (ByteArray.size (s' ++ s'_1)))) (bz (ByteArray.mk #[48])))) == ByteArray.toList (ByteArray.mk #[]))), .bool (bif decide (n < 0) then bif sg then decide ((↑(ByteArray.size s'_1) : Int) ≤ d) && (decide (n ≥ 0) || (sg || ByteArray.toList s'_1 == ByteArray.toList (ByteArray.mk #[]))) else decide ((↑(ByteArray.size s'_1) : Int) ≤ d) && (decide (n ≥ 0) || (sg || ByteArray.toList s'_1 == ByteArray.toList (ByteArray.mk #[]))) else decide ((↑(ByteArray.size s'_1) : Int) ≤ d) && (decide (n ≥ 0) || (sg || ByteArray.toList s'_1 == ByteArray.toList (ByteArray.mk #[]))))])) else False else False else False else False else False else False else False) := by kernel_rfl
theorem rep_48 : ∀ k : Nat, repZ [48] k = rep1 48 k
 | 0 => rfl
 | k + 1 => by rw [repZ, rep_48 k]; rfl
theorem all48 {l : List Int} (h : dgL l = true) : (∀ c ∈ l, hasZ [48] c = true) ↔ dval l = 0 := by
 rw [← strip_nil h, dropW_nil]
 constructor
 ·intro q c hc
  have := q c hc
  rw [hasZ_iff] at this
  simpa using this
 ·intro q c hc
  rw [hasZ_iff]
  simpa using q c hc
theorem toList_nil (s : ByteArray) : (s.toList == ByteArray.toList (ByteArray.mk #[])) = (bz s).isEmpty := by
 rw [toList_beq]
 have : bz ⟨#[]⟩ = [] := rfl
 rw [this]
 cases bz s <;> rfl
theorem trim_isB {l cs : List Int} (h : IsB l) : IsB (trimZ l cs) := by
 intro c hc
 refine h c ?_
 unfold trimZ at hc
 have := List.dropWhile_sublist _ |>.subset hc
 have : c ∈ l.reverse.dropWhile (hasZ cs) := by simpa using this
 simpa using List.dropWhile_sublist _ |>.subset this
theorem cut_tail {n d M : Int} {sg : Bool} {l1 : List Int} {s1 : ByteArray} (hs1 : bz s1 = l1) (hdg : dgL l1 = true) (hv : dval l1 = M) (hlen : l1.length ≤ 100) (hd : 0 ≤ d ∧ d ≤ 9) {R : Value → Prop}
  (hR : R (.tuple ⟨[.string (sz (digZ (M % tenZ d.toNat) d.toNat)), .bool (decide (n < 0) && (sg && !(M % tenZ d.toNat == 0))), .bool (decide (M < tenZ d.toNat) && (decide (n ≥ 0) || (sg || M % tenZ d.toNat == 0)))]⟩)) :
  ∀ (s2 : ByteArray), sz (List.dropWhile (fun x => x == List.getD (bz (ByteArray.mk #[48])) 0 0) (bz s1)) = s2 →
   bif bif decide ((↑(ByteArray.size s2) : Int) ≤ d) then decide (n ≥ 0) || (sg || true) else true then
    bif decide (0 ≤ imax 0 (IntKind.wrap IntKind.i64 (d - (↑(ByteArray.size s2) : Int))) ∧ imax 0 (IntKind.wrap IntKind.i64 (d - (↑(ByteArray.size s2) : Int))) ≤ 1000 ∧ ByteArray.size (ByteArray.mk #[48]) ≤ 1000) then
     ∀ (s' : ByteArray), sz (repZ (bz (ByteArray.mk #[48])) (Int.toNat (imax 0 (IntKind.wrap IntKind.i64 (d - (↑(ByteArray.size s2) : Int)))))) = s' →
      bif strFit (ByteArray.size s' + ByteArray.size s2) then
       bif decide (0 ≤ IntKind.wrap IntKind.i64 ((↑(ByteArray.size (s' ++ s2)) : Int) - d) ∧ IntKind.wrap IntKind.i64 ((↑(ByteArray.size (s' ++ s2)) : Int) - d) ≤ (↑(ByteArray.size (s' ++ s2)) : Int) ∧ (↑(ByteArray.size (s' ++ s2)) : Int) ≤ (↑(ByteArray.size (s' ++ s2)) : Int)) then
        bif bif decide (n < 0) then bif sg then decide (ByteArray.size (ByteArray.extract (s' ++ s2) (Int.toNat (IntKind.wrap IntKind.i64 ((↑(ByteArray.size (s' ++ s2)) : Int) - d))) (ByteArray.size (s' ++ s2))) ≤ 1000) && (decide (ByteArray.size (ByteArray.mk #[48]) ≤ 1000) && asc (bz (ByteArray.mk #[48]))) && true else true else true then
         R (Value.tuple (Array.mk [Value.string (bif decide (n < 0) then bif sg then ByteArray.extract (s' ++ s2) (Int.toNat (IntKind.wrap IntKind.i64 ((↑(ByteArray.size (s' ++ s2)) : Int) - d))) (ByteArray.size (s' ++ s2)) else ByteArray.extract (s' ++ s2) (Int.toNat (IntKind.wrap IntKind.i64 ((↑(ByteArray.size (s' ++ s2)) : Int) - d))) (ByteArray.size (s' ++ s2)) else ByteArray.extract (s' ++ s2) (Int.toNat (IntKind.wrap IntKind.i64 ((↑(ByteArray.size (s' ++ s2)) : Int) - d))) (ByteArray.size (s' ++ s2))),
          Value.bool (decide (n < 0) && (sg && !ByteArray.toList (szO (trimZ (bz (ByteArray.extract (s' ++ s2) (Int.toNat (IntKind.wrap IntKind.i64 ((↑(ByteArray.size (s' ++ s2)) : Int) - d))) (ByteArray.size (s' ++ s2)))) (bz (ByteArray.mk #[48])))) == ByteArray.toList (ByteArray.mk #[]))),
          Value.bool (bif decide (n < 0) then bif sg then decide ((↑(ByteArray.size s2) : Int) ≤ d) && (decide (n ≥ 0) || (sg || ByteArray.toList s2 == ByteArray.toList (ByteArray.mk #[]))) else decide ((↑(ByteArray.size s2) : Int) ≤ d) && (decide (n ≥ 0) || (sg || ByteArray.toList s2 == ByteArray.toList (ByteArray.mk #[]))) else decide ((↑(ByteArray.size s2) : Int) ≤ d) && (decide (n ≥ 0) || (sg || ByteArray.toList s2 == ByteArray.toList (ByteArray.mk #[]))))]))
        else False
       else False
      else False
    else False
   else False := by
 intro s2 h2
 have k0 : (bz ⟨#[48]⟩).getD 0 0 = 48 := rfl
 have k1 : bz ⟨#[48]⟩ = [48] := rfl
 rw [k0, hs1] at h2
 have hB : ∀ {l : List Int}, dgL l = true → IsB l := dg_isB
 have h2d := dgL_strip hdg
 have b2 : bz s2 = l1.dropWhile (· == 48) := by rw [← h2, bz_sz (hB h2d)]
 have hl2 : (l1.dropWhile (· == 48)).length ≤ 100 := Nat.le_trans (List.dropWhile_sublist _).length_le hlen
 have z2 : s2.size = (l1.dropWhile (· == 48)).length := by rw [← bz_length, b2]
 rw [z2, w64 (n := d - ((l1.dropWhile (· == 48)).length : Int)) (by omega), k1]
 have hv2 : dval (l1.dropWhile (· == 48)) = M := by rw [dval_strip, hv]
 have hlt := strip_len hdg d.toNat
 have hnl := strip_nil hdg
 rw [hv] at hlt hnl
 generalize l1.dropWhile (· == 48) = l2 at *
 have hk : 0 ≤ imax 0 (d - (l2.length : Int)) ∧ imax 0 (d - (l2.length : Int)) ≤ 9 ∧ d ≤ imax 0 (d - (l2.length : Int)) + l2.length := by unfold imax; split <;> omega
 generalize imax 0 (d - (l2.length : Int)) = k at *
 refine c_t (by cases decide ((l2.length : Int) ≤ d) <;> simp) (c_t (decide_eq_true ⟨hk.1, by omega, by decide⟩) fun s3 h3 => ?_)
 obtain ⟨r1, r2⟩ := dval_rep k.toNat
 have b3 : bz s3 = rep1 48 k.toNat := by rw [← h3, rep_48, bz_sz (hB r2)]
 have z3 : s3.size = k.toNat := by rw [← bz_length, b3]; simp [rep1]
 have bE : bz (s3 ++ s2) = rep1 48 k.toNat ++ l2 := by rw [bz_append, b3, b2]
 have zE : (s3 ++ s2).size = k.toNat + l2.length := by rw [← bz_length, bE, List.length_append]; simp [rep1]
 rw [zE, w64 (n := ((k.toNat + l2.length : Nat) : Int) - d) (by omega)]
 refine c_t (by simp only [strFit, Nat.ble_eq]; omega) (c_t (decide_eq_true (by omega)) ?_)
 have d3 : dgL (rep1 48 k.toNat ++ l2) = true := dgL_app.2 ⟨r2, h2d⟩
 have v3 : dval (rep1 48 k.toNat ++ l2) = M := by rw [dval_app, r1, hv2]; omega
 have l3 : (rep1 48 k.toNat ++ l2).length = k.toNat + l2.length := by rw [List.length_append]; simp [rep1]
 have hM : 0 ≤ M := by have := (dval_rng _ d3).1; omega
 have bx : bz ((s3 ++ s2).extract (((k.toNat + l2.length : Nat) : Int) - d).toNat (k.toNat + l2.length)) = digZ (M % tenZ d.toNat) d.toNat := by
  rw [bz_extract, bE, List.take_of_length_le (by rw [l3]; exact Nat.le_refl _)]
  have := digZ_last d3 (d := d.toNat) (by rw [l3]; omega)
  rw [v3, l3] at this
  rw [digZ_mod _ _ hM, ← this]
  congr 1
  omega
 have ex : (s3 ++ s2).extract (((k.toNat + l2.length : Nat) : Int) - d).toNat (k.toNat + l2.length) = sz (digZ (M % tenZ d.toNat) d.toNat) := by rw [← bx, sz_bz]
 have hdd := digZ_dg d.toNat (M % tenZ d.toNat)
 rw [ex, bz_sz (hB hdd), szO_eq, toList_nil, bz_sz (trim_isB (hB hdd)), toList_nil, b2]
 have e1 : (trimZ (digZ (M % tenZ d.toNat) d.toNat) [48]).isEmpty = (M % tenZ d.toNat == 0) := by
  have hm := Int.emod_nonneg M (b := tenZ d.toNat) (by have := tenZ_pos d.toNat; omega)
  have hm2 := Int.emod_lt_of_pos M (tenZ_pos d.toNat)
  have hz : dval (digZ (M % tenZ d.toNat) d.toNat) = M % tenZ d.toNat := by rw [dval_dig _ _ hm, Int.emod_eq_of_lt hm hm2]
  rw [Bool.eq_iff_iff, List.isEmpty_iff, trim_nil, all48 hdd, hz, beq_iff_eq]
 have e2 : (decide ((l2.length : Int) ≤ d) && (decide (n ≥ 0) || (sg || l2.isEmpty))) = (decide (M < tenZ d.toNat) && (decide (n ≥ 0) || (sg || M % tenZ d.toNat == 0))) := by
  by_cases hq : M < tenZ d.toNat
  ·have h5 : (l2.length : Int) ≤ d := by have := hlt.2 hq; omega
   have h6 : l2.isEmpty = (M % tenZ d.toNat == 0) := by
    rw [Int.emod_eq_of_lt hM hq, Bool.eq_iff_iff, List.isEmpty_iff, hnl, beq_iff_eq]
   rw [decide_eq_true hq, decide_eq_true h5, h6]
  ·have h5 : ¬ (l2.length : Int) ≤ d := fun q => hq (hlt.1 (by omega))
   rw [decide_eq_false hq, decide_eq_false h5]
   rfl
 rw [e1, e2, sz_size, digZ_len]
 have a1 : decide (d.toNat ≤ 1000) = true := decide_eq_true (by omega)
 rw [a1]
 refine c_t (by cases decide (n < 0) <;> cases sg <;> rfl) ?_
 cases hn : decide (n < 0) <;> cases sg <;> simpa [hn] using hR
def cutV (n q sc d : Int) (sg : Bool) : Value := .tuple ⟨[.string (sz (digZ ((cuN n q sc d sg).natAbs : Int) d.toNat)), .bool (decide (cuN n q sc d sg < 0)), .bool (cuF n q sc d sg)]⟩
theorem cutV_eq {n q sc d : Int} {sg : Bool} (hM : 0 ≤ cuM n q sc) : cutV n q sc d sg = .tuple ⟨[.string (sz (digZ (cuM n q sc % tenZ d.toNat) d.toNat)), .bool (decide (n < 0) && (sg && !(cuM n q sc % tenZ d.toNat == 0))), .bool (decide (cuM n q sc < tenZ d.toNat) && (decide (n ≥ 0) || (sg || cuM n q sc % tenZ d.toNat == 0)))]⟩ := by
 have hm := Int.emod_nonneg (cuM n q sc) (b := tenZ d.toNat) (by have := tenZ_pos d.toNat; omega)
 have e1 : ((cuN n q sc d sg).natAbs : Int) = cuM n q sc % tenZ d.toNat := by
  unfold cuN cuV
  split <;> omega
 have e2 : decide (cuN n q sc d sg < 0) = (decide (n < 0) && (sg && !(cuM n q sc % tenZ d.toNat == 0))) := by
  unfold cuN cuV
  rw [Bool.eq_iff_iff]
  simp only [decide_eq_true_eq, Bool.and_eq_true, Bool.not_eq_true', beq_eq_false_iff_ne]
  split
  ·rename_i h
   constructor
   ·exact fun q => ⟨h.1, h.2, by omega⟩
   ·exact fun q => by omega
  ·rename_i h
   constructor
   ·exact fun q => by omega
   ·exact fun q => absurd ⟨q.1, q.2.1⟩ h
 rw [cutV, e1, e2]
 rfl
theorem w63 (s : ByteArray) (nb : Bool) (w : Int) (d : Int) (sc : Int) (sg : Bool) (k : Nat) (cap : Nat) (dr : Int) (f : Int) (cr : Bool) (fl : Int) (fm : Int) (n q : Int) (hn : -9223372036854775808 ≤ n ∧ n ≤ 9223372036854775807) (hq : 0 ≤ q ∧ q ≤ 9) (hsc : 0 ≤ sc ∧ sc ≤ 9) (hd : 0 ≤ d ∧ d ≤ 9) {R : Value → Prop} (hR : R (cutV n q sc d sg)) :
  DoesM Tryz.prog G31 noL Tryz.f63 [.pointer (some ⟨0, 0, some 0⟩), .int .i64 n, .int .i64 q] (vwF (fmL s nb w d sc sg 1 k cap dr f cr fl fm)) 2 (fun v _ _ => R v) := by
 rw [DoesM, v63]
 obtain ⟨u, hu⟩ : ∃ u : Nat, n.natAbs = u := ⟨_, rfl⟩
 obtain ⟨U, hU⟩ : ∃ U : Int, U = u := ⟨_, rfl⟩
 obtain ⟨g1, g2⟩ := dec_spec u
 have gl : (zl (Lib.decDigits u)).length ≤ 20 := by
  rw [zl, List.length_map, Lib.decDigits_length]
  exact Lib.nDigits_le20 u (by omega)
 have eD : decZ U = zl (Lib.decDigits u) := by rw [hU, decZ, Int.toNat_natCast]
 have eM1 : sc ≥ q → cuM n q sc = u * tenZ (sc - q).toNat := fun h => by
  unfold cuM
  split
  ·have : sc = q := by omega
   rw [this, hu, Int.sub_self]
   simp [tenZ]
  ·rw [hu]
 have eM2 : ¬ sc ≥ q → cuM n q sc = u / tenZ (q - sc).toNat := fun h => by
  unfold cuM
  rw [if_pos (by omega), hu]
 have hM : 0 ≤ cuM n q sc := by
  by_cases h : sc ≥ q
  ·rw [eM1 h]; exact Int.mul_nonneg (by omega) (by have := tenZ_pos (sc - q).toNat; omega)
  ·rw [eM2 h]; exact Int.ediv_nonneg (by omega) (by have := tenZ_pos (q - sc).toNat; omega)
 have k1 : bz ⟨#[48]⟩ = [48] := rfl
 have tail1 : ∀ (s1 s2 : ByteArray), sz (decZ U) = s1 → sc ≥ q → sz (repZ (bz (ByteArray.mk #[48])) (Int.toNat (sc - q))) = s2 → strFit (s1.size + s2.size) = true ∧ bz (s1 ++ s2) = zl (Lib.decDigits u) ++ rep1 48 (sc - q).toNat := fun s1 s2 h1 h2 h3 => by
  have r := dval_rep (sc - q).toNat
  have b1 : bz s1 = zl (Lib.decDigits u) := by rw [← h1, eD, bz_sz (dg_isB g1)]
  have b2 : bz s2 = rep1 48 (sc - q).toNat := by rw [← h3, k1, rep_48, bz_sz (dg_isB r.2)]
  have z1 : s1.size ≤ 20 := by rw [← bz_length, b1]; exact gl
  have z2 : s2.size ≤ 9 := by rw [← bz_length, b2]; simp [rep1]; omega
  exact ⟨by simp only [strFit, Nat.ble_eq]; omega, by rw [bz_append, b1, b2]⟩
 have tv1 : ∀ h : sc ≥ q, dgL (zl (Lib.decDigits u) ++ rep1 48 (sc - q).toNat) = true ∧ dval (zl (Lib.decDigits u) ++ rep1 48 (sc - q).toNat) = cuM n q sc ∧ (zl (Lib.decDigits u) ++ rep1 48 (sc - q).toNat).length ≤ 100 := fun h => by
  have r := dval_rep (sc - q).toNat
  refine ⟨dgL_app.2 ⟨g1, r.2⟩, ?_, ?_⟩
  ·rw [dval_app, g2, r.1, eM1 h]
   simp [rep1]
  ·rw [List.length_append]; simp only [rep1, List.length_replicate]; omega
 have tail2 : ∀ (s1 : ByteArray), sz (decZ U) = s1 → ¬ sc ≥ q → (0 ≤ imax 0 ((s1.size : Int) - (q - sc)) ∧ imax 0 ((s1.size : Int) - (q - sc)) ≤ s1.size) ∧ s1.size ≤ 20 ∧ bz (s1.extract 0 (Int.toNat (imax 0 ((s1.size : Int) - (q - sc))))) = (zl (Lib.decDigits u)).take ((zl (Lib.decDigits u)).length - (q - sc).toNat) := fun s1 h1 h2 => by
  have b1 : bz s1 = zl (Lib.decDigits u) := by rw [← h1, eD, bz_sz (dg_isB g1)]
  have z1 : s1.size = (zl (Lib.decDigits u)).length := by rw [← bz_length, b1]
  refine ⟨by unfold imax; split <;> omega, by omega, ?_⟩
  rw [bz_extract, b1, List.drop_zero]
  congr 1
  unfold imax
  split <;> omega
 have tv2 : ∀ h : ¬ sc ≥ q, dgL ((zl (Lib.decDigits u)).take ((zl (Lib.decDigits u)).length - (q - sc).toNat)) = true ∧ dval ((zl (Lib.decDigits u)).take ((zl (Lib.decDigits u)).length - (q - sc).toNat)) = cuM n q sc ∧ ((zl (Lib.decDigits u)).take ((zl (Lib.decDigits u)).length - (q - sc).toNat)).length ≤ 100 := fun h => by
  refine ⟨?_, ?_, ?_⟩
  ·simp only [dgL, List.all_eq_true] at g1 ⊢
   exact fun c hc => g1 c (List.mem_of_mem_take hc)
  ·rw [dval_take g1, g2, eM2 h]
  ·rw [List.length_take]; omega
 rw [cutV_eq hM] at hR
 refine cond_intro (fun hneg => ?_) (fun hneg => ?_)
 ·have hneg' := of_decide_eq_true hneg
  have e : IntKind.wrap .u64 (0 - IntKind.wrap .u64 n) = U := by rw [wu64e, wu64e]; omega
  rw [e, w64 (n := sc - q) (by omega), w64 (n := q - sc) (by omega)]
  refine c_t (by rw [decide_eq_true (show (0 : Int) ≤ U ∧ U < 18446744073709551616 by omega)]; rfl) fun s1 h1 => cond_intro (fun h => ?_) (fun h => ?_)
  ·have h := of_decide_eq_true h
   refine c_t (decide_eq_true ⟨by omega, by omega, by decide⟩) fun s2 h2 => ?_
   obtain ⟨a1, a2⟩ := tail1 s1 s2 h1 h h2
   obtain ⟨t1, t2, t3⟩ := tv1 h
   exact c_t a1 (cut_tail a2 t1 t2 t3 hd hR)
  ·have h := of_decide_eq_false h
   obtain ⟨a1, a2, a3⟩ := tail2 s1 h1 h
   obtain ⟨t1, t2, t3⟩ := tv2 h
   rw [w64 (n := (s1.size : Int) - (q - sc)) (by omega)]
   have b1 : decide ((0 : Int) ≤ 0 ∧ 0 ≤ imax 0 ((s1.size : Int) - (q - sc)) ∧ imax 0 ((s1.size : Int) - (q - sc)) ≤ (s1.size : Int)) = true := decide_eq_true ⟨by decide, a1.1, a1.2⟩
   exact c_t b1 (cut_tail a3 t1 t2 t3 hd hR)
 ·have hneg' := of_decide_eq_false hneg
  have e : IntKind.wrap .u64 n = U := by rw [wu64e]; omega
  rw [e, w64 (n := sc - q) (by omega), w64 (n := q - sc) (by omega)]
  refine c_t (by rw [decide_eq_true (show (0 : Int) ≤ U ∧ U < 18446744073709551616 by omega)]; rfl) fun s1 h1 => cond_intro (fun h => ?_) (fun h => ?_)
  ·have h := of_decide_eq_true h
   refine c_t (decide_eq_true ⟨by omega, by omega, by decide⟩) fun s2 h2 => ?_
   obtain ⟨a1, a2⟩ := tail1 s1 s2 h1 h h2
   obtain ⟨t1, t2, t3⟩ := tv1 h
   exact c_t a1 (cut_tail a2 t1 t2 t3 hd hR)
  ·have h := of_decide_eq_false h
   obtain ⟨a1, a2, a3⟩ := tail2 s1 h1 h
   obtain ⟨t1, t2, t3⟩ := tv2 h
   rw [w64 (n := (s1.size : Int) - (q - sc)) (by omega)]
   have b1 : decide ((0 : Int) ≤ 0 ∧ 0 ≤ imax 0 ((s1.size : Int) - (q - sc)) ∧ imax 0 ((s1.size : Int) - (q - sc)) ≤ (s1.size : Int)) = true := decide_eq_true ⟨by decide, a1.1, a1.2⟩
   exact c_t b1 (cut_tail a3 t1 t2 t3 hd hR)
def i64B (n : Int) : Bool := decide (-9223372036854775808 ≤ n ∧ n ≤ 9223372036854775807)
def h63 : List Value → Lk → Nat → (Value → Lk → Nat → Prop) → Prop := fun args m n K => match args with
 | [.pointer (some ⟨a, 0, some 0⟩), .int .i64 x, .int .i64 q] => match m a with
  | some ⟨[.string s, .bool nb, .int .i64 w, .int .i64 d, .int .i64 sc, .bool sg, .slice (some ⟨y, 0, some 1⟩) k cap, .int .u8 dr, .int .i64 f, .bool cr, .int .u8 fl, .int .i64 fm], 84, own⟩ =>
   match cnd (i64B x && (decide (0 ≤ q ∧ q ≤ 9) && (decide (0 ≤ sc ∧ sc ≤ 9) && decide (0 ≤ d ∧ d ≤ 9)))) with
   | true => K (cutV x q sc d sg) m n
   | false => False
  | _ => False
 | _ => False
theorem fn63 : Fn1 Tryz.prog 63 Tryz.f63 := ⟨Tryz.func63, by kernel_rfl, by kernel_rfl, by kernel_rfl⟩
theorem h63_ok : GenOK Tryz.prog 63 h63 := by
 refine gen_sub ok_G31 hmix fn63 lokf_none fun args m n K h => ?_
 unfold h63 at h
 split at h
 case h_2 => exact h.elim
 rename_i a x q
 split at h
 case h_2 => exact h.elim
 rename_i s nb w d sc sg y k cap dr f cr fl fm own hm
 split at h
 case h_2 => exact h.elim
 rename_i hc
 simp only [cnd, i64B, Bool.and_eq_true, decide_eq_true_eq] at hc
 obtain ⟨h1, h2, h3, h4⟩ := hc
 refine ⟨[.pointer (some ⟨0, 0, some 0⟩), .int .i64 x, .int .i64 q], _, 2, rho2 a y, cutV x q sc d sg, sub_F hm, fun ι => by simp [ren, ren1, rho2], Nat.le_of_ble_eq_true (by kernel_rfl), fun v hv j hj => ?_, rfl, w63 s nb w d sc sg k cap dr f cr fl fm x q h1 h2 h3 h4 (R := fun v => v = cutV x q sc d sg) rfl, h⟩
 simp at hv
 rcases hv with rfl | rfl | rfl
 ·have : j = 0 := by simpa [ids] using hj
  omega
 ·simp [ids] at hj
 ·simp [ids] at hj
def G32 : Env := G30.addG 63 h63
theorem ok_G32 : EnvOK Tryz.prog G32 := env_addG ok_G30 h63_ok
end Go.Px
end
noncomputable section
namespace Go.Px
open Go Go.Ab Go.Proofs Go.Shelf
def enOn : List Int → Bool
 | [] => false
 | r :: rs => bif r == 0 || r == 1 then r == 1 else enOn rs
def enGo (ze : Bool) (fm : Int) : List Int → List Int → Int → Int
 | [], _, _ => -1
 | r :: rs, ds, at_ => bif r == 0 then at_ else bif r == 1 then (bif ds.headD 0 != 48 then at_ else enGo ze fm rs ds.tail (at_ + 1))
  else bif r == 2 then (bif decide (fm > 0) || !ze then at_ else enGo ze fm rs ds at_) else enGo ze fm rs ds (at_ + 1)
def cn1 : List Int → Int
 | [] => 0
 | r :: rs => (bif r == 1 then 1 else 0) + cn1 rs
theorem cn1_nn : ∀ l, 0 ≤ cn1 l
 | [] => by simp [cn1]
 | r :: rs => by have := cn1_nn rs; rw [cn1]; cases r == 1 <;> simp <;> omega
def V90_0 : Int × Int × Int × Bool × Bool × Nat × Nat × Int × Int × ByteArray × Bool × Int × Int × Int × Bool × Nat × Nat × Int × Int × Bool × Int × Int × ByteArray × Bool × Int × Int × Int × List Value → List Value := fun (r2, r3, r4, ze, on, k2, cap2, L, i, s, nb, w, dg, sc, sg, k, cap, dr, f, cr, fl, fm, nu, mi, us, at0, ld, d) => [.pointer (some ⟨0, 0, some 0⟩), I r2, I r3, I r4, B ze, B on, .slice (some ⟨2, 0, some 1⟩) k2 cap2, I L, I i]
def B90_0 : Int × Int × Int × Bool × Bool × Nat × Nat × Int × Int × ByteArray × Bool × Int × Int × Int × Bool × Nat × Nat × Int × Int × Bool × Int × Int × ByteArray × Bool × Int × Int × Int × List Value → List (Option Blk) := fun (r2, r3, r4, ze, on, k2, cap2, L, i, s, nb, w, dg, sc, sg, k, cap, dr, f, cr, fl, fm, nu, mi, us, at0, ld, d) => [some ⟨[.pointer (some ⟨1, 0, some 0⟩), .string nu, .bool mi, .int .i64 us, .int .i64 at0, .int .i64 ld], 109, false⟩, some ⟨[.string s, .bool nb, .int .i64 w, .int .i64 dg, .int .i64 sc, .bool sg, .slice (some ⟨2, 0, some 1⟩) k cap, .int .u8 dr, .int .i64 f, .bool cr, .int .u8 fl, .int .i64 fm], 84, false⟩, some ⟨d, 102, false⟩]
def S90_0 : LSpecA (Int × Int × Int × Bool × Bool × Nat × Nat × Int × Int × ByteArray × Bool × Int × Int × Int × Bool × Nat × Nat × Int × Int × Bool × Int × Int × ByteArray × Bool × Int × Int × Int × List Value) where
 live := [0, 2, 3, 4, 5, 6, 23, 24, 25]
 mid := [0, 1, 2]
 n := 100
 ap := []
 dec vs bs := match vs, bs with | [.pointer (some ⟨0, 0, some 0⟩), .int .i64 r2, .int .i64 r3, .int .i64 r4, .bool ze, .bool on, .slice (some ⟨2, 0, some 1⟩) k2 cap2, .int .i64 L, .int .i64 i], [some ⟨[.pointer (some ⟨1, 0, some 0⟩), .string nu, .bool mi, .int .i64 us, .int .i64 at0, .int .i64 ld], 109, false⟩, some ⟨[.string s, .bool nb, .int .i64 w, .int .i64 dg, .int .i64 sc, .bool sg, .slice (some ⟨2, 0, some 1⟩) k cap, .int .u8 dr, .int .i64 f, .bool cr, .int .u8 fl, .int .i64 fm], 84, false⟩, some ⟨d, 102, false⟩] => some (r2, r3, r4, ze, on, k2, cap2, L, i, s, nb, w, dg, sc, sg, k, cap, dr, f, cr, fl, fm, nu, mi, us, at0, ld, d) | _, _ => none
 pre := fun (r2, r3, r4, ze, on, k2, cap2, L, i, s, nb, w, dg, sc, sg, k, cap, dr, f, cr, fl, fm, nu, mi, us, at0, ld, d) => rowIOK d k2 cap2 && decide (0 ≤ i ∧ i ≤ k2 ∧ k2 ≤ 1000 ∧ L = k2 ∧ on = false)
 fin := fun (r2, r3, r4, ze, on, k2, cap2, L, i, s, nb, w, dg, sc, sg, k, cap, dr, f, cr, fl, fm, nu, mi, us, at0, ld, d) Z => ∀ i', Z (.exit 0) [.pointer (some ⟨0, 0, some 0⟩), I r2, I r3, I r4, B ze, B (enOn ((zc d k2).drop i.toNat)), .slice (some ⟨2, 0, some 1⟩) k2 cap2, I L, I i'] [some ⟨[.pointer (some ⟨1, 0, some 0⟩), .string nu, .bool mi, .int .i64 us, .int .i64 at0, .int .i64 ld], 109, false⟩, some ⟨[.string s, .bool nb, .int .i64 w, .int .i64 dg, .int .i64 sc, .bool sg, .slice (some ⟨2, 0, some 1⟩) k cap, .int .u8 dr, .int .i64 f, .bool cr, .int .u8 fl, .int .i64 fm], 84, false⟩, some ⟨d, 102, false⟩]
theorem r90_0 (r2 : Int) (r3 : Int) (r4 : Int) (ze : Bool) (on : Bool) (k2 : Nat) (cap2 : Nat) (L : Int) (i : Int) (s : ByteArray) (nb : Bool) (w : Int) (dg : Int) (sc : Int) (sg : Bool) (k : Nat) (cap : Nat) (dr : Int) (f : Int) (cr : Bool) (fl : Int) (fm : Int) (nu : ByteArray) (mi : Bool) (us : Int) (at0 : Int) (ld : Int) (d : List Value) (jk : Tmps) (R : Exit → List Value → List (Option Blk) → Prop) : (codeQ Tryz.prog G32 noL Tryz.f90.ntmps (loopOf Tryz.f90 0) (tl S90_0.live (V90_0 (r2, r3, r4, ze, on, k2, cap2, L, i, s, nb, w, dg, sc, sg, k, cap, dr, f, cr, fl, fm, nu, mi, us, at0, ld, d)) jk) (ml S90_0.mid (B90_0 (r2, r3, r4, ze, on, k2, cap2, L, i, s, nb, w, dg, sc, sg, k, cap, dr, f, cr, fl, fm, nu, mi, us, at0, ld, d))) S90_0.n fun e t' m' _ => S90_0.out R e t' m') = ( bif decide (i < L) then bif decide (0 ≤ i ∧ i < (↑k2 : Int)) then bif isIntAt IntKind.i64 d (0 + Int.toNat i * 1) then bif intAt d (0 + Int.toNat i * 1) == 0 || true then bif intAt d (0 + Int.toNat i * 1) == 0 || intAt d (0 + Int.toNat i * 1) == 1 then bif goodL [] d && true && true then R (Exit.exit 0) [.pointer (some (.mk 0 0 (some 0))), .int .i64 r2, .int .i64 r3, .int .i64 r4, .bool ze, .bool (intAt d (0 + Int.toNat i * 1) == 1), .slice (some (.mk 2 0 (some 1))) k2 cap2, .int .i64 L, .int .i64 i] [some (.mk [.pointer (some (.mk 1 0 (some 0))), .string nu, .bool mi, .int .i64 us, .int .i64 at0, .int .i64 ld] 109 false), some (.mk [.string s, .bool nb, .int .i64 w, .int .i64 dg, .int .i64 sc, .bool sg, .slice (some (.mk 2 0 (some 1))) k cap, .int .u8 dr, .int .i64 f, .bool cr, .int .u8 fl, .int .i64 fm] 84 false), some (.mk (rlbL [] d) 102 false)] else False else bif goodL [] d && true && true then R Exit.normal [.pointer (some (.mk 0 0 (some 0))), .int .i64 r2, .int .i64 r3, .int .i64 r4, .bool ze, .bool on, .slice (some (.mk 2 0 (some 1))) k2 cap2, .int .i64 L, .int .i64 (IntKind.wrap .i64 (i + 1))] [some (.mk [.pointer (some (.mk 1 0 (some 0))), .string nu, .bool mi, .int .i64 us, .int .i64 at0, .int .i64 ld] 109 false), some (.mk [.string s, .bool nb, .int .i64 w, .int .i64 dg, .int .i64 sc, .bool sg, .slice (some (.mk 2 0 (some 1))) k cap, .int .u8 dr, .int .i64 f, .bool cr, .int .u8 fl, .int .i64 fm] 84 false), some (.mk (rlbL [] d) 102 false)] else False else False else False else False else bif goodL [] d && true && true then R (Exit.exit 0) [.pointer (some (.mk 0 0 (some 0))), .int .i64 r2, .int .i64 r3, .int .i64 r4, .bool ze, .bool on, .slice (some (.mk 2 0 (some 1))) k2 cap2, .int .i64 L, .int .i64 i] [some (.mk [.pointer (some (.mk 1 0 (some 0))), .string nu, .bool mi, .int .i64 us, .int .i64 at0, .int .i64 ld] 109 false), some (.mk [.string s, .bool nb, .int .i64 w, .int .i64 dg, .int .i64 sc, .bool sg, .slice (some (.mk 2 0 (some 1))) k cap, .int .u8 dr, .int .i64 f, .bool cr, .int .u8 fl, .int .i64 fm] 84 false), some (.mk (rlbL [] d) 102 false)] else False) := by kernel_rfl
theorem l90_0 : ∀ t m n K, S90_0.hA t m n K → Ab.Sem Tryz.prog Tryz.f90.ntmps (.loop (loopOf Tryz.f90 0)) t m n K := by
 refine loop_specA ok_G32 hmix (by kernel_rfl) (lok_none _) S90_0 V90_0 B90_0 (fun (r2, r3, r4, ze, on, k2, cap2, L, i, s, nb, w, dg, sc, sg, k, cap, dr, f, cr, fl, fm, nu, mi, us, at0, ld, d) => (k2 - i).toNat) ?_ ?_ ?_
 ·intro vs bs s h
  simp only [S90_0] at h
  split at h
  all_goals first | (cases h; exact ⟨rfl, rfl⟩) | cases h | (split at h <;> first | (rename_i hq; cases h; have hq := Nat.eq_of_beq_eq_true hq; subst hq; exact ⟨rfl, rfl⟩) | cases h)
 ·exact fun ⟨r2, r3, r4, ze, on, k2, cap2, L, i, s, nb, w, dg, sc, sg, k, cap, dr, f, cr, fl, fm, nu, mi, us, at0, ld, d⟩ hp => by
   simp only [S90_0, Bool.and_eq_true] at hp
   have hr := rowIOK_iff.1 hp.1
   simp [V90_0, B90_0, S90_0, idsLt, idsLtB, idsL, ids, ids_plainL hr.plain]
 ·intro ⟨r2, r3, r4, ze, on, k2, cap2, L, i, s, nb, w, dg, sc, sg, k, cap, dr, f, cr, fl, fm, nu, mi, us, at0, ld, d⟩ jk Z hp hf
  rw [r90_0]
  simp only [S90_0] at hp hf
  simp only [Bool.and_eq_true, decide_eq_true_eq] at hp
  obtain ⟨hR, hp⟩ := hp
  have hr := rowIOK_iff.1 hR
  have hzl := zi_length hr
  have e0 : 0 + i.toNat * 1 = i.toNat := by omega
  rw [e0]
  simp only [hr.rlb]
  have hg : (goodL [] d && true && true) = true := by rw [hr.good]; rfl
  refine cond_intro (fun h => ?_) (fun h => ?_)
  ·have h := of_decide_eq_true h
   obtain ⟨a1, a3⟩ := hr.at hp.1 (by omega)
   rw [a3, enOn] at hf
   rw [a1, w64 (n := i + 1) (by omega)]
   generalize intAt d i.toNat = c at *
   refine c_t (decide_eq_true (by omega)) (c_t rfl (c_t (by simp) (cond_intro (fun z => c_t hg ?_) (fun z => c_t hg ?_))))
   ·rw [z, cond_true] at hf
    exact hf i
   ·rw [z, cond_false] at hf
    exact ⟨(r2, r3, r4, ze, on, k2, cap2, L, i + 1, s, nb, w, dg, sc, sg, k, cap, dr, f, cr, fl, fm, nu, mi, us, at0, ld, d), rfl, rfl, by simp only [S90_0, Bool.and_eq_true, decide_eq_true_eq]; exact ⟨hR, by omega, by omega, by omega, by omega, hp.2.2.2.2⟩, by simp only; omega, hf⟩
  ·have h := of_decide_eq_false h
   rw [hr.end (by omega), enOn] at hf
   rw [hp.2.2.2.2]
   exact c_t hg (hf i)
def V90_2 : Int × Int × Int × Bool × Nat × Nat × Int × Int × ByteArray × Bool × Int × Int × Int × Bool × Nat × Nat × Int × Int × Bool × Int × Int × ByteArray × Bool × Int × Int × Int × List Value → List Value := fun (r2, aa, kk, ze, k2, cap2, L, i, s, nb, w, dg, sc, sg, k, cap, dr, f, cr, fl, fm, nu, mi, us, at0, ld, d) => [.pointer (some ⟨0, 0, some 0⟩), I r2, I aa, I kk, B ze, .slice (some ⟨2, 0, some 1⟩) k2 cap2, I L, I i]
def B90_2 : Int × Int × Int × Bool × Nat × Nat × Int × Int × ByteArray × Bool × Int × Int × Int × Bool × Nat × Nat × Int × Int × Bool × Int × Int × ByteArray × Bool × Int × Int × Int × List Value → List (Option Blk) := fun (r2, aa, kk, ze, k2, cap2, L, i, s, nb, w, dg, sc, sg, k, cap, dr, f, cr, fl, fm, nu, mi, us, at0, ld, d) => [some ⟨[.pointer (some ⟨1, 0, some 0⟩), .string nu, .bool mi, .int .i64 us, .int .i64 at0, .int .i64 ld], 109, false⟩, some ⟨[.string s, .bool nb, .int .i64 w, .int .i64 dg, .int .i64 sc, .bool sg, .slice (some ⟨2, 0, some 1⟩) k cap, .int .u8 dr, .int .i64 f, .bool cr, .int .u8 fl, .int .i64 fm], 84, false⟩, some ⟨d, 102, false⟩]
def S90_2 : LSpecA (Int × Int × Int × Bool × Nat × Nat × Int × Int × ByteArray × Bool × Int × Int × Int × Bool × Nat × Nat × Int × Int × Bool × Int × Int × ByteArray × Bool × Int × Int × Int × List Value) where
 live := [0, 2, 3, 4, 5, 46, 47, 48]
 mid := [0, 1, 2]
 n := 140
 ap := []
 dec vs bs := match vs, bs with | [.pointer (some ⟨0, 0, some 0⟩), .int .i64 r2, .int .i64 aa, .int .i64 kk, .bool ze, .slice (some ⟨2, 0, some 1⟩) k2 cap2, .int .i64 L, .int .i64 i], [some ⟨[.pointer (some ⟨1, 0, some 0⟩), .string nu, .bool mi, .int .i64 us, .int .i64 at0, .int .i64 ld], 109, false⟩, some ⟨[.string s, .bool nb, .int .i64 w, .int .i64 dg, .int .i64 sc, .bool sg, .slice (some ⟨2, 0, some 1⟩) k cap, .int .u8 dr, .int .i64 f, .bool cr, .int .u8 fl, .int .i64 fm], 84, false⟩, some ⟨d, 102, false⟩] => some (r2, aa, kk, ze, k2, cap2, L, i, s, nb, w, dg, sc, sg, k, cap, dr, f, cr, fl, fm, nu, mi, us, at0, ld, d) | _, _ => none
 pre := fun (r2, aa, kk, ze, k2, cap2, L, i, s, nb, w, dg, sc, sg, k, cap, dr, f, cr, fl, fm, nu, mi, us, at0, ld, d) => rowIOK d k2 cap2 && decide (0 ≤ i ∧ i ≤ k2 ∧ k2 ≤ 1000 ∧ L = k2 ∧ 0 ≤ kk ∧ kk ≤ i ∧ 0 ≤ aa ∧ aa ≤ i ∧ kk + cn1 ((zc d k2).drop i.toNat) ≤ nu.size)
 fin := fun (r2, aa, kk, ze, k2, cap2, L, i, s, nb, w, dg, sc, sg, k, cap, dr, f, cr, fl, fm, nu, mi, us, at0, ld, d) Z => (∀ a' k' i', enGo ze fm ((zc d k2).drop i.toNat) ((bz nu).drop kk.toNat) aa = a' → 0 ≤ a' → Z .ret [.pointer (some ⟨0, 0, some 0⟩), I a', I a', I k', B ze, .slice (some ⟨2, 0, some 1⟩) k2 cap2, I L, I i'] [some ⟨[.pointer (some ⟨1, 0, some 0⟩), .string nu, .bool mi, .int .i64 us, .int .i64 at0, .int .i64 ld], 109, false⟩, some ⟨[.string s, .bool nb, .int .i64 w, .int .i64 dg, .int .i64 sc, .bool sg, .slice (some ⟨2, 0, some 1⟩) k cap, .int .u8 dr, .int .i64 f, .bool cr, .int .u8 fl, .int .i64 fm], 84, false⟩, some ⟨d, 102, false⟩]) ∧ (enGo ze fm ((zc d k2).drop i.toNat) ((bz nu).drop kk.toNat) aa = -1 → ∀ a' k' i', Z (.exit 2) [.pointer (some ⟨0, 0, some 0⟩), I r2, I a', I k', B ze, .slice (some ⟨2, 0, some 1⟩) k2 cap2, I L, I i'] [some ⟨[.pointer (some ⟨1, 0, some 0⟩), .string nu, .bool mi, .int .i64 us, .int .i64 at0, .int .i64 ld], 109, false⟩, some ⟨[.string s, .bool nb, .int .i64 w, .int .i64 dg, .int .i64 sc, .bool sg, .slice (some ⟨2, 0, some 1⟩) k cap, .int .u8 dr, .int .i64 f, .bool cr, .int .u8 fl, .int .i64 fm], 84, false⟩, some ⟨d, 102, false⟩])
theorem r90_2 (r2 : Int) (aa : Int) (kk : Int) (ze : Bool) (k2 : Nat) (cap2 : Nat) (L : Int) (i : Int) (s : ByteArray) (nb : Bool) (w : Int) (dg : Int) (sc : Int) (sg : Bool) (k : Nat) (cap : Nat) (dr : Int) (f : Int) (cr : Bool) (fl : Int) (fm : Int) (nu : ByteArray) (mi : Bool) (us : Int) (at0 : Int) (ld : Int) (d : List Value) (jk : Tmps) (R : Exit → List Value → List (Option Blk) → Prop) : (codeQ Tryz.prog G32 noL Tryz.f90.ntmps (loopOf Tryz.f90 2) (tl S90_2.live (V90_2 (r2, aa, kk, ze, k2, cap2, L, i, s, nb, w, dg, sc, sg, k, cap, dr, f, cr, fl, fm, nu, mi, us, at0, ld, d)) jk) (ml S90_2.mid (B90_2 (r2, aa, kk, ze, k2, cap2, L, i, s, nb, w, dg, sc, sg, k, cap, dr, f, cr, fl, fm, nu, mi, us, at0, ld, d))) S90_2.n fun e t' m' _ => S90_2.out R e t' m') = ( bif decide (i < L) then bif decide (0 ≤ i ∧ i < (↑k2 : Int)) then bif isIntAt IntKind.i64 d (0 + Int.toNat i * 1) then bif intAt d (0 + Int.toNat i * 1) == 0 then bif goodL [] d && true && true then R Exit.ret [.pointer (some (.mk 0 0 (some 0))), .int .i64 aa, .int .i64 aa, .int .i64 kk, .bool ze, .slice (some (.mk 2 0 (some 1))) k2 cap2, .int .i64 L, .int .i64 i] [some (.mk [.pointer (some (.mk 1 0 (some 0))), .string nu, .bool mi, .int .i64 us, .int .i64 at0, .int .i64 ld] 109 false), some (.mk [.string s, .bool nb, .int .i64 w, .int .i64 dg, .int .i64 sc, .bool sg, .slice (some (.mk 2 0 (some 1))) k cap, .int .u8 dr, .int .i64 f, .bool cr, .int .u8 fl, .int .i64 fm] 84 false), some (.mk (rlbL [] d) 102 false)] else False else bif intAt d (0 + Int.toNat i * 1) == 1 then bif decide (0 ≤ kk ∧ kk < (↑(ByteArray.size nu) : Int)) then bif byteAt nu (Int.toNat kk) != 48 then bif goodL [] d && true && true then R Exit.ret [.pointer (some (.mk 0 0 (some 0))), .int .i64 aa, .int .i64 aa, .int .i64 kk, .bool ze, .slice (some (.mk 2 0 (some 1))) k2 cap2, .int .i64 L, .int .i64 i] [some (.mk [.pointer (some (.mk 1 0 (some 0))), .string nu, .bool mi, .int .i64 us, .int .i64 at0, .int .i64 ld] 109 false), some (.mk [.string s, .bool nb, .int .i64 w, .int .i64 dg, .int .i64 sc, .bool sg, .slice (some (.mk 2 0 (some 1))) k cap, .int .u8 dr, .int .i64 f, .bool cr, .int .u8 fl, .int .i64 fm] 84 false), some (.mk (rlbL [] d) 102 false)] else False else bif goodL [] d && true && true then R Exit.normal [.pointer (some (.mk 0 0 (some 0))), .int .i64 r2, .int .i64 (IntKind.wrap .i64 (aa + 1)), .int .i64 (IntKind.wrap .i64 (kk + 1)), .bool ze, .slice (some (.mk 2 0 (some 1))) k2 cap2, .int .i64 L, .int .i64 (IntKind.wrap .i64 (i + 1))] [some (.mk [.pointer (some (.mk 1 0 (some 0))), .string nu, .bool mi, .int .i64 us, .int .i64 at0, .int .i64 ld] 109 false), some (.mk [.string s, .bool nb, .int .i64 w, .int .i64 dg, .int .i64 sc, .bool sg, .slice (some (.mk 2 0 (some 1))) k cap, .int .u8 dr, .int .i64 f, .bool cr, .int .u8 fl, .int .i64 fm] 84 false), some (.mk (rlbL [] d) 102 false)] else False else False else bif intAt d (0 + Int.toNat i * 1) == 2 then bif decide (fm > 0) || true then bif decide (fm > 0) || !ze then bif goodL [] d && true && true then R Exit.ret [.pointer (some (.mk 0 0 (some 0))), .int .i64 aa, .int .i64 aa, .int .i64 kk, .bool ze, .slice (some (.mk 2 0 (some 1))) k2 cap2, .int .i64 L, .int .i64 i] [some (.mk [.pointer (some (.mk 1 0 (some 0))), .string nu, .bool mi, .int .i64 us, .int .i64 at0, .int .i64 ld] 109 false), some (.mk [.string s, .bool nb, .int .i64 w, .int .i64 dg, .int .i64 sc, .bool sg, .slice (some (.mk 2 0 (some 1))) k cap, .int .u8 dr, .int .i64 f, .bool cr, .int .u8 fl, .int .i64 fm] 84 false), some (.mk (rlbL [] d) 102 false)] else False else bif goodL [] d && true && true then R Exit.normal [.pointer (some (.mk 0 0 (some 0))), .int .i64 r2, .int .i64 aa, .int .i64 kk, .bool ze, .slice (some (.mk 2 0 (some 1))) k2 cap2, .int .i64 L, .int .i64 (IntKind.wrap .i64 (i + 1))] [some (.mk [.pointer (some (.mk 1 0 (some 0))), .string nu, .bool mi, .int .i64 us, .int .i64 at0, .int .i64 ld] 109 false), some (.mk [.string s, .bool nb, .int .i64 w, .int .i64 dg, .int .i64 sc, .bool sg, .slice (some (.mk 2 0 (some 1))) k cap, .int .u8 dr, .int .i64 f, .bool cr, .int .u8 fl, .int .i64 fm] 84 false), some (.mk (rlbL [] d) 102 false)] else False else False else bif goodL [] d && true && true then R Exit.normal [.pointer (some (.mk 0 0 (some 0))), .int .i64 r2, .int .i64 (IntKind.wrap .i64 (aa + 1)), .int .i64 kk, .bool ze, .slice (some (.mk 2 0 (some 1))) k2 cap2, .int .i64 L, .int .i64 (IntKind.wrap .i64 (i + 1))] [some (.mk [.pointer (some (.mk 1 0 (some 0))), .string nu, .bool mi, .int .i64 us, .int .i64 at0, .int .i64 ld] 109 false), some (.mk [.string s, .bool nb, .int .i64 w, .int .i64 dg, .int .i64 sc, .bool sg, .slice (some (.mk 2 0 (some 1))) k cap, .int .u8 dr, .int .i64 f, .bool cr, .int .u8 fl, .int .i64 fm] 84 false), some (.mk (rlbL [] d) 102 false)] else False else False else False else bif goodL [] d && true && true then R (Exit.exit 2) [.pointer (some (.mk 0 0 (some 0))), .int .i64 r2, .int .i64 aa, .int .i64 kk, .bool ze, .slice (some (.mk 2 0 (some 1))) k2 cap2, .int .i64 L, .int .i64 i] [some (.mk [.pointer (some (.mk 1 0 (some 0))), .string nu, .bool mi, .int .i64 us, .int .i64 at0, .int .i64 ld] 109 false), some (.mk [.string s, .bool nb, .int .i64 w, .int .i64 dg, .int .i64 sc, .bool sg, .slice (some (.mk 2 0 (some 1))) k cap, .int .u8 dr, .int .i64 f, .bool cr, .int .u8 fl, .int .i64 fm] 84 false), some (.mk (rlbL [] d) 102 false)] else False) := by kernel_rfl
theorem l90_2 : ∀ t m n K, S90_2.hA t m n K → Ab.Sem Tryz.prog Tryz.f90.ntmps (.loop (loopOf Tryz.f90 2)) t m n K := by
 refine loop_specA ok_G32 hmix (by kernel_rfl) (lok_none _) S90_2 V90_2 B90_2 (fun (r2, aa, kk, ze, k2, cap2, L, i, s, nb, w, dg, sc, sg, k, cap, dr, f, cr, fl, fm, nu, mi, us, at0, ld, d) => (k2 - i).toNat) ?_ ?_ ?_
 ·intro vs bs s h
  simp only [S90_2] at h
  split at h
  all_goals first | (cases h; exact ⟨rfl, rfl⟩) | cases h | (split at h <;> first | (rename_i hq; cases h; have hq := Nat.eq_of_beq_eq_true hq; subst hq; exact ⟨rfl, rfl⟩) | cases h)
 ·exact fun ⟨r2, aa, kk, ze, k2, cap2, L, i, s, nb, w, dg, sc, sg, k, cap, dr, f, cr, fl, fm, nu, mi, us, at0, ld, d⟩ hp => by
   simp only [S90_2, Bool.and_eq_true] at hp
   have hr := rowIOK_iff.1 hp.1
   simp [V90_2, B90_2, S90_2, idsLt, idsLtB, idsL, ids, ids_plainL hr.plain]
 ·intro ⟨r2, aa, kk, ze, k2, cap2, L, i, s, nb, w, dg, sc, sg, k, cap, dr, f, cr, fl, fm, nu, mi, us, at0, ld, d⟩ jk Z hp hf
  rw [r90_2]
  simp only [S90_2] at hp hf
  simp only [Bool.and_eq_true, decide_eq_true_eq] at hp
  obtain ⟨hR, hp⟩ := hp
  have hr := rowIOK_iff.1 hR
  have hzl := zi_length hr
  have e0 : 0 + i.toNat * 1 = i.toNat := by omega
  rw [e0]
  simp only [hr.rlb]
  have hg : (goodL [] d && true && true) = true := by rw [hr.good]; rfl
  refine cond_intro (fun h => ?_) (fun h => ?_)
  ·have h := of_decide_eq_true h
   obtain ⟨a1, a3⟩ := hr.at hp.1 (by omega)
   rw [a3] at hp hf
   rw [enGo] at hf
   rw [cn1] at hp
   rw [a1, w64 (n := i + 1) (by omega)]
   have hc := cn1_nn ((zc d k2).drop (i + 1).toNat)
   generalize intAt d i.toNat = c at *
   refine c_t (decide_eq_true (by omega)) (c_t rfl (cond_intro (fun z => c_t hg ?_) (fun z => ?_)))
   ·rw [z, cond_true] at hf
    exact hf.1 aa kk i rfl (by omega)
   ·rw [z, cond_false] at hf
    refine cond_intro (fun z => ?_) (fun z => ?_)
    ·rw [z, cond_true] at hf hp
     obtain ⟨hp1, hp2, hp3, hp4, hp5, hp6, hp7, hp8⟩ := hp
     rw [bz_at hp5 (by omega), List.headD_cons, List.tail_cons] at hf
     refine c_t (decide_eq_true (by omega)) (cond_intro (fun z => c_t hg ?_) (fun z => c_t hg ?_))
     ·rw [z, cond_true] at hf
      exact hf.1 aa kk i rfl (by omega)
     ·rw [z, cond_false] at hf
      rw [w64 (n := aa + 1) (by omega), w64 (n := kk + 1) (by omega)]
      exact ⟨(r2, aa + 1, kk + 1, ze, k2, cap2, L, i + 1, s, nb, w, dg, sc, sg, k, cap, dr, f, cr, fl, fm, nu, mi, us, at0, ld, d), rfl, rfl, by simp only [S90_2, Bool.and_eq_true, decide_eq_true_eq]; exact ⟨hR, by omega⟩, by simp only; omega, hf⟩
    ·rw [z, cond_false] at hf hp
     refine cond_intro (fun z => c_t (by simp) (cond_intro (fun z2 => c_t hg ?_) (fun z2 => c_t hg ?_))) (fun z => c_t hg ?_)
     ·rw [z, cond_true, z2, cond_true] at hf
      exact hf.1 aa kk i rfl (by omega)
     ·rw [z, cond_true, z2, cond_false] at hf
      exact ⟨(r2, aa, kk, ze, k2, cap2, L, i + 1, s, nb, w, dg, sc, sg, k, cap, dr, f, cr, fl, fm, nu, mi, us, at0, ld, d), rfl, rfl, by simp only [S90_2, Bool.and_eq_true, decide_eq_true_eq]; exact ⟨hR, by omega⟩, by simp only; omega, hf⟩
     ·rw [z, cond_false] at hf
      rw [w64 (n := aa + 1) (by omega)]
      exact ⟨(r2, aa + 1, kk, ze, k2, cap2, L, i + 1, s, nb, w, dg, sc, sg, k, cap, dr, f, cr, fl, fm, nu, mi, us, at0, ld, d), rfl, rfl, by simp only [S90_2, Bool.and_eq_true, decide_eq_true_eq]; exact ⟨hR, by omega⟩, by simp only; omega, hf⟩
  ·have h := of_decide_eq_false h
   rw [hr.end (by omega), enGo] at hf
   exact c_t hg (hf.2 rfl aa kk i)
def pnL (x : Nat) (nu : ByteArray) (mi : Bool) (us at0 ld : Int) : List Value := [.pointer (some ⟨x, 0, some 0⟩), .string nu, .bool mi, .int .i64 us, .int .i64 at0, .int .i64 ld]
def vwF3 (p c d : List Value) : Lk := fun j => match Nat.beq j 0 with | true => some ⟨p, 109, false⟩ | false => match Nat.beq j 1 with | true => some ⟨c, 84, false⟩ | false => match Nat.beq j 2 with | true => some ⟨d, 102, false⟩ | false => none
def rho3 (a x y : Nat) : Nat → Nat := fun j => match j with | 0 => a | 1 => x | _ => y
theorem sub_F3 {m : Lk} {a x y k cap : Nat} {nu : ByteArray} {mi : Bool} {us at0 ld : Int} {s : ByteArray} {nb : Bool} {w d sc : Int} {sg : Bool} {dr f : Int} {cr : Bool} {fl fm : Int} {own own2 own3 : Bool} {r : List Value} (hr : plainL r = true)
  (hp : m a = some ⟨pnL x nu mi us at0 ld, 109, own⟩) (ha : m x = some ⟨fmL s nb w d sc sg y k cap dr f cr fl fm, 84, own2⟩) (hx : m y = some ⟨r, 102, own3⟩) :
  SubM m (rho3 a x y) (vwF3 (pnL 1 nu mi us at0 ld) (fmL s nb w d sc sg 2 k cap dr f cr fl fm) r) 3 := by
 have hget : ∀ j b, vwF3 (pnL 1 nu mi us at0 ld) (fmL s nb w d sc sg 2 k cap dr f cr fl fm) r j = some b → (j = 0 ∧ b = ⟨pnL 1 nu mi us at0 ld, 109, false⟩) ∨ (j = 1 ∧ b = ⟨fmL s nb w d sc sg 2 k cap dr f cr fl fm, 84, false⟩) ∨ (j = 2 ∧ b = ⟨r, 102, false⟩) := fun j b h => by
  simp only [vwF3] at h
  split at h
  ·rename_i h0; cases h; exact .inl ⟨Nat.eq_of_beq_eq_true h0, rfl⟩
  ·split at h
   ·rename_i h0; cases h; exact .inr (.inl ⟨Nat.eq_of_beq_eq_true h0, rfl⟩)
   ·split at h
    ·rename_i h0; cases h; exact .inr (.inr ⟨Nat.eq_of_beq_eq_true h0, rfl⟩)
    ·cases h
 refine ⟨fun j b h => ?_, fun j b h => ?_⟩
 ·rcases hget j b h with ⟨rfl, rfl⟩ | ⟨rfl, rfl⟩ | ⟨rfl, rfl⟩
  ·refine ⟨by omega, fun i hi => ?_⟩
   have : i = 1 := by simpa [pnL, idsL, ids] using hi
   omega
  ·refine ⟨by omega, fun i hi => ?_⟩
   have : i = 2 := by simpa [fmL, idsL, ids] using hi
   omega
  ·exact ⟨by omega, fun i hi => by rw [ids_plainL hr] at hi; cases hi⟩
 ·rcases hget j b h with ⟨rfl, rfl⟩ | ⟨rfl, rfl⟩ | ⟨rfl, rfl⟩
  ·refine ⟨rfl, ⟨pnL x nu mi us at0 ld, 109, own⟩, ?_, fun ι => ?_⟩
   ·show noIt (m a) = _
    rw [hp]
    simp only [noIt]
    have : (own && Nat.beq 109 itTy) = false := by cases own <;> rfl
    rw [this]
   ·simp [pnL, ren, ren1, rho3]
  ·refine ⟨rfl, ⟨fmL s nb w d sc sg y k cap dr f cr fl fm, 84, own2⟩, ?_, fun ι => ?_⟩
   ·show noIt (m x) = _
    rw [ha]
    simp only [noIt]
    have : (own2 && Nat.beq 84 itTy) = false := by cases own2 <;> rfl
    rw [this]
   ·simp [fmL, ren, ren1, rho3]
  ·refine ⟨rfl, ⟨r, 102, own3⟩, ?_, fun ι => renMap_congr fun k hk => by rw [ids_plainL hr] at hk; cases hk⟩
   show noIt (m y) = _
   rw [hx]
   simp only [noIt]
   have : (own3 && Nat.beq 102 itTy) = false := by cases own3 <;> rfl
   rw [this]
theorem fn90 : Fn1 Tryz.prog 90 Tryz.f90 := ⟨Tryz.func90, by kernel_rfl, by kernel_rfl, by kernel_rfl⟩
theorem lok90 : LOKf Tryz.prog (twoL 0 S90_0.hA 2 S90_2.hA) Tryz.f90 := lokf_two (by kernel_rfl) (by kernel_rfl) l90_0 l90_2
def enV (nu : List Int) (fm : Int) (ro : List Int) : Int := bif enOn ro then enGo (trimZ nu [48]).isEmpty fm ro nu 0 else 0
theorem v90 (s : ByteArray) (nb : Bool) (w : Int) (dg : Int) (sc : Int) (sg : Bool) (k : Nat) (cap : Nat) (dr : Int) (f : Int) (cr : Bool) (fl : Int) (fm : Int) (nu : ByteArray) (mi : Bool) (us : Int) (at0 : Int) (ld : Int) (d : List Value) (R : Value → Prop) : (bodyQ Tryz.prog G32 (twoL 0 S90_0.hA 2 S90_2.hA) Tryz.f90 [.pointer (some ⟨0, 0, some 0⟩)] (vwF3 (pnL 1 nu mi us at0 ld) (fmL s nb w dg sc sg 2 k cap dr f cr fl fm) d) 3 (fun v _ _ => R v)) = ( bif decide (ByteArray.size nu ≤ 1000) && (decide (ByteArray.size (ByteArray.mk #[48]) ≤ 1000) && asc (bz (ByteArray.mk #[48]))) then bif goodL [] d && true && true && (idsLt 100 (rlbL [] d) && true) then bif LSpec.pre (LSpecA.toLSpec S90_0) (0, 0, 0, ByteArray.toList (szO (trimZ (bz nu) (bz (ByteArray.mk #[48])))) == ByteArray.toList (ByteArray.mk #[]), false, k, cap, natO k, 0, s, nb, w, dg, sc, sg, k, cap, dr, f, cr, fl, fm, nu, mi, us, at0, ld, rlbL [] d) then ∀ (i' : Int), bif idsLt 100 (rlbL [] d) && true then ∀ (x : Tmps), bif !enOn (List.drop (Int.toNat 0) (zc (rlbL [] d) k)) then R (.int .i64 0) else bif goodL [] (rlbL [] d) && true && true && (idsLt 140 (rlbL [] (rlbL [] d)) && true) then bif LSpec.pre (LSpecA.toLSpec S90_2) (0, 0, 0, ByteArray.toList (szO (trimZ (bz nu) (bz (ByteArray.mk #[48])))) == ByteArray.toList (ByteArray.mk #[]), k, cap, natO k, 0, s, nb, w, dg, sc, sg, k, cap, dr, f, cr, fl, fm, nu, mi, us, at0, ld, rlbL [] (rlbL [] d)) then (∀ (a' k' i' : Int), enGo (ByteArray.toList (szO (trimZ (bz nu) (bz (ByteArray.mk #[48])))) == ByteArray.toList (ByteArray.mk #[])) fm (List.drop (Int.toNat 0) (zc (rlbL [] (rlbL [] d)) k)) (List.drop (Int.toNat 0) (bz nu)) 0 = a' → 0 ≤ a' → bif idsLt 140 (rlbL [] (rlbL [] d)) && true then ∀ (x : Tmps), R (.int .i64 a') else False) ∧ (enGo (ByteArray.toList (szO (trimZ (bz nu) (bz (ByteArray.mk #[48])))) == ByteArray.toList (ByteArray.mk #[])) fm (List.drop (Int.toNat 0) (zc (rlbL [] (rlbL [] d)) k)) (List.drop (Int.toNat 0) (bz nu)) 0 = -1 → ∀ (a' k' i' : Int), bif idsLt 140 (rlbL [] (rlbL [] d)) && true then ∀ (x : Tmps), R (.int .i64 (-1)) else False) else False else False else False else False else False else False) := by kernel_rfl
theorem w90 (s : ByteArray) (nb : Bool) (w : Int) (dg : Int) (sc : Int) (sg : Bool) (k : Nat) (cap : Nat) (dr : Int) (f : Int) (cr : Bool) (fl : Int) (fm : Int) (nu : ByteArray) (mi : Bool) (us : Int) (at0 : Int) (ld : Int) (d : List Value) (hR : rowIOK d k cap = true) (hk : k ≤ 1000) (hn : nu.size ≤ 1000) (hc : cn1 (zc d k) ≤ nu.size) {R : Value → Prop} (hr : R (.int .i64 (enV (bz nu) fm (zc d k)))) :
  DoesM Tryz.prog G32 (twoL 0 S90_0.hA 2 S90_2.hA) Tryz.f90 [.pointer (some ⟨0, 0, some 0⟩)] (vwF3 (pnL 1 nu mi us at0 ld) (fmL s nb w dg sc sg 2 k cap dr f cr fl fm) d) 3 (fun v _ _ => R v) := by
 rw [DoesM, v90]
 have h := rowIOK_iff.1 hR
 have k1 : bz ⟨#[48]⟩ = [48] := rfl
 have e1 : (ByteArray.toList (szO (trimZ (bz nu) (bz (ByteArray.mk #[48])))) == ByteArray.toList (ByteArray.mk #[])) = (trimZ (bz nu) [48]).isEmpty := by
  rw [szO_eq, toList_nil, bz_sz (trim_isB (bz_isB nu)), k1]
 have z0 : Int.toNat 0 = 0 := rfl
 simp only [h.rlb, e1, z0, List.drop_zero]
 have hg : ∀ n, (goodL [] d && true && true && (idsLt n d && true)) = true := fun n => by rw [h.good]; simp [idsLt, idsL, ids_plainL h.plain]
 have hi : ∀ n, (idsLt n d && true) = true := fun n => by simp [idsLt, idsL, ids_plainL h.plain]
 have c1 : (decide (ByteArray.size (ByteArray.mk #[48]) ≤ 1000) && asc (bz (ByteArray.mk #[48]))) = true := by kernel_rfl
 have c2 : (decide (nu.size ≤ 1000) && (decide (ByteArray.size (ByteArray.mk #[48]) ≤ 1000) && asc (bz (ByteArray.mk #[48])))) = true := by rw [c1, decide_eq_true hn]; rfl
 refine c_t c2 (c_t (hg _) (c_t ?_ fun i' => c_t (hi _) fun _ => cond_intro (fun ho => ?_) (fun ho => c_t (hg _) (c_t ?_ ⟨fun a' k' i' ha h0 => c_t (hi _) fun _ => ?_, fun ha a' k' i' => c_t (hi _) fun _ => ?_⟩))))
 ·simp only [S90_0, Bool.and_eq_true, decide_eq_true_eq, natO_eq]
  exact ⟨hR, by omega, by omega, by omega, trivial, trivial⟩
 ·rw [Bool.not_eq_true'] at ho
  rw [enV, ho] at hr
  exact hr
 ·simp only [S90_2, Bool.and_eq_true, decide_eq_true_eq, natO_eq, z0, List.drop_zero]
  exact ⟨hR, by omega, by omega, by omega, trivial, by omega, by omega, by omega, by omega, by omega⟩
 ·rw [Bool.not_eq_false'] at ho
  rw [enV, ho, cond_true, ha] at hr
  exact hr
 ·rw [Bool.not_eq_false'] at ho
  rw [enV, ho, cond_true, ha] at hr
  exact hr
def h90 : List Value → Lk → Nat → (Value → Lk → Nat → Prop) → Prop := fun args m n K => match args with
 | [.pointer (some ⟨a, 0, some 0⟩)] => match m a with
  | some ⟨[.pointer (some ⟨x, 0, some 0⟩), .string nu, .bool mi, .int .i64 us, .int .i64 at0, .int .i64 ld], 109, own⟩ => match m x with
   | some ⟨[.string s, .bool nb, .int .i64 w, .int .i64 dg, .int .i64 sc, .bool sg, .slice (some ⟨y, 0, some 1⟩) k cap, .int .u8 dr, .int .i64 f, .bool cr, .int .u8 fl, .int .i64 fm], 84, own2⟩ => match m y with
    | some ⟨d, 102, own3⟩ =>
     match cnd (rowIOK d k cap && decide (k ≤ 1000 ∧ nu.size ≤ 1000 ∧ cn1 (zc d k) ≤ nu.size)) with
     | true => K (.int .i64 (enV (bz nu) fm (zc d k))) m n
     | false => False
    | _ => False
   | _ => False
  | _ => False
 | _ => False
theorem h90_ok : GenOK Tryz.prog 90 h90 := by
 refine gen_sub ok_G32 hmix fn90 lok90 fun args m n K h => ?_
 unfold h90 at h
 split at h
 case h_2 => exact h.elim
 rename_i a
 split at h
 case h_2 => exact h.elim
 rename_i x nu mi us at0 ld own hm
 split at h
 case h_2 => exact h.elim
 rename_i s nb w dg sc sg y k cap dr f cr fl fm own2 hx
 split at h
 case h_2 => exact h.elim
 rename_i d own3 hy
 split at h
 case h_2 => exact h.elim
 rename_i hc
 simp only [cnd, Bool.and_eq_true, decide_eq_true_eq] at hc
 obtain ⟨h1, h2, h3, h4⟩ := hc
 refine ⟨[.pointer (some ⟨0, 0, some 0⟩)], _, 3, rho3 a x y, .int .i64 (enV (bz nu) fm (zc d k)), sub_F3 (rowIOK_iff.1 h1).plain hm hx hy, fun ι => by simp [ren, ren1, rho3], Nat.le_of_ble_eq_true (by kernel_rfl), fun v hv j hj => ?_, rfl, w90 s nb w dg sc sg k cap dr f cr fl fm nu mi us at0 ld d h1 h2 h3 h4 (R := fun v => v = .int .i64 (enV (bz nu) fm (zc d k))) rfl, h⟩
 simp at hv
 subst hv
 have : j = 0 := by simpa [ids] using hj
 omega
end Go.Px
end
noncomputable section
set_option maxHeartbeats 3200000
namespace Go.Px
open Go Go.Ab Go.Proofs Go.Shelf
def G33 : Env := G32.addG 90 h90
def G34 : Env := G33.addG 123 (inlQ Tryz.prog G33 noL Tryz.f123)
def G35 : Env := ((((G34.addG 91 (inlQ Tryz.prog G34 noL Tryz.f91)).addG 92 (inlQ Tryz.prog G34 noL Tryz.f92)).addG 93 (inlQ Tryz.prog G34 noL Tryz.f93)).addG 94 (inlQ Tryz.prog G34 noL Tryz.f94)).addG 95 (inlQ Tryz.prog G34 noL Tryz.f95)
theorem fn123 : Fn1 Tryz.prog 123 Tryz.f123 := ⟨Tryz.func123, by kernel_rfl, by kernel_rfl, by kernel_rfl⟩
theorem fn91 : Fn1 Tryz.prog 91 Tryz.f91 := ⟨Tryz.func91, by kernel_rfl, by kernel_rfl, by kernel_rfl⟩
theorem fn92 : Fn1 Tryz.prog 92 Tryz.f92 := ⟨Tryz.func92, by kernel_rfl, by kernel_rfl, by kernel_rfl⟩
theorem fn93 : Fn1 Tryz.prog 93 Tryz.f93 := ⟨Tryz.func93, by kernel_rfl, by kernel_rfl, by kernel_rfl⟩
theorem fn94 : Fn1 Tryz.prog 94 Tryz.f94 := ⟨Tryz.func94, by kernel_rfl, by kernel_rfl, by kernel_rfl⟩
theorem fn95 : Fn1 Tryz.prog 95 Tryz.f95 := ⟨Tryz.func95, by kernel_rfl, by kernel_rfl, by kernel_rfl⟩
theorem fn64 : Fn1 Tryz.prog 64 Tryz.f64 := ⟨Tryz.func64, by kernel_rfl, by kernel_rfl, by kernel_rfl⟩
theorem ok_G33 : EnvOK Tryz.prog G33 := env_addG ok_G32 h90_ok
theorem ok_G34 : EnvOK Tryz.prog G34 := env_addG ok_G33 (gen_inlQ ok_G33 hmix fn123 lokf_none)
theorem ok_G35 : EnvOK Tryz.prog G35 := env_addG (env_addG (env_addG (env_addG (env_addG ok_G34 (gen_inlQ ok_G34 hmix fn91 lokf_none)) (gen_inlQ ok_G34 hmix fn92 lokf_none)) (gen_inlQ ok_G34 hmix fn93 lokf_none)) (gen_inlQ ok_G34 hmix fn94 lokf_none)) (gen_inlQ ok_G34 hmix fn95 lokf_none)
def wrC (f : Int) (cr : Bool) (n : Int) (mi : Bool) (ld fl : Int) (r c d i a : Int) : Int :=
 bif i == f then fl else bif cr && decide (i ≥ n - 2) then (bif !mi then 32 else c)
 else bif decide (r = 0) then fmZ c d mi else bif decide (r = 1) then (bif decide (a < ld) then fl else d)
 else bif decide (r = 3) then (bif c == 66 then 32 else bif decide (a < ld) then fl else c)
 else bif decide (r = 4) then (bif c == 83 && mi then 45 else bif c == 83 then 43 else bif (c == 43) == mi then 32 else c) else c
def wrT (f : Int) (cr : Bool) (n : Int) (r i : Int) : Bool := !(i == f) && (!(cr && decide (i ≥ n - 2)) && (decide (r = 0) || decide (r = 1)))
def wrGo (f : Int) (cr : Bool) (n : Int) (mi : Bool) (ld fl : Int) : List Int → List Int → List Int → Int → Int → List Int
 | [], _, _, _, _ => []
 | r :: rs, cs, ds, i, a => bif r == 2 then wrGo f cr n mi ld fl rs cs.tail ds (i + 1) a
  else wrC f cr n mi ld fl r (cs.headD 0) (ds.headD 0) i a :: wrGo f cr n mi ld fl rs cs.tail (bif wrT f cr n r i then ds.tail else ds) (i + 1) (a + 1)
def cdg : List Int → Int
 | [] => 0
 | r :: rs => (bif decide (r = 0) || decide (r = 1) then 1 else 0) + cdg rs
def roOK (l : List Int) : Bool := l.all fun r => decide (0 ≤ r ∧ r < 6)
def isHow : List Value → Bool
 | [.func (.func a) ⟨[]⟩ ⟨[]⟩, .func (.func b) ⟨[]⟩ ⟨[]⟩, .nilFunc, .func (.func c) ⟨[]⟩ ⟨[]⟩, .func (.func d) ⟨[]⟩ ⟨[]⟩, .func (.func e) ⟨[]⟩ ⟨[]⟩] => Nat.beq a 91 && (Nat.beq b 92 && (Nat.beq c 93 && (Nat.beq d 94 && Nat.beq e 95)))
 | _ => false
def how : List Value := [.func (.func 91) ⟨[]⟩ ⟨[]⟩, .func (.func 92) ⟨[]⟩ ⟨[]⟩, .nilFunc, .func (.func 93) ⟨[]⟩ ⟨[]⟩, .func (.func 94) ⟨[]⟩ ⟨[]⟩, .func (.func 95) ⟨[]⟩ ⟨[]⟩]
theorem isHow_eq {l : List Value} (h : isHow l = true) : l = how := by
 unfold isHow at h
 split at h
 ·simp only [Bool.and_eq_true, Nat.beq_eq] at h
  obtain ⟨rfl, rfl, rfl, rfl, rfl⟩ := h
  rfl
 ·cases h
theorem cdg_nn : ∀ l, 0 ≤ cdg l
 | [] => by simp [cdg]
 | r :: rs => by have := cdg_nn rs; rw [cdg]; cases decide (r = 0) || decide (r = 1) <;> simp <;> omega
theorem cdg_c {r : Int} {rs : List Int} : cdg rs ≤ cdg (r :: rs) := by rw [cdg]; cases decide (r = 0) || decide (r = 1) <;> simp <;> omega
theorem cdg_1 {r : Int} {rs : List Int} (h : r = 0 ∨ r = 1) : cdg (r :: rs) = 1 + cdg rs := by rw [cdg]; rcases h with rfl | rfl <;> rfl
theorem roOK_at {l : List Int} (h : roOK l = true) {j : Nat} {r : Int} {rs : List Int} (hj : l.drop j = r :: rs) : 0 ≤ r ∧ r < 6 := by
 simp only [roOK, List.all_eq_true, decide_eq_true_eq] at h
 exact h r (List.drop_subset j l (by rw [hj]; exact List.mem_cons_self))
theorem dgb_at {s : ByteArray} (h : dgL (bz s) = true) {j : Int} (h0 : 0 ≤ j) (hj : j < s.size) : 48 ≤ byteAt s j.toNat ∧ byteAt s j.toNat ≤ 57 := by
 simp only [dgL, List.all_eq_true, decide_eq_true_eq] at h
 exact h _ (List.drop_subset j.toNat (bz s) (by rw [bz_at h0 hj]; exact List.mem_cons_self))
theorem fm_a {c d : Int} {m : Bool} (h : (c == 89 && d == 48) = true) : fmZ c d m = 32 := by
 have : c = 89 ∧ d = 48 := by simpa using h
 rw [fmZ, if_pos this]
theorem fm_b {c d : Int} {m : Bool} (h : (c == 89 && d == 48) = false) (q : (c == 84 || bif c == 73 then !m || c == 82 && m else c == 82 && m) = true) : fmZ c d m = puZ (d - 48) m := by
 have h1 : ¬ (c = 89 ∧ d = 48) := fun e => by rw [e.1, e.2] at h; cases h
 rw [fmZ, if_neg h1, if_pos]
 cases m <;> by_cases a : c = 84 <;> by_cases b : c = 73 <;> by_cases e : c = 82 <;> simp_all
theorem fm_c {c d : Int} {m : Bool} (h : (c == 89 && d == 48) = false) (q : (c == 84 || bif c == 73 then !m || c == 82 && m else c == 82 && m) = false) : fmZ c d m = d := by
 have h1 : ¬ (c = 89 ∧ d = 48) := fun e => by rw [e.1, e.2] at h; cases h
 rw [fmZ, if_neg h1, if_neg]
 cases m <;> by_cases a : c = 84 <;> by_cases b : c = 73 <;> by_cases e : c = 82 <;> simp_all
def V64_0 : Bool × ByteArray × Int × Rw × Nat × Nat × Int × Int × ByteArray × Bool × Int × Int × Int × Bool × Nat × Nat × Int × Int × Bool × Int × Int × ByteArray × Bool × Int × Int × Int × List Value → List Value := fun (m2, r6, r7, o, k2, cap2, L, i, s, nb, w, dg, sc, sg, k, cap, dr, f, cr, fl, fm, nu, mi, us, at0, ld, d) => [.pointer (some ⟨0, 0, some 0⟩), .bool m2, .string r6, .int .i64 r7, .pointer (some ⟨8, 0, some 0⟩), .pointer (some ⟨22, 0, some 0⟩), o.v 200, .slice (some ⟨1, 0, some 1⟩) k2 cap2, .int .i64 L, .int .i64 i]
def B64_0 : Bool × ByteArray × Int × Rw × Nat × Nat × Int × Int × ByteArray × Bool × Int × Int × Int × Bool × Nat × Nat × Int × Int × Bool × Int × Int × ByteArray × Bool × Int × Int × Int × List Value → List (Option Blk) := fun (m2, r6, r7, o, k2, cap2, L, i, s, nb, w, dg, sc, sg, k, cap, dr, f, cr, fl, fm, nu, mi, us, at0, ld, d) => [some ⟨[.string s, .bool nb, .int .i64 w, .int .i64 dg, .int .i64 sc, .bool sg, .slice (some ⟨1, 0, some 1⟩) k cap, .int .u8 dr, .int .i64 f, .bool cr, .int .u8 fl, .int .i64 fm], 84, false⟩, some ⟨d, 102, false⟩, some ⟨[.pointer (some ⟨0, 0, some 0⟩), .string nu, .bool mi, .int .i64 us, .int .i64 at0, .int .i64 ld], 109, true⟩, some ⟨how, 112, true⟩, o.b]
def S64_0 : LSpecA (Bool × ByteArray × Int × Rw × Nat × Nat × Int × Int × ByteArray × Bool × Int × Int × Int × Bool × Nat × Nat × Int × Int × Bool × Int × Int × ByteArray × Bool × Int × Int × Int × List Value) where
 live := [0, 2, 6, 7, 8, 9, 10, 49, 50, 51]
 mid := [0, 1, 8, 22, 200]
 n := 210
 ap := [(.tmp 10, 200)]
 dec vs bs := match vs, bs with | [.pointer (some ⟨0, 0, some 0⟩), .bool m2, .string r6, .int .i64 r7, .pointer (some ⟨8, 0, some 0⟩), .pointer (some ⟨22, 0, some 0⟩), .slice none 0 0, .slice (some ⟨1, 0, some 1⟩) k2 cap2, .int .i64 L, .int .i64 i], [some ⟨[.string s, .bool nb, .int .i64 w, .int .i64 dg, .int .i64 sc, .bool sg, .slice (some ⟨1, 0, some 1⟩) k cap, .int .u8 dr, .int .i64 f, .bool cr, .int .u8 fl, .int .i64 fm], 84, false⟩, some ⟨d, 102, false⟩, some ⟨[.pointer (some ⟨0, 0, some 0⟩), .string nu, .bool mi, .int .i64 us, .int .i64 at0, .int .i64 ld], 109, true⟩, some ⟨hw, 112, true⟩, none] => (match isHow hw with | true => some (m2, r6, r7, .nil, k2, cap2, L, i, s, nb, w, dg, sc, sg, k, cap, dr, f, cr, fl, fm, nu, mi, us, at0, ld, d) | false => none) | [.pointer (some ⟨0, 0, some 0⟩), .bool m2, .string r6, .int .i64 r7, .pointer (some ⟨8, 0, some 0⟩), .pointer (some ⟨22, 0, some 0⟩), .slice (some ⟨200, 0, some 1⟩) om oc, .slice (some ⟨1, 0, some 1⟩) k2 cap2, .int .i64 L, .int .i64 i], [some ⟨[.string s, .bool nb, .int .i64 w, .int .i64 dg, .int .i64 sc, .bool sg, .slice (some ⟨1, 0, some 1⟩) k cap, .int .u8 dr, .int .i64 f, .bool cr, .int .u8 fl, .int .i64 fm], 84, false⟩, some ⟨d, 102, false⟩, some ⟨[.pointer (some ⟨0, 0, some 0⟩), .string nu, .bool mi, .int .i64 us, .int .i64 at0, .int .i64 ld], 109, true⟩, some ⟨hw, 112, true⟩, some ⟨od, 5, true⟩] => (match isHow hw with | true => some (m2, r6, r7, .own od om oc, k2, cap2, L, i, s, nb, w, dg, sc, sg, k, cap, dr, f, cr, fl, fm, nu, mi, us, at0, ld, d) | false => none) | _, _ => none
 pre := fun (m2, r6, r7, o, k2, cap2, L, i, s, nb, w, dg, sc, sg, k, cap, dr, f, cr, fl, fm, nu, mi, us, at0, ld, d) => o.ok && (rowIOK d k2 cap2 && (roOK (zc d k2) && (dgL (bz nu) && decide (m2 = mi ∧ 0 ≤ i ∧ i ≤ k2 ∧ k2 ≤ 1000 ∧ L = k2 ∧ k2 ≤ s.size ∧ s.size ≤ 1000 ∧ 0 ≤ us ∧ us ≤ i ∧ 0 ≤ at0 ∧ at0 ≤ i ∧ us + cdg ((zc d k2).drop i.toNat) ≤ nu.size ∧ o.z.length ≤ i))))
 fin := fun (m2, r6, r7, o, k2, cap2, L, i, s, nb, w, dg, sc, sg, k, cap, dr, f, cr, fl, fm, nu, mi, us, at0, ld, d) Z => (o.is = false → wrGo f cr s.size mi ld fl ((zc d k2).drop i.toNat) ((bz s).drop i.toNat) ((bz nu).drop us.toNat) i at0 = [] → ∀ us' at' i', Z (.exit 0) [.pointer (some ⟨0, 0, some 0⟩), .bool m2, .string r6, .int .i64 r7, .pointer (some ⟨8, 0, some 0⟩), .pointer (some ⟨22, 0, some 0⟩), .slice none 0 0, .slice (some ⟨1, 0, some 1⟩) k2 cap2, .int .i64 L, .int .i64 i'] [some ⟨[.string s, .bool nb, .int .i64 w, .int .i64 dg, .int .i64 sc, .bool sg, .slice (some ⟨1, 0, some 1⟩) k cap, .int .u8 dr, .int .i64 f, .bool cr, .int .u8 fl, .int .i64 fm], 84, false⟩, some ⟨d, 102, false⟩, some ⟨[.pointer (some ⟨0, 0, some 0⟩), .string nu, .bool mi, .int .i64 us', .int .i64 at', .int .i64 ld], 109, true⟩, some ⟨how, 112, true⟩, none]) ∧ (∀ us' at' i' od' om' oc', rowOK od' om' oc' = true → zc od' om' = o.z ++ wrGo f cr s.size mi ld fl ((zc d k2).drop i.toNat) ((bz s).drop i.toNat) ((bz nu).drop us.toNat) i at0 → Z (.exit 0) [.pointer (some ⟨0, 0, some 0⟩), .bool m2, .string r6, .int .i64 r7, .pointer (some ⟨8, 0, some 0⟩), .pointer (some ⟨22, 0, some 0⟩), .slice (some ⟨200, 0, some 1⟩) om' oc', .slice (some ⟨1, 0, some 1⟩) k2 cap2, .int .i64 L, .int .i64 i'] [some ⟨[.string s, .bool nb, .int .i64 w, .int .i64 dg, .int .i64 sc, .bool sg, .slice (some ⟨1, 0, some 1⟩) k cap, .int .u8 dr, .int .i64 f, .bool cr, .int .u8 fl, .int .i64 fm], 84, false⟩, some ⟨d, 102, false⟩, some ⟨[.pointer (some ⟨0, 0, some 0⟩), .string nu, .bool mi, .int .i64 us', .int .i64 at', .int .i64 ld], 109, true⟩, some ⟨how, 112, true⟩, some ⟨od', 5, true⟩])
theorem r64_0n (m2 : Bool) (r6 : ByteArray) (r7 : Int) (k2 : Nat) (cap2 : Nat) (L : Int) (i : Int) (s : ByteArray) (nb : Bool) (w : Int) (dg : Int) (sc : Int) (sg : Bool) (k : Nat) (cap : Nat) (dr : Int) (f : Int) (cr : Bool) (fl : Int) (fm : Int) (nu : ByteArray) (mi : Bool) (us : Int) (at0 : Int) (ld : Int) (d : List Value) (jk : Tmps) (R : Exit → List Value → List (Option Blk) → Prop) : (codeQ Tryz.prog G35 noL Tryz.f64.ntmps (loopOf Tryz.f64 0) (tl S64_0.live (V64_0 (m2, r6, r7, .nil, k2, cap2, L, i, s, nb, w, dg, sc, sg, k, cap, dr, f, cr, fl, fm, nu, mi, us, at0, ld, d)) jk) (ml S64_0.mid (B64_0 (m2, r6, r7, .nil, k2, cap2, L, i, s, nb, w, dg, sc, sg, k, cap, dr, f, cr, fl, fm, nu, mi, us, at0, ld, d))) S64_0.n fun e t' m' _ => S64_0.out R e t' m') = ( bif decide (i < L) then bif decide (0 ≤ i ∧ i < (↑k2 : Int)) then bif isIntAt IntKind.i64 d (0 + Int.toNat i * 1) then bif decide (0 ≤ i ∧ i < (↑(ByteArray.size s) : Int)) then bif intAt d (0 + Int.toNat i * 1) == 2 then bif goodL [] d && true && true then R Exit.normal [.pointer (some (.mk 0 0 (some 0))), .bool m2, .string r6, .int .i64 r7, .pointer (some (.mk 8 0 (some 0))), .pointer (some (.mk 22 0 (some 0))), .slice none 0 0, .slice (some (.mk 1 0 (some 1))) k2 cap2, .int .i64 L, .int .i64 (IntKind.wrap .i64 (i + 1))] [some (.mk [.string s, .bool nb, .int .i64 w, .int .i64 dg, .int .i64 sc, .bool sg, .slice (some (.mk 1 0 (some 1))) k cap, .int .u8 dr, .int .i64 f, .bool cr, .int .u8 fl, .int .i64 fm] 84 false), some (.mk (rlbL [] d) 102 false), some (.mk [.pointer (some (.mk 0 0 (some 0))), .string nu, .bool mi, .int .i64 us, .int .i64 at0, .int .i64 ld] 109 true), some (.mk [Value.func (Fn.func 91) (.mk []) (.mk []), Value.func (Fn.func 92) (.mk []) (.mk []), Value.nilFunc, Value.func (Fn.func 93) (.mk []) (.mk []), Value.func (Fn.func 94) (.mk []) (.mk []), Value.func (Fn.func 95) (.mk []) (.mk [])] 112 true), none] else False else bif i == f then ∀ (cap_1 : Nat) (tail : List Value), tailOK tail cap_1 1 1 = true → bif goodL [(240, 200)] d && (goodL [(240, 200)] (.int .u8 fl :: tail) && true) && true then R Exit.normal [.pointer (some (.mk 0 0 (some 0))), .bool m2, .string r6, .int .i64 r7, .pointer (some (.mk 8 0 (some 0))), .pointer (some (.mk 22 0 (some 0))), .slice (some (.mk 200 0 (some 1))) 1 cap_1, .slice (some (.mk 1 0 (some 1))) k2 cap2, .int .i64 L, .int .i64 (IntKind.wrap .i64 (i + 1))] [some (.mk [.string s, .bool nb, .int .i64 w, .int .i64 dg, .int .i64 sc, .bool sg, .slice (some (.mk 1 0 (some 1))) k cap, .int .u8 dr, .int .i64 f, .bool cr, .int .u8 fl, .int .i64 fm] 84 false), some (.mk (rlbL [(240, 200)] d) 102 false), some (.mk [.pointer (some (.mk 0 0 (some 0))), .string nu, .bool mi, .int .i64 us, .int .i64 (IntKind.wrap .i64 (at0 + 1)), .int .i64 ld] 109 true), some (.mk [Value.func (Fn.func 91) (.mk []) (.mk []), Value.func (Fn.func 92) (.mk []) (.mk []), Value.nilFunc, Value.func (Fn.func 93) (.mk []) (.mk []), Value.func (Fn.func 94) (.mk []) (.mk []), Value.func (Fn.func 95) (.mk []) (.mk [])] 112 true), some (.mk (rlbL [(240, 200)] (.int .u8 fl :: tail)) 5 true)] else False else bif cr || true then bif cr && decide (i ≥ IntKind.wrap .i64 ((↑(ByteArray.size s) : Int) - 2)) then bif !m2 then ∀ (cap_1 : Nat) (tail : List Value), tailOK tail cap_1 1 1 = true → bif goodL [(256, 200)] d && (goodL [(256, 200)] (.int .u8 32 :: tail) && true) && true then R Exit.normal [.pointer (some (.mk 0 0 (some 0))), .bool m2, .string r6, .int .i64 r7, .pointer (some (.mk 8 0 (some 0))), .pointer (some (.mk 22 0 (some 0))), .slice (some (.mk 200 0 (some 1))) 1 cap_1, .slice (some (.mk 1 0 (some 1))) k2 cap2, .int .i64 L, .int .i64 (IntKind.wrap .i64 (i + 1))] [some (.mk [.string s, .bool nb, .int .i64 w, .int .i64 dg, .int .i64 sc, .bool sg, .slice (some (.mk 1 0 (some 1))) k cap, .int .u8 dr, .int .i64 f, .bool cr, .int .u8 fl, .int .i64 fm] 84 false), some (.mk (rlbL [(256, 200)] d) 102 false), some (.mk [.pointer (some (.mk 0 0 (some 0))), .string nu, .bool mi, .int .i64 us, .int .i64 (IntKind.wrap .i64 (at0 + 1)), .int .i64 ld] 109 true), some (.mk [Value.func (Fn.func 91) (.mk []) (.mk []), Value.func (Fn.func 92) (.mk []) (.mk []), Value.nilFunc, Value.func (Fn.func 93) (.mk []) (.mk []), Value.func (Fn.func 94) (.mk []) (.mk []), Value.func (Fn.func 95) (.mk []) (.mk [])] 112 true), some (.mk (rlbL [(256, 200)] (.int .u8 32 :: tail)) 5 true)] else False else ∀ (cap_1 : Nat) (tail : List Value), tailOK tail cap_1 1 1 = true → bif goodL [(255, 200)] d && (goodL [(255, 200)] (.int .u8 (byteAt s (Int.toNat i)) :: tail) && true) && true then R Exit.normal [.pointer (some (.mk 0 0 (some 0))), .bool m2, .string r6, .int .i64 r7, .pointer (some (.mk 8 0 (some 0))), .pointer (some (.mk 22 0 (some 0))), .slice (some (.mk 200 0 (some 1))) 1 cap_1, .slice (some (.mk 1 0 (some 1))) k2 cap2, .int .i64 L, .int .i64 (IntKind.wrap .i64 (i + 1))] [some (.mk [.string s, .bool nb, .int .i64 w, .int .i64 dg, .int .i64 sc, .bool sg, .slice (some (.mk 1 0 (some 1))) k cap, .int .u8 dr, .int .i64 f, .bool cr, .int .u8 fl, .int .i64 fm] 84 false), some (.mk (rlbL [(255, 200)] d) 102 false), some (.mk [.pointer (some (.mk 0 0 (some 0))), .string nu, .bool mi, .int .i64 us, .int .i64 (IntKind.wrap .i64 (at0 + 1)), .int .i64 ld] 109 true), some (.mk [Value.func (Fn.func 91) (.mk []) (.mk []), Value.func (Fn.func 92) (.mk []) (.mk []), Value.nilFunc, Value.func (Fn.func 93) (.mk []) (.mk []), Value.func (Fn.func 94) (.mk []) (.mk []), Value.func (Fn.func 95) (.mk []) (.mk [])] 112 true), some (.mk (rlbL [(255, 200)] (.int .u8 (byteAt s (Int.toNat i)) :: tail)) 5 true)] else False else bif decide (0 ≤ intAt d (0 + Int.toNat i * 1) ∧ intAt d (0 + Int.toNat i * 1) < 6) then bif decide ((↑(0 + Int.toNat (intAt d (0 + Int.toNat i * 1)) * 1) : Int) = 0) then bif decide (0 ≤ IntKind.wrap .i64 (IntKind.wrap .i64 (us + 1) - 1) ∧ IntKind.wrap .i64 (IntKind.wrap .i64 (us + 1) - 1) < (↑(ByteArray.size nu) : Int)) then bif byteAt s (Int.toNat i) == 89 || true then bif byteAt s (Int.toNat i) == 89 && byteAt nu (Int.toNat (IntKind.wrap .i64 (IntKind.wrap .i64 (us + 1) - 1))) == 48 then ∀ (cap_1 : Nat) (tail : List Value), tailOK tail cap_1 1 1 = true → bif goodL [(303, 200)] d && (goodL [(303, 200)] (.int .u8 32 :: tail) && true) && true then R Exit.normal [.pointer (some (.mk 0 0 (some 0))), .bool m2, .string r6, .int .i64 r7, .pointer (some (.mk 8 0 (some 0))), .pointer (some (.mk 22 0 (some 0))), .slice (some (.mk 200 0 (some 1))) 1 cap_1, .slice (some (.mk 1 0 (some 1))) k2 cap2, .int .i64 L, .int .i64 (IntKind.wrap .i64 (i + 1))] [some (.mk [.string s, .bool nb, .int .i64 w, .int .i64 dg, .int .i64 sc, .bool sg, .slice (some (.mk 1 0 (some 1))) k cap, .int .u8 dr, .int .i64 f, .bool cr, .int .u8 fl, .int .i64 fm] 84 false), some (.mk (rlbL [(303, 200)] d) 102 false), some (.mk [.pointer (some (.mk 0 0 (some 0))), .string nu, .bool mi, .int .i64 (IntKind.wrap .i64 (us + 1)), .int .i64 (IntKind.wrap .i64 (at0 + 1)), .int .i64 ld] 109 true), some (.mk [Value.func (Fn.func 91) (.mk []) (.mk []), Value.func (Fn.func 92) (.mk []) (.mk []), Value.nilFunc, Value.func (Fn.func 93) (.mk []) (.mk []), Value.func (Fn.func 94) (.mk []) (.mk []), Value.func (Fn.func 95) (.mk []) (.mk [])] 112 true), some (.mk (rlbL [(303, 200)] (.int .u8 32 :: tail)) 5 true)] else False else bif byteAt s (Int.toNat i) == 84 || bif byteAt s (Int.toNat i) == 73 then !mi || (byteAt s (Int.toNat i) == 82 || true) else byteAt s (Int.toNat i) == 82 || true then bif byteAt s (Int.toNat i) == 84 || bif byteAt s (Int.toNat i) == 73 then !mi || byteAt s (Int.toNat i) == 82 && mi else byteAt s (Int.toNat i) == 82 && mi then ∀ (cap_1 : Nat) (tail : List Value), tailOK tail cap_1 1 1 = true → bif goodL [(328, 200)] d && (goodL [(328, 200)] (.int .u8 (puZ (IntKind.wrap .i64 (IntKind.wrap .u8 (byteAt nu (Int.toNat (IntKind.wrap .i64 (IntKind.wrap .i64 (us + 1) - 1))) - 48))) mi) :: tail) && true) && true then R Exit.normal [.pointer (some (.mk 0 0 (some 0))), .bool m2, .string r6, .int .i64 r7, .pointer (some (.mk 8 0 (some 0))), .pointer (some (.mk 22 0 (some 0))), .slice (some (.mk 200 0 (some 1))) 1 cap_1, .slice (some (.mk 1 0 (some 1))) k2 cap2, .int .i64 L, .int .i64 (IntKind.wrap .i64 (i + 1))] [some (.mk [.string s, .bool nb, .int .i64 w, .int .i64 dg, .int .i64 sc, .bool sg, .slice (some (.mk 1 0 (some 1))) k cap, .int .u8 dr, .int .i64 f, .bool cr, .int .u8 fl, .int .i64 fm] 84 false), some (.mk (rlbL [(328, 200)] d) 102 false), some (.mk [.pointer (some (.mk 0 0 (some 0))), .string nu, .bool mi, .int .i64 (IntKind.wrap .i64 (us + 1)), .int .i64 (IntKind.wrap .i64 (at0 + 1)), .int .i64 ld] 109 true), some (.mk [Value.func (Fn.func 91) (.mk []) (.mk []), Value.func (Fn.func 92) (.mk []) (.mk []), Value.nilFunc, Value.func (Fn.func 93) (.mk []) (.mk []), Value.func (Fn.func 94) (.mk []) (.mk []), Value.func (Fn.func 95) (.mk []) (.mk [])] 112 true), some (.mk (rlbL [(328, 200)] (.int .u8 (puZ (IntKind.wrap .i64 (IntKind.wrap .u8 (byteAt nu (Int.toNat (IntKind.wrap .i64 (IntKind.wrap .i64 (us + 1) - 1))) - 48))) mi) :: tail)) 5 true)] else False else ∀ (cap_1 : Nat) (tail : List Value), tailOK tail cap_1 1 1 = true → bif goodL [(328, 200)] d && (goodL [(328, 200)] (.int .u8 (byteAt nu (Int.toNat (IntKind.wrap .i64 (IntKind.wrap .i64 (us + 1) - 1)))) :: tail) && true) && true then R Exit.normal [.pointer (some (.mk 0 0 (some 0))), .bool m2, .string r6, .int .i64 r7, .pointer (some (.mk 8 0 (some 0))), .pointer (some (.mk 22 0 (some 0))), .slice (some (.mk 200 0 (some 1))) 1 cap_1, .slice (some (.mk 1 0 (some 1))) k2 cap2, .int .i64 L, .int .i64 (IntKind.wrap .i64 (i + 1))] [some (.mk [.string s, .bool nb, .int .i64 w, .int .i64 dg, .int .i64 sc, .bool sg, .slice (some (.mk 1 0 (some 1))) k cap, .int .u8 dr, .int .i64 f, .bool cr, .int .u8 fl, .int .i64 fm] 84 false), some (.mk (rlbL [(328, 200)] d) 102 false), some (.mk [.pointer (some (.mk 0 0 (some 0))), .string nu, .bool mi, .int .i64 (IntKind.wrap .i64 (us + 1)), .int .i64 (IntKind.wrap .i64 (at0 + 1)), .int .i64 ld] 109 true), some (.mk [Value.func (Fn.func 91) (.mk []) (.mk []), Value.func (Fn.func 92) (.mk []) (.mk []), Value.nilFunc, Value.func (Fn.func 93) (.mk []) (.mk []), Value.func (Fn.func 94) (.mk []) (.mk []), Value.func (Fn.func 95) (.mk []) (.mk [])] 112 true), some (.mk (rlbL [(328, 200)] (.int .u8 (byteAt nu (Int.toNat (IntKind.wrap .i64 (IntKind.wrap .i64 (us + 1) - 1)))) :: tail)) 5 true)] else False else False else False else False else bif decide ((↑(0 + Int.toNat (intAt d (0 + Int.toNat i * 1)) * 1) : Int) = 1) then bif decide (0 ≤ IntKind.wrap .i64 (IntKind.wrap .i64 (us + 1) - 1) ∧ IntKind.wrap .i64 (IntKind.wrap .i64 (us + 1) - 1) < (↑(ByteArray.size nu) : Int)) then bif decide (at0 < ld) then ∀ (cap_1 : Nat) (tail : List Value), tailOK tail cap_1 1 1 = true → bif goodL [(299, 200)] d && (goodL [(299, 200)] (.int .u8 fl :: tail) && true) && true then R Exit.normal [.pointer (some (.mk 0 0 (some 0))), .bool m2, .string r6, .int .i64 r7, .pointer (some (.mk 8 0 (some 0))), .pointer (some (.mk 22 0 (some 0))), .slice (some (.mk 200 0 (some 1))) 1 cap_1, .slice (some (.mk 1 0 (some 1))) k2 cap2, .int .i64 L, .int .i64 (IntKind.wrap .i64 (i + 1))] [some (.mk [.string s, .bool nb, .int .i64 w, .int .i64 dg, .int .i64 sc, .bool sg, .slice (some (.mk 1 0 (some 1))) k cap, .int .u8 dr, .int .i64 f, .bool cr, .int .u8 fl, .int .i64 fm] 84 false), some (.mk (rlbL [(299, 200)] d) 102 false), some (.mk [.pointer (some (.mk 0 0 (some 0))), .string nu, .bool mi, .int .i64 (IntKind.wrap .i64 (us + 1)), .int .i64 (IntKind.wrap .i64 (at0 + 1)), .int .i64 ld] 109 true), some (.mk [Value.func (Fn.func 91) (.mk []) (.mk []), Value.func (Fn.func 92) (.mk []) (.mk []), Value.nilFunc, Value.func (Fn.func 93) (.mk []) (.mk []), Value.func (Fn.func 94) (.mk []) (.mk []), Value.func (Fn.func 95) (.mk []) (.mk [])] 112 true), some (.mk (rlbL [(299, 200)] (.int .u8 fl :: tail)) 5 true)] else False else ∀ (cap_1 : Nat) (tail : List Value), tailOK tail cap_1 1 1 = true → bif goodL [(293, 200)] d && (goodL [(293, 200)] (.int .u8 (byteAt nu (Int.toNat (IntKind.wrap .i64 (IntKind.wrap .i64 (us + 1) - 1)))) :: tail) && true) && true then R Exit.normal [.pointer (some (.mk 0 0 (some 0))), .bool m2, .string r6, .int .i64 r7, .pointer (some (.mk 8 0 (some 0))), .pointer (some (.mk 22 0 (some 0))), .slice (some (.mk 200 0 (some 1))) 1 cap_1, .slice (some (.mk 1 0 (some 1))) k2 cap2, .int .i64 L, .int .i64 (IntKind.wrap .i64 (i + 1))] [some (.mk [.string s, .bool nb, .int .i64 w, .int .i64 dg, .int .i64 sc, .bool sg, .slice (some (.mk 1 0 (some 1))) k cap, .int .u8 dr, .int .i64 f, .bool cr, .int .u8 fl, .int .i64 fm] 84 false), some (.mk (rlbL [(293, 200)] d) 102 false), some (.mk [.pointer (some (.mk 0 0 (some 0))), .string nu, .bool mi, .int .i64 (IntKind.wrap .i64 (us + 1)), .int .i64 (IntKind.wrap .i64 (at0 + 1)), .int .i64 ld] 109 true), some (.mk [Value.func (Fn.func 91) (.mk []) (.mk []), Value.func (Fn.func 92) (.mk []) (.mk []), Value.nilFunc, Value.func (Fn.func 93) (.mk []) (.mk []), Value.func (Fn.func 94) (.mk []) (.mk []), Value.func (Fn.func 95) (.mk []) (.mk [])] 112 true), some (.mk (rlbL [(293, 200)] (.int .u8 (byteAt nu (Int.toNat (IntKind.wrap .i64 (IntKind.wrap .i64 (us + 1) - 1)))) :: tail)) 5 true)] else False else False else bif decide ((↑(0 + Int.toNat (intAt d (0 + Int.toNat i * 1)) * 1) : Int) = 2) then False else bif decide ((↑(0 + Int.toNat (intAt d (0 + Int.toNat i * 1)) * 1) : Int) = 3) then bif byteAt s (Int.toNat i) == 66 then ∀ (cap_1 : Nat) (tail : List Value), tailOK tail cap_1 1 1 = true → bif goodL [(263, 200)] d && (goodL [(263, 200)] (.int .u8 32 :: tail) && true) && true then R Exit.normal [.pointer (some (.mk 0 0 (some 0))), .bool m2, .string r6, .int .i64 r7, .pointer (some (.mk 8 0 (some 0))), .pointer (some (.mk 22 0 (some 0))), .slice (some (.mk 200 0 (some 1))) 1 cap_1, .slice (some (.mk 1 0 (some 1))) k2 cap2, .int .i64 L, .int .i64 (IntKind.wrap .i64 (i + 1))] [some (.mk [.string s, .bool nb, .int .i64 w, .int .i64 dg, .int .i64 sc, .bool sg, .slice (some (.mk 1 0 (some 1))) k cap, .int .u8 dr, .int .i64 f, .bool cr, .int .u8 fl, .int .i64 fm] 84 false), some (.mk (rlbL [(263, 200)] d) 102 false), some (.mk [.pointer (some (.mk 0 0 (some 0))), .string nu, .bool mi, .int .i64 us, .int .i64 (IntKind.wrap .i64 (at0 + 1)), .int .i64 ld] 109 true), some (.mk [Value.func (Fn.func 91) (.mk []) (.mk []), Value.func (Fn.func 92) (.mk []) (.mk []), Value.nilFunc, Value.func (Fn.func 93) (.mk []) (.mk []), Value.func (Fn.func 94) (.mk []) (.mk []), Value.func (Fn.func 95) (.mk []) (.mk [])] 112 true), some (.mk (rlbL [(263, 200)] (.int .u8 32 :: tail)) 5 true)] else False else bif decide (at0 < ld) then ∀ (cap_1 : Nat) (tail : List Value), tailOK tail cap_1 1 1 = true → bif goodL [(280, 200)] d && (goodL [(280, 200)] (.int .u8 fl :: tail) && true) && true then R Exit.normal [.pointer (some (.mk 0 0 (some 0))), .bool m2, .string r6, .int .i64 r7, .pointer (some (.mk 8 0 (some 0))), .pointer (some (.mk 22 0 (some 0))), .slice (some (.mk 200 0 (some 1))) 1 cap_1, .slice (some (.mk 1 0 (some 1))) k2 cap2, .int .i64 L, .int .i64 (IntKind.wrap .i64 (i + 1))] [some (.mk [.string s, .bool nb, .int .i64 w, .int .i64 dg, .int .i64 sc, .bool sg, .slice (some (.mk 1 0 (some 1))) k cap, .int .u8 dr, .int .i64 f, .bool cr, .int .u8 fl, .int .i64 fm] 84 false), some (.mk (rlbL [(280, 200)] d) 102 false), some (.mk [.pointer (some (.mk 0 0 (some 0))), .string nu, .bool mi, .int .i64 us, .int .i64 (IntKind.wrap .i64 (at0 + 1)), .int .i64 ld] 109 true), some (.mk [Value.func (Fn.func 91) (.mk []) (.mk []), Value.func (Fn.func 92) (.mk []) (.mk []), Value.nilFunc, Value.func (Fn.func 93) (.mk []) (.mk []), Value.func (Fn.func 94) (.mk []) (.mk []), Value.func (Fn.func 95) (.mk []) (.mk [])] 112 true), some (.mk (rlbL [(280, 200)] (.int .u8 fl :: tail)) 5 true)] else False else ∀ (cap_1 : Nat) (tail : List Value), tailOK tail cap_1 1 1 = true → bif goodL [(274, 200)] d && (goodL [(274, 200)] (.int .u8 (byteAt s (Int.toNat i)) :: tail) && true) && true then R Exit.normal [.pointer (some (.mk 0 0 (some 0))), .bool m2, .string r6, .int .i64 r7, .pointer (some (.mk 8 0 (some 0))), .pointer (some (.mk 22 0 (some 0))), .slice (some (.mk 200 0 (some 1))) 1 cap_1, .slice (some (.mk 1 0 (some 1))) k2 cap2, .int .i64 L, .int .i64 (IntKind.wrap .i64 (i + 1))] [some (.mk [.string s, .bool nb, .int .i64 w, .int .i64 dg, .int .i64 sc, .bool sg, .slice (some (.mk 1 0 (some 1))) k cap, .int .u8 dr, .int .i64 f, .bool cr, .int .u8 fl, .int .i64 fm] 84 false), some (.mk (rlbL [(274, 200)] d) 102 false), some (.mk [.pointer (some (.mk 0 0 (some 0))), .string nu, .bool mi, .int .i64 us, .int .i64 (IntKind.wrap .i64 (at0 + 1)), .int .i64 ld] 109 true), some (.mk [Value.func (Fn.func 91) (.mk []) (.mk []), Value.func (Fn.func 92) (.mk []) (.mk []), Value.nilFunc, Value.func (Fn.func 93) (.mk []) (.mk []), Value.func (Fn.func 94) (.mk []) (.mk []), Value.func (Fn.func 95) (.mk []) (.mk [])] 112 true), some (.mk (rlbL [(274, 200)] (.int .u8 (byteAt s (Int.toNat i)) :: tail)) 5 true)] else False else bif decide ((↑(0 + Int.toNat (intAt d (0 + Int.toNat i * 1)) * 1) : Int) = 4) then bif byteAt s (Int.toNat i) == 83 || true then bif byteAt s (Int.toNat i) == 83 && mi then ∀ (cap_1 : Nat) (tail : List Value), tailOK tail cap_1 1 1 = true → bif goodL [(269, 200)] d && (goodL [(269, 200)] (.int .u8 45 :: tail) && true) && true then R Exit.normal [.pointer (some (.mk 0 0 (some 0))), .bool m2, .string r6, .int .i64 r7, .pointer (some (.mk 8 0 (some 0))), .pointer (some (.mk 22 0 (some 0))), .slice (some (.mk 200 0 (some 1))) 1 cap_1, .slice (some (.mk 1 0 (some 1))) k2 cap2, .int .i64 L, .int .i64 (IntKind.wrap .i64 (i + 1))] [some (.mk [.string s, .bool nb, .int .i64 w, .int .i64 dg, .int .i64 sc, .bool sg, .slice (some (.mk 1 0 (some 1))) k cap, .int .u8 dr, .int .i64 f, .bool cr, .int .u8 fl, .int .i64 fm] 84 false), some (.mk (rlbL [(269, 200)] d) 102 false), some (.mk [.pointer (some (.mk 0 0 (some 0))), .string nu, .bool mi, .int .i64 us, .int .i64 (IntKind.wrap .i64 (at0 + 1)), .int .i64 ld] 109 true), some (.mk [Value.func (Fn.func 91) (.mk []) (.mk []), Value.func (Fn.func 92) (.mk []) (.mk []), Value.nilFunc, Value.func (Fn.func 93) (.mk []) (.mk []), Value.func (Fn.func 94) (.mk []) (.mk []), Value.func (Fn.func 95) (.mk []) (.mk [])] 112 true), some (.mk (rlbL [(269, 200)] (.int .u8 45 :: tail)) 5 true)] else False else bif byteAt s (Int.toNat i) == 83 then ∀ (cap_1 : Nat) (tail : List Value), tailOK tail cap_1 1 1 = true → bif goodL [(272, 200)] d && (goodL [(272, 200)] (.int .u8 43 :: tail) && true) && true then R Exit.normal [.pointer (some (.mk 0 0 (some 0))), .bool m2, .string r6, .int .i64 r7, .pointer (some (.mk 8 0 (some 0))), .pointer (some (.mk 22 0 (some 0))), .slice (some (.mk 200 0 (some 1))) 1 cap_1, .slice (some (.mk 1 0 (some 1))) k2 cap2, .int .i64 L, .int .i64 (IntKind.wrap .i64 (i + 1))] [some (.mk [.string s, .bool nb, .int .i64 w, .int .i64 dg, .int .i64 sc, .bool sg, .slice (some (.mk 1 0 (some 1))) k cap, .int .u8 dr, .int .i64 f, .bool cr, .int .u8 fl, .int .i64 fm] 84 false), some (.mk (rlbL [(272, 200)] d) 102 false), some (.mk [.pointer (some (.mk 0 0 (some 0))), .string nu, .bool mi, .int .i64 us, .int .i64 (IntKind.wrap .i64 (at0 + 1)), .int .i64 ld] 109 true), some (.mk [Value.func (Fn.func 91) (.mk []) (.mk []), Value.func (Fn.func 92) (.mk []) (.mk []), Value.nilFunc, Value.func (Fn.func 93) (.mk []) (.mk []), Value.func (Fn.func 94) (.mk []) (.mk []), Value.func (Fn.func 95) (.mk []) (.mk [])] 112 true), some (.mk (rlbL [(272, 200)] (.int .u8 43 :: tail)) 5 true)] else False else bif (byteAt s (Int.toNat i) == 43) == mi then ∀ (cap_1 : Nat) (tail : List Value), tailOK tail cap_1 1 1 = true → bif goodL [(280, 200)] d && (goodL [(280, 200)] (.int .u8 32 :: tail) && true) && true then R Exit.normal [.pointer (some (.mk 0 0 (some 0))), .bool m2, .string r6, .int .i64 r7, .pointer (some (.mk 8 0 (some 0))), .pointer (some (.mk 22 0 (some 0))), .slice (some (.mk 200 0 (some 1))) 1 cap_1, .slice (some (.mk 1 0 (some 1))) k2 cap2, .int .i64 L, .int .i64 (IntKind.wrap .i64 (i + 1))] [some (.mk [.string s, .bool nb, .int .i64 w, .int .i64 dg, .int .i64 sc, .bool sg, .slice (some (.mk 1 0 (some 1))) k cap, .int .u8 dr, .int .i64 f, .bool cr, .int .u8 fl, .int .i64 fm] 84 false), some (.mk (rlbL [(280, 200)] d) 102 false), some (.mk [.pointer (some (.mk 0 0 (some 0))), .string nu, .bool mi, .int .i64 us, .int .i64 (IntKind.wrap .i64 (at0 + 1)), .int .i64 ld] 109 true), some (.mk [Value.func (Fn.func 91) (.mk []) (.mk []), Value.func (Fn.func 92) (.mk []) (.mk []), Value.nilFunc, Value.func (Fn.func 93) (.mk []) (.mk []), Value.func (Fn.func 94) (.mk []) (.mk []), Value.func (Fn.func 95) (.mk []) (.mk [])] 112 true), some (.mk (rlbL [(280, 200)] (.int .u8 32 :: tail)) 5 true)] else False else ∀ (cap_1 : Nat) (tail : List Value), tailOK tail cap_1 1 1 = true → bif goodL [(281, 200)] d && (goodL [(281, 200)] (.int .u8 (byteAt s (Int.toNat i)) :: tail) && true) && true then R Exit.normal [.pointer (some (.mk 0 0 (some 0))), .bool m2, .string r6, .int .i64 r7, .pointer (some (.mk 8 0 (some 0))), .pointer (some (.mk 22 0 (some 0))), .slice (some (.mk 200 0 (some 1))) 1 cap_1, .slice (some (.mk 1 0 (some 1))) k2 cap2, .int .i64 L, .int .i64 (IntKind.wrap .i64 (i + 1))] [some (.mk [.string s, .bool nb, .int .i64 w, .int .i64 dg, .int .i64 sc, .bool sg, .slice (some (.mk 1 0 (some 1))) k cap, .int .u8 dr, .int .i64 f, .bool cr, .int .u8 fl, .int .i64 fm] 84 false), some (.mk (rlbL [(281, 200)] d) 102 false), some (.mk [.pointer (some (.mk 0 0 (some 0))), .string nu, .bool mi, .int .i64 us, .int .i64 (IntKind.wrap .i64 (at0 + 1)), .int .i64 ld] 109 true), some (.mk [Value.func (Fn.func 91) (.mk []) (.mk []), Value.func (Fn.func 92) (.mk []) (.mk []), Value.nilFunc, Value.func (Fn.func 93) (.mk []) (.mk []), Value.func (Fn.func 94) (.mk []) (.mk []), Value.func (Fn.func 95) (.mk []) (.mk [])] 112 true), some (.mk (rlbL [(281, 200)] (.int .u8 (byteAt s (Int.toNat i)) :: tail)) 5 true)] else False else False else bif decide ((↑(0 + Int.toNat (intAt d (0 + Int.toNat i * 1)) * 1) : Int) = 5) then ∀ (cap_1 : Nat) (tail : List Value), tailOK tail cap_1 1 1 = true → bif goodL [(261, 200)] d && (goodL [(261, 200)] (.int .u8 (byteAt s (Int.toNat i)) :: tail) && true) && true then R Exit.normal [.pointer (some (.mk 0 0 (some 0))), .bool m2, .string r6, .int .i64 r7, .pointer (some (.mk 8 0 (some 0))), .pointer (some (.mk 22 0 (some 0))), .slice (some (.mk 200 0 (some 1))) 1 cap_1, .slice (some (.mk 1 0 (some 1))) k2 cap2, .int .i64 L, .int .i64 (IntKind.wrap .i64 (i + 1))] [some (.mk [.string s, .bool nb, .int .i64 w, .int .i64 dg, .int .i64 sc, .bool sg, .slice (some (.mk 1 0 (some 1))) k cap, .int .u8 dr, .int .i64 f, .bool cr, .int .u8 fl, .int .i64 fm] 84 false), some (.mk (rlbL [(261, 200)] d) 102 false), some (.mk [.pointer (some (.mk 0 0 (some 0))), .string nu, .bool mi, .int .i64 us, .int .i64 (IntKind.wrap .i64 (at0 + 1)), .int .i64 ld] 109 true), some (.mk [Value.func (Fn.func 91) (.mk []) (.mk []), Value.func (Fn.func 92) (.mk []) (.mk []), Value.nilFunc, Value.func (Fn.func 93) (.mk []) (.mk []), Value.func (Fn.func 94) (.mk []) (.mk []), Value.func (Fn.func 95) (.mk []) (.mk [])] 112 true), some (.mk (rlbL [(261, 200)] (.int .u8 (byteAt s (Int.toNat i)) :: tail)) 5 true)] else False else False else False else False else False else False else False else bif goodL [] d && true && true then R (Exit.exit 0) [.pointer (some (.mk 0 0 (some 0))), .bool m2, .string r6, .int .i64 r7, .pointer (some (.mk 8 0 (some 0))), .pointer (some (.mk 22 0 (some 0))), .slice none 0 0, .slice (some (.mk 1 0 (some 1))) k2 cap2, .int .i64 L, .int .i64 i] [some (.mk [.string s, .bool nb, .int .i64 w, .int .i64 dg, .int .i64 sc, .bool sg, .slice (some (.mk 1 0 (some 1))) k cap, .int .u8 dr, .int .i64 f, .bool cr, .int .u8 fl, .int .i64 fm] 84 false), some (.mk (rlbL [] d) 102 false), some (.mk [.pointer (some (.mk 0 0 (some 0))), .string nu, .bool mi, .int .i64 us, .int .i64 at0, .int .i64 ld] 109 true), some (.mk [Value.func (Fn.func 91) (.mk []) (.mk []), Value.func (Fn.func 92) (.mk []) (.mk []), Value.nilFunc, Value.func (Fn.func 93) (.mk []) (.mk []), Value.func (Fn.func 94) (.mk []) (.mk []), Value.func (Fn.func 95) (.mk []) (.mk [])] 112 true), none] else False) := by kernel_rfl
theorem r64_0o (m2 : Bool) (r6 : ByteArray) (r7 : Int) (od : List Value) (om : Nat) (oc : Nat) (k2 : Nat) (cap2 : Nat) (L : Int) (i : Int) (s : ByteArray) (nb : Bool) (w : Int) (dg : Int) (sc : Int) (sg : Bool) (k : Nat) (cap : Nat) (dr : Int) (f : Int) (cr : Bool) (fl : Int) (fm : Int) (nu : ByteArray) (mi : Bool) (us : Int) (at0 : Int) (ld : Int) (d : List Value) (jk : Tmps) (R : Exit → List Value → List (Option Blk) → Prop) : (codeQ Tryz.prog G35 noL Tryz.f64.ntmps (loopOf Tryz.f64 0) (tl S64_0.live (V64_0 (m2, r6, r7, (.own od om oc), k2, cap2, L, i, s, nb, w, dg, sc, sg, k, cap, dr, f, cr, fl, fm, nu, mi, us, at0, ld, d)) jk) (ml S64_0.mid (B64_0 (m2, r6, r7, (.own od om oc), k2, cap2, L, i, s, nb, w, dg, sc, sg, k, cap, dr, f, cr, fl, fm, nu, mi, us, at0, ld, d))) S64_0.n fun e t' m' _ => S64_0.out R e t' m') = ( bif decide (i < L) then bif decide (0 ≤ i ∧ i < (↑k2 : Int)) then bif isIntAt IntKind.i64 d (0 + Int.toNat i * 1) then bif decide (0 ≤ i ∧ i < (↑(ByteArray.size s) : Int)) then bif intAt d (0 + Int.toNat i * 1) == 2 then bif goodL [(200, 200)] d && (goodL [(200, 200)] od && true) && true then R Exit.normal [.pointer (some (.mk 0 0 (some 0))), .bool m2, .string r6, .int .i64 r7, .pointer (some (.mk 8 0 (some 0))), .pointer (some (.mk 22 0 (some 0))), .slice (some (.mk 200 0 (some 1))) om oc, .slice (some (.mk 1 0 (some 1))) k2 cap2, .int .i64 L, .int .i64 (IntKind.wrap .i64 (i + 1))] [some (.mk [.string s, .bool nb, .int .i64 w, .int .i64 dg, .int .i64 sc, .bool sg, .slice (some (.mk 1 0 (some 1))) k cap, .int .u8 dr, .int .i64 f, .bool cr, .int .u8 fl, .int .i64 fm] 84 false), some (.mk (rlbL [(200, 200)] d) 102 false), some (.mk [.pointer (some (.mk 0 0 (some 0))), .string nu, .bool mi, .int .i64 us, .int .i64 at0, .int .i64 ld] 109 true), some (.mk [Value.func (Fn.func 91) (.mk []) (.mk []), Value.func (Fn.func 92) (.mk []) (.mk []), Value.nilFunc, Value.func (Fn.func 93) (.mk []) (.mk []), Value.func (Fn.func 94) (.mk []) (.mk []), Value.func (Fn.func 95) (.mk []) (.mk [])] 112 true), some (.mk (rlbL [(200, 200)] od) 5 true)] else False else bif i == f then bif Nat.beq (List.length od) (oc * 1) && Nat.ble om oc && Nat.ble oc 9223372036854775807 && true && fitsA (om + 1) 1 then ∀ (cap_1 : Nat) (tail : List Value), tailOK tail cap_1 (om + 1) 1 = true → bif goodL [(240, 200)] d && (goodL [(240, 200)] (List.take (om * 1) od ++ [.int .u8 fl] ++ tail) && true) && true then R Exit.normal [.pointer (some (.mk 0 0 (some 0))), .bool m2, .string r6, .int .i64 r7, .pointer (some (.mk 8 0 (some 0))), .pointer (some (.mk 22 0 (some 0))), .slice (some (.mk 200 0 (some 1))) (om + 1) cap_1, .slice (some (.mk 1 0 (some 1))) k2 cap2, .int .i64 L, .int .i64 (IntKind.wrap .i64 (i + 1))] [some (.mk [.string s, .bool nb, .int .i64 w, .int .i64 dg, .int .i64 sc, .bool sg, .slice (some (.mk 1 0 (some 1))) k cap, .int .u8 dr, .int .i64 f, .bool cr, .int .u8 fl, .int .i64 fm] 84 false), some (.mk (rlbL [(240, 200)] d) 102 false), some (.mk [.pointer (some (.mk 0 0 (some 0))), .string nu, .bool mi, .int .i64 us, .int .i64 (IntKind.wrap .i64 (at0 + 1)), .int .i64 ld] 109 true), some (.mk [Value.func (Fn.func 91) (.mk []) (.mk []), Value.func (Fn.func 92) (.mk []) (.mk []), Value.nilFunc, Value.func (Fn.func 93) (.mk []) (.mk []), Value.func (Fn.func 94) (.mk []) (.mk []), Value.func (Fn.func 95) (.mk []) (.mk [])] 112 true), some (.mk (rlbL [(240, 200)] (List.take (om * 1) od ++ [.int .u8 fl] ++ tail)) 5 true)] else False else False else bif cr || true then bif cr && decide (i ≥ IntKind.wrap .i64 ((↑(ByteArray.size s) : Int) - 2)) then bif !m2 then bif Nat.beq (List.length od) (oc * 1) && Nat.ble om oc && Nat.ble oc 9223372036854775807 && true && fitsA (om + 1) 1 then ∀ (cap_1 : Nat) (tail : List Value), tailOK tail cap_1 (om + 1) 1 = true → bif goodL [(256, 200)] d && (goodL [(256, 200)] (List.take (om * 1) od ++ [.int .u8 32] ++ tail) && true) && true then R Exit.normal [.pointer (some (.mk 0 0 (some 0))), .bool m2, .string r6, .int .i64 r7, .pointer (some (.mk 8 0 (some 0))), .pointer (some (.mk 22 0 (some 0))), .slice (some (.mk 200 0 (some 1))) (om + 1) cap_1, .slice (some (.mk 1 0 (some 1))) k2 cap2, .int .i64 L, .int .i64 (IntKind.wrap .i64 (i + 1))] [some (.mk [.string s, .bool nb, .int .i64 w, .int .i64 dg, .int .i64 sc, .bool sg, .slice (some (.mk 1 0 (some 1))) k cap, .int .u8 dr, .int .i64 f, .bool cr, .int .u8 fl, .int .i64 fm] 84 false), some (.mk (rlbL [(256, 200)] d) 102 false), some (.mk [.pointer (some (.mk 0 0 (some 0))), .string nu, .bool mi, .int .i64 us, .int .i64 (IntKind.wrap .i64 (at0 + 1)), .int .i64 ld] 109 true), some (.mk [Value.func (Fn.func 91) (.mk []) (.mk []), Value.func (Fn.func 92) (.mk []) (.mk []), Value.nilFunc, Value.func (Fn.func 93) (.mk []) (.mk []), Value.func (Fn.func 94) (.mk []) (.mk []), Value.func (Fn.func 95) (.mk []) (.mk [])] 112 true), some (.mk (rlbL [(256, 200)] (List.take (om * 1) od ++ [.int .u8 32] ++ tail)) 5 true)] else False else False else bif Nat.beq (List.length od) (oc * 1) && Nat.ble om oc && Nat.ble oc 9223372036854775807 && true && fitsA (om + 1) 1 then ∀ (cap_1 : Nat) (tail : List Value), tailOK tail cap_1 (om + 1) 1 = true → bif goodL [(255, 200)] d && (goodL [(255, 200)] (List.take (om * 1) od ++ [.int .u8 (byteAt s (Int.toNat i))] ++ tail) && true) && true then R Exit.normal [.pointer (some (.mk 0 0 (some 0))), .bool m2, .string r6, .int .i64 r7, .pointer (some (.mk 8 0 (some 0))), .pointer (some (.mk 22 0 (some 0))), .slice (some (.mk 200 0 (some 1))) (om + 1) cap_1, .slice (some (.mk 1 0 (some 1))) k2 cap2, .int .i64 L, .int .i64 (IntKind.wrap .i64 (i + 1))] [some (.mk [.string s, .bool nb, .int .i64 w, .int .i64 dg, .int .i64 sc, .bool sg, .slice (some (.mk 1 0 (some 1))) k cap, .int .u8 dr, .int .i64 f, .bool cr, .int .u8 fl, .int .i64 fm] 84 false), some (.mk (rlbL [(255, 200)] d) 102 false), some (.mk [.pointer (some (.mk 0 0 (some 0))), .string nu, .bool mi, .int .i64 us, .int .i64 (IntKind.wrap .i64 (at0 + 1)), .int .i64 ld] 109 true), some (.mk [Value.func (Fn.func 91) (.mk []) (.mk []), Value.func (Fn.func 92) (.mk []) (.mk []), Value.nilFunc, Value.func (Fn.func 93) (.mk []) (.mk []), Value.func (Fn.func 94) (.mk []) (.mk []), Value.func (Fn.func 95) (.mk []) (.mk [])] 112 true), some (.mk (rlbL [(255, 200)] (List.take (om * 1) od ++ [.int .u8 (byteAt s (Int.toNat i))] ++ tail)) 5 true)] else False else False else bif decide (0 ≤ intAt d (0 + Int.toNat i * 1) ∧ intAt d (0 + Int.toNat i * 1) < 6) then bif decide ((↑(0 + Int.toNat (intAt d (0 + Int.toNat i * 1)) * 1) : Int) = 0) then bif decide (0 ≤ IntKind.wrap .i64 (IntKind.wrap .i64 (us + 1) - 1) ∧ IntKind.wrap .i64 (IntKind.wrap .i64 (us + 1) - 1) < (↑(ByteArray.size nu) : Int)) then bif byteAt s (Int.toNat i) == 89 || true then bif byteAt s (Int.toNat i) == 89 && byteAt nu (Int.toNat (IntKind.wrap .i64 (IntKind.wrap .i64 (us + 1) - 1))) == 48 then bif Nat.beq (List.length od) (oc * 1) && Nat.ble om oc && Nat.ble oc 9223372036854775807 && true && fitsA (om + 1) 1 then ∀ (cap_1 : Nat) (tail : List Value), tailOK tail cap_1 (om + 1) 1 = true → bif goodL [(303, 200)] d && (goodL [(303, 200)] (List.take (om * 1) od ++ [.int .u8 32] ++ tail) && true) && true then R Exit.normal [.pointer (some (.mk 0 0 (some 0))), .bool m2, .string r6, .int .i64 r7, .pointer (some (.mk 8 0 (some 0))), .pointer (some (.mk 22 0 (some 0))), .slice (some (.mk 200 0 (some 1))) (om + 1) cap_1, .slice (some (.mk 1 0 (some 1))) k2 cap2, .int .i64 L, .int .i64 (IntKind.wrap .i64 (i + 1))] [some (.mk [.string s, .bool nb, .int .i64 w, .int .i64 dg, .int .i64 sc, .bool sg, .slice (some (.mk 1 0 (some 1))) k cap, .int .u8 dr, .int .i64 f, .bool cr, .int .u8 fl, .int .i64 fm] 84 false), some (.mk (rlbL [(303, 200)] d) 102 false), some (.mk [.pointer (some (.mk 0 0 (some 0))), .string nu, .bool mi, .int .i64 (IntKind.wrap .i64 (us + 1)), .int .i64 (IntKind.wrap .i64 (at0 + 1)), .int .i64 ld] 109 true), some (.mk [Value.func (Fn.func 91) (.mk []) (.mk []), Value.func (Fn.func 92) (.mk []) (.mk []), Value.nilFunc, Value.func (Fn.func 93) (.mk []) (.mk []), Value.func (Fn.func 94) (.mk []) (.mk []), Value.func (Fn.func 95) (.mk []) (.mk [])] 112 true), some (.mk (rlbL [(303, 200)] (List.take (om * 1) od ++ [.int .u8 32] ++ tail)) 5 true)] else False else False else bif byteAt s (Int.toNat i) == 84 || bif byteAt s (Int.toNat i) == 73 then !mi || (byteAt s (Int.toNat i) == 82 || true) else byteAt s (Int.toNat i) == 82 || true then bif byteAt s (Int.toNat i) == 84 || bif byteAt s (Int.toNat i) == 73 then !mi || byteAt s (Int.toNat i) == 82 && mi else byteAt s (Int.toNat i) == 82 && mi then bif Nat.beq (List.length od) (oc * 1) && Nat.ble om oc && Nat.ble oc 9223372036854775807 && true && fitsA (om + 1) 1 then ∀ (cap_1 : Nat) (tail : List Value), tailOK tail cap_1 (om + 1) 1 = true → bif goodL [(328, 200)] d && (goodL [(328, 200)] (List.take (om * 1) od ++ [.int .u8 (puZ (IntKind.wrap .i64 (IntKind.wrap .u8 (byteAt nu (Int.toNat (IntKind.wrap .i64 (IntKind.wrap .i64 (us + 1) - 1))) - 48))) mi)] ++ tail) && true) && true then R Exit.normal [.pointer (some (.mk 0 0 (some 0))), .bool m2, .string r6, .int .i64 r7, .pointer (some (.mk 8 0 (some 0))), .pointer (some (.mk 22 0 (some 0))), .slice (some (.mk 200 0 (some 1))) (om + 1) cap_1, .slice (some (.mk 1 0 (some 1))) k2 cap2, .int .i64 L, .int .i64 (IntKind.wrap .i64 (i + 1))] [some (.mk [.string s, .bool nb, .int .i64 w, .int .i64 dg, .int .i64 sc, .bool sg, .slice (some (.mk 1 0 (some 1))) k cap, .int .u8 dr, .int .i64 f, .bool cr, .int .u8 fl, .int .i64 fm] 84 false), some (.mk (rlbL [(328, 200)] d) 102 false), some (.mk [.pointer (some (.mk 0 0 (some 0))), .string nu, .bool mi, .int .i64 (IntKind.wrap .i64 (us + 1)), .int .i64 (IntKind.wrap .i64 (at0 + 1)), .int .i64 ld] 109 true), some (.mk [Value.func (Fn.func 91) (.mk []) (.mk []), Value.func (Fn.func 92) (.mk []) (.mk []), Value.nilFunc, Value.func (Fn.func 93) (.mk []) (.mk []), Value.func (Fn.func 94) (.mk []) (.mk []), Value.func (Fn.func 95) (.mk []) (.mk [])] 112 true), some (.mk (rlbL [(328, 200)] (List.take (om * 1) od ++ [.int .u8 (puZ (IntKind.wrap .i64 (IntKind.wrap .u8 (byteAt nu (Int.toNat (IntKind.wrap .i64 (IntKind.wrap .i64 (us + 1) - 1))) - 48))) mi)] ++ tail)) 5 true)] else False else False else bif Nat.beq (List.length od) (oc * 1) && Nat.ble om oc && Nat.ble oc 9223372036854775807 && true && fitsA (om + 1) 1 then ∀ (cap_1 : Nat) (tail : List Value), tailOK tail cap_1 (om + 1) 1 = true → bif goodL [(328, 200)] d && (goodL [(328, 200)] (List.take (om * 1) od ++ [.int .u8 (byteAt nu (Int.toNat (IntKind.wrap .i64 (IntKind.wrap .i64 (us + 1) - 1))))] ++ tail) && true) && true then R Exit.normal [.pointer (some (.mk 0 0 (some 0))), .bool m2, .string r6, .int .i64 r7, .pointer (some (.mk 8 0 (some 0))), .pointer (some (.mk 22 0 (some 0))), .slice (some (.mk 200 0 (some 1))) (om + 1) cap_1, .slice (some (.mk 1 0 (some 1))) k2 cap2, .int .i64 L, .int .i64 (IntKind.wrap .i64 (i + 1))] [some (.mk [.string s, .bool nb, .int .i64 w, .int .i64 dg, .int .i64 sc, .bool sg, .slice (some (.mk 1 0 (some 1))) k cap, .int .u8 dr, .int .i64 f, .bool cr, .int .u8 fl, .int .i64 fm] 84 false), some (.mk (rlbL [(328, 200)] d) 102 false), some (.mk [.pointer (some (.mk 0 0 (some 0))), .string nu, .bool mi, .int .i64 (IntKind.wrap .i64 (us + 1)), .int .i64 (IntKind.wrap .i64 (at0 + 1)), .int .i64 ld] 109 true), some (.mk [Value.func (Fn.func 91) (.mk []) (.mk []), Value.func (Fn.func 92) (.mk []) (.mk []), Value.nilFunc, Value.func (Fn.func 93) (.mk []) (.mk []), Value.func (Fn.func 94) (.mk []) (.mk []), Value.func (Fn.func 95) (.mk []) (.mk [])] 112 true), some (.mk (rlbL [(328, 200)] (List.take (om * 1) od ++ [.int .u8 (byteAt nu (Int.toNat (IntKind.wrap .i64 (IntKind.wrap .i64 (us + 1) - 1))))] ++ tail)) 5 true)] else False else False else False else False else False else bif decide ((↑(0 + Int.toNat (intAt d (0 + Int.toNat i * 1)) * 1) : Int) = 1) then bif decide (0 ≤ IntKind.wrap .i64 (IntKind.wrap .i64 (us + 1) - 1) ∧ IntKind.wrap .i64 (IntKind.wrap .i64 (us + 1) - 1) < (↑(ByteArray.size nu) : Int)) then bif decide (at0 < ld) then bif Nat.beq (List.length od) (oc * 1) && Nat.ble om oc && Nat.ble oc 9223372036854775807 && true && fitsA (om + 1) 1 then ∀ (cap_1 : Nat) (tail : List Value), tailOK tail cap_1 (om + 1) 1 = true → bif goodL [(299, 200)] d && (goodL [(299, 200)] (List.take (om * 1) od ++ [.int .u8 fl] ++ tail) && true) && true then R Exit.normal [.pointer (some (.mk 0 0 (some 0))), .bool m2, .string r6, .int .i64 r7, .pointer (some (.mk 8 0 (some 0))), .pointer (some (.mk 22 0 (some 0))), .slice (some (.mk 200 0 (some 1))) (om + 1) cap_1, .slice (some (.mk 1 0 (some 1))) k2 cap2, .int .i64 L, .int .i64 (IntKind.wrap .i64 (i + 1))] [some (.mk [.string s, .bool nb, .int .i64 w, .int .i64 dg, .int .i64 sc, .bool sg, .slice (some (.mk 1 0 (some 1))) k cap, .int .u8 dr, .int .i64 f, .bool cr, .int .u8 fl, .int .i64 fm] 84 false), some (.mk (rlbL [(299, 200)] d) 102 false), some (.mk [.pointer (some (.mk 0 0 (some 0))), .string nu, .bool mi, .int .i64 (IntKind.wrap .i64 (us + 1)), .int .i64 (IntKind.wrap .i64 (at0 + 1)), .int .i64 ld] 109 true), some (.mk [Value.func (Fn.func 91) (.mk []) (.mk []), Value.func (Fn.func 92) (.mk []) (.mk []), Value.nilFunc, Value.func (Fn.func 93) (.mk []) (.mk []), Value.func (Fn.func 94) (.mk []) (.mk []), Value.func (Fn.func 95) (.mk []) (.mk [])] 112 true), some (.mk (rlbL [(299, 200)] (List.take (om * 1) od ++ [.int .u8 fl] ++ tail)) 5 true)] else False else False else bif Nat.beq (List.length od) (oc * 1) && Nat.ble om oc && Nat.ble oc 9223372036854775807 && true && fitsA (om + 1) 1 then ∀ (cap_1 : Nat) (tail : List Value), tailOK tail cap_1 (om + 1) 1 = true → bif goodL [(293, 200)] d && (goodL [(293, 200)] (List.take (om * 1) od ++ [.int .u8 (byteAt nu (Int.toNat (IntKind.wrap .i64 (IntKind.wrap .i64 (us + 1) - 1))))] ++ tail) && true) && true then R Exit.normal [.pointer (some (.mk 0 0 (some 0))), .bool m2, .string r6, .int .i64 r7, .pointer (some (.mk 8 0 (some 0))), .pointer (some (.mk 22 0 (some 0))), .slice (some (.mk 200 0 (some 1))) (om + 1) cap_1, .slice (some (.mk 1 0 (some 1))) k2 cap2, .int .i64 L, .int .i64 (IntKind.wrap .i64 (i + 1))] [some (.mk [.string s, .bool nb, .int .i64 w, .int .i64 dg, .int .i64 sc, .bool sg, .slice (some (.mk 1 0 (some 1))) k cap, .int .u8 dr, .int .i64 f, .bool cr, .int .u8 fl, .int .i64 fm] 84 false), some (.mk (rlbL [(293, 200)] d) 102 false), some (.mk [.pointer (some (.mk 0 0 (some 0))), .string nu, .bool mi, .int .i64 (IntKind.wrap .i64 (us + 1)), .int .i64 (IntKind.wrap .i64 (at0 + 1)), .int .i64 ld] 109 true), some (.mk [Value.func (Fn.func 91) (.mk []) (.mk []), Value.func (Fn.func 92) (.mk []) (.mk []), Value.nilFunc, Value.func (Fn.func 93) (.mk []) (.mk []), Value.func (Fn.func 94) (.mk []) (.mk []), Value.func (Fn.func 95) (.mk []) (.mk [])] 112 true), some (.mk (rlbL [(293, 200)] (List.take (om * 1) od ++ [.int .u8 (byteAt nu (Int.toNat (IntKind.wrap .i64 (IntKind.wrap .i64 (us + 1) - 1))))] ++ tail)) 5 true)] else False else False else False else bif decide ((↑(0 + Int.toNat (intAt d (0 + Int.toNat i * 1)) * 1) : Int) = 2) then False else bif decide ((↑(0 + Int.toNat (intAt d (0 + Int.toNat i * 1)) * 1) : Int) = 3) then bif byteAt s (Int.toNat i) == 66 then bif Nat.beq (List.length od) (oc * 1) && Nat.ble om oc && Nat.ble oc 9223372036854775807 && true && fitsA (om + 1) 1 then ∀ (cap_1 : Nat) (tail : List Value), tailOK tail cap_1 (om + 1) 1 = true → bif goodL [(263, 200)] d && (goodL [(263, 200)] (List.take (om * 1) od ++ [.int .u8 32] ++ tail) && true) && true then R Exit.normal [.pointer (some (.mk 0 0 (some 0))), .bool m2, .string r6, .int .i64 r7, .pointer (some (.mk 8 0 (some 0))), .pointer (some (.mk 22 0 (some 0))), .slice (some (.mk 200 0 (some 1))) (om + 1) cap_1, .slice (some (.mk 1 0 (some 1))) k2 cap2, .int .i64 L, .int .i64 (IntKind.wrap .i64 (i + 1))] [some (.mk [.string s, .bool nb, .int .i64 w, .int .i64 dg, .int .i64 sc, .bool sg, .slice (some (.mk 1 0 (some 1))) k cap, .int .u8 dr, .int .i64 f, .bool cr, .int .u8 fl, .int .i64 fm] 84 false), some (.mk (rlbL [(263, 200)] d) 102 false), some (.mk [.pointer (some (.mk 0 0 (some 0))), .string nu, .bool mi, .int .i64 us, .int .i64 (IntKind.wrap .i64 (at0 + 1)), .int .i64 ld] 109 true), some (.mk [Value.func (Fn.func 91) (.mk []) (.mk []), Value.func (Fn.func 92) (.mk []) (.mk []), Value.nilFunc, Value.func (Fn.func 93) (.mk []) (.mk []), Value.func (Fn.func 94) (.mk []) (.mk []), Value.func (Fn.func 95) (.mk []) (.mk [])] 112 true), some (.mk (rlbL [(263, 200)] (List.take (om * 1) od ++ [.int .u8 32] ++ tail)) 5 true)] else False else False else bif decide (at0 < ld) then bif Nat.beq (List.length od) (oc * 1) && Nat.ble om oc && Nat.ble oc 9223372036854775807 && true && fitsA (om + 1) 1 then ∀ (cap_1 : Nat) (tail : List Value), tailOK tail cap_1 (om + 1) 1 = true → bif goodL [(280, 200)] d && (goodL [(280, 200)] (List.take (om * 1) od ++ [.int .u8 fl] ++ tail) && true) && true then R Exit.normal [.pointer (some (.mk 0 0 (some 0))), .bool m2, .string r6, .int .i64 r7, .pointer (some (.mk 8 0 (some 0))), .pointer (some (.mk 22 0 (some 0))), .slice (some (.mk 200 0 (some 1))) (om + 1) cap_1, .slice (some (.mk 1 0 (some 1))) k2 cap2, .int .i64 L, .int .i64 (IntKind.wrap .i64 (i + 1))] [some (.mk [.string s, .bool nb, .int .i64 w, .int .i64 dg, .int .i64 sc, .bool sg, .slice (some (.mk 1 0 (some 1))) k cap, .int .u8 dr, .int .i64 f, .bool cr, .int .u8 fl, .int .i64 fm] 84 false), some (.mk (rlbL [(280, 200)] d) 102 false), some (.mk [.pointer (some (.mk 0 0 (some 0))), .string nu, .bool mi, .int .i64 us, .int .i64 (IntKind.wrap .i64 (at0 + 1)), .int .i64 ld] 109 true), some (.mk [Value.func (Fn.func 91) (.mk []) (.mk []), Value.func (Fn.func 92) (.mk []) (.mk []), Value.nilFunc, Value.func (Fn.func 93) (.mk []) (.mk []), Value.func (Fn.func 94) (.mk []) (.mk []), Value.func (Fn.func 95) (.mk []) (.mk [])] 112 true), some (.mk (rlbL [(280, 200)] (List.take (om * 1) od ++ [.int .u8 fl] ++ tail)) 5 true)] else False else False else bif Nat.beq (List.length od) (oc * 1) && Nat.ble om oc && Nat.ble oc 9223372036854775807 && true && fitsA (om + 1) 1 then ∀ (cap_1 : Nat) (tail : List Value), tailOK tail cap_1 (om + 1) 1 = true → bif goodL [(274, 200)] d && (goodL [(274, 200)] (List.take (om * 1) od ++ [.int .u8 (byteAt s (Int.toNat i))] ++ tail) && true) && true then R Exit.normal [.pointer (some (.mk 0 0 (some 0))), .bool m2, .string r6, .int .i64 r7, .pointer (some (.mk 8 0 (some 0))), .pointer (some (.mk 22 0 (some 0))), .slice (some (.mk 200 0 (some 1))) (om + 1) cap_1, .slice (some (.mk 1 0 (some 1))) k2 cap2, .int .i64 L, .int .i64 (IntKind.wrap .i64 (i + 1))] [some (.mk [.string s, .bool nb, .int .i64 w, .int .i64 dg, .int .i64 sc, .bool sg, .slice (some (.mk 1 0 (some 1))) k cap, .int .u8 dr, .int .i64 f, .bool cr, .int .u8 fl, .int .i64 fm] 84 false), some (.mk (rlbL [(274, 200)] d) 102 false), some (.mk [.pointer (some (.mk 0 0 (some 0))), .string nu, .bool mi, .int .i64 us, .int .i64 (IntKind.wrap .i64 (at0 + 1)), .int .i64 ld] 109 true), some (.mk [Value.func (Fn.func 91) (.mk []) (.mk []), Value.func (Fn.func 92) (.mk []) (.mk []), Value.nilFunc, Value.func (Fn.func 93) (.mk []) (.mk []), Value.func (Fn.func 94) (.mk []) (.mk []), Value.func (Fn.func 95) (.mk []) (.mk [])] 112 true), some (.mk (rlbL [(274, 200)] (List.take (om * 1) od ++ [.int .u8 (byteAt s (Int.toNat i))] ++ tail)) 5 true)] else False else False else bif decide ((↑(0 + Int.toNat (intAt d (0 + Int.toNat i * 1)) * 1) : Int) = 4) then bif byteAt s (Int.toNat i) == 83 || true then bif byteAt s (Int.toNat i) == 83 && mi then bif Nat.beq (List.length od) (oc * 1) && Nat.ble om oc && Nat.ble oc 9223372036854775807 && true && fitsA (om + 1) 1 then ∀ (cap_1 : Nat) (tail : List Value), tailOK tail cap_1 (om + 1) 1 = true → bif goodL [(269, 200)] d && (goodL [(269, 200)] (List.take (om * 1) od ++ [.int .u8 45] ++ tail) && true) && true then R Exit.normal [.pointer (some (.mk 0 0 (some 0))), .bool m2, .string r6, .int .i64 r7, .pointer (some (.mk 8 0 (some 0))), .pointer (some (.mk 22 0 (some 0))), .slice (some (.mk 200 0 (some 1))) (om + 1) cap_1, .slice (some (.mk 1 0 (some 1))) k2 cap2, .int .i64 L, .int .i64 (IntKind.wrap .i64 (i + 1))] [some (.mk [.string s, .bool nb, .int .i64 w, .int .i64 dg, .int .i64 sc, .bool sg, .slice (some (.mk 1 0 (some 1))) k cap, .int .u8 dr, .int .i64 f, .bool cr, .int .u8 fl, .int .i64 fm] 84 false), some (.mk (rlbL [(269, 200)] d) 102 false), some (.mk [.pointer (some (.mk 0 0 (some 0))), .string nu, .bool mi, .int .i64 us, .int .i64 (IntKind.wrap .i64 (at0 + 1)), .int .i64 ld] 109 true), some (.mk [Value.func (Fn.func 91) (.mk []) (.mk []), Value.func (Fn.func 92) (.mk []) (.mk []), Value.nilFunc, Value.func (Fn.func 93) (.mk []) (.mk []), Value.func (Fn.func 94) (.mk []) (.mk []), Value.func (Fn.func 95) (.mk []) (.mk [])] 112 true), some (.mk (rlbL [(269, 200)] (List.take (om * 1) od ++ [.int .u8 45] ++ tail)) 5 true)] else False else False else bif byteAt s (Int.toNat i) == 83 then bif Nat.beq (List.length od) (oc * 1) && Nat.ble om oc && Nat.ble oc 9223372036854775807 && true && fitsA (om + 1) 1 then ∀ (cap_1 : Nat) (tail : List Value), tailOK tail cap_1 (om + 1) 1 = true → bif goodL [(272, 200)] d && (goodL [(272, 200)] (List.take (om * 1) od ++ [.int .u8 43] ++ tail) && true) && true then R Exit.normal [.pointer (some (.mk 0 0 (some 0))), .bool m2, .string r6, .int .i64 r7, .pointer (some (.mk 8 0 (some 0))), .pointer (some (.mk 22 0 (some 0))), .slice (some (.mk 200 0 (some 1))) (om + 1) cap_1, .slice (some (.mk 1 0 (some 1))) k2 cap2, .int .i64 L, .int .i64 (IntKind.wrap .i64 (i + 1))] [some (.mk [.string s, .bool nb, .int .i64 w, .int .i64 dg, .int .i64 sc, .bool sg, .slice (some (.mk 1 0 (some 1))) k cap, .int .u8 dr, .int .i64 f, .bool cr, .int .u8 fl, .int .i64 fm] 84 false), some (.mk (rlbL [(272, 200)] d) 102 false), some (.mk [.pointer (some (.mk 0 0 (some 0))), .string nu, .bool mi, .int .i64 us, .int .i64 (IntKind.wrap .i64 (at0 + 1)), .int .i64 ld] 109 true), some (.mk [Value.func (Fn.func 91) (.mk []) (.mk []), Value.func (Fn.func 92) (.mk []) (.mk []), Value.nilFunc, Value.func (Fn.func 93) (.mk []) (.mk []), Value.func (Fn.func 94) (.mk []) (.mk []), Value.func (Fn.func 95) (.mk []) (.mk [])] 112 true), some (.mk (rlbL [(272, 200)] (List.take (om * 1) od ++ [.int .u8 43] ++ tail)) 5 true)] else False else False else bif (byteAt s (Int.toNat i) == 43) == mi then bif Nat.beq (List.length od) (oc * 1) && Nat.ble om oc && Nat.ble oc 9223372036854775807 && true && fitsA (om + 1) 1 then ∀ (cap_1 : Nat) (tail : List Value), tailOK tail cap_1 (om + 1) 1 = true → bif goodL [(280, 200)] d && (goodL [(280, 200)] (List.take (om * 1) od ++ [.int .u8 32] ++ tail) && true) && true then R Exit.normal [.pointer (some (.mk 0 0 (some 0))), .bool m2, .string r6, .int .i64 r7, .pointer (some (.mk 8 0 (some 0))), .pointer (some (.mk 22 0 (some 0))), .slice (some (.mk 200 0 (some 1))) (om + 1) cap_1, .slice (some (.mk 1 0 (some 1))) k2 cap2, .int .i64 L, .int .i64 (IntKind.wrap .i64 (i + 1))] [some (.mk [.string s, .bool nb, .int .i64 w, .int .i64 dg, .int .i64 sc, .bool sg, .slice (some (.mk 1 0 (some 1))) k cap, .int .u8 dr, .int .i64 f, .bool cr, .int .u8 fl, .int .i64 fm] 84 false), some (.mk (rlbL [(280, 200)] d) 102 false), some (.mk [.pointer (some (.mk 0 0 (some 0))), .string nu, .bool mi, .int .i64 us, .int .i64 (IntKind.wrap .i64 (at0 + 1)), .int .i64 ld] 109 true), some (.mk [Value.func (Fn.func 91) (.mk []) (.mk []), Value.func (Fn.func 92) (.mk []) (.mk []), Value.nilFunc, Value.func (Fn.func 93) (.mk []) (.mk []), Value.func (Fn.func 94) (.mk []) (.mk []), Value.func (Fn.func 95) (.mk []) (.mk [])] 112 true), some (.mk (rlbL [(280, 200)] (List.take (om * 1) od ++ [.int .u8 32] ++ tail)) 5 true)] else False else False else bif Nat.beq (List.length od) (oc * 1) && Nat.ble om oc && Nat.ble oc 9223372036854775807 && true && fitsA (om + 1) 1 then ∀ (cap_1 : Nat) (tail : List Value), tailOK tail cap_1 (om + 1) 1 = true → bif goodL [(281, 200)] d && (goodL [(281, 200)] (List.take (om * 1) od ++ [.int .u8 (byteAt s (Int.toNat i))] ++ tail) && true) && true then R Exit.normal [.pointer (some (.mk 0 0 (some 0))), .bool m2, .string r6, .int .i64 r7, .pointer (some (.mk 8 0 (some 0))), .pointer (some (.mk 22 0 (some 0))), .slice (some (.mk 200 0 (some 1))) (om + 1) cap_1, .slice (some (.mk 1 0 (some 1))) k2 cap2, .int .i64 L, .int .i64 (IntKind.wrap .i64 (i + 1))] [some (.mk [.string s, .bool nb, .int .i64 w, .int .i64 dg, .int .i64 sc, .bool sg, .slice (some (.mk 1 0 (some 1))) k cap, .int .u8 dr, .int .i64 f, .bool cr, .int .u8 fl, .int .i64 fm] 84 false), some (.mk (rlbL [(281, 200)] d) 102 false), some (.mk [.pointer (some (.mk 0 0 (some 0))), .string nu, .bool mi, .int .i64 us, .int .i64 (IntKind.wrap .i64 (at0 + 1)), .int .i64 ld] 109 true), some (.mk [Value.func (Fn.func 91) (.mk []) (.mk []), Value.func (Fn.func 92) (.mk []) (.mk []), Value.nilFunc, Value.func (Fn.func 93) (.mk []) (.mk []), Value.func (Fn.func 94) (.mk []) (.mk []), Value.func (Fn.func 95) (.mk []) (.mk [])] 112 true), some (.mk (rlbL [(281, 200)] (List.take (om * 1) od ++ [.int .u8 (byteAt s (Int.toNat i))] ++ tail)) 5 true)] else False else False else False else bif decide ((↑(0 + Int.toNat (intAt d (0 + Int.toNat i * 1)) * 1) : Int) = 5) then bif Nat.beq (List.length od) (oc * 1) && Nat.ble om oc && Nat.ble oc 9223372036854775807 && true && fitsA (om + 1) 1 then ∀ (cap_1 : Nat) (tail : List Value), tailOK tail cap_1 (om + 1) 1 = true → bif goodL [(261, 200)] d && (goodL [(261, 200)] (List.take (om * 1) od ++ [.int .u8 (byteAt s (Int.toNat i))] ++ tail) && true) && true then R Exit.normal [.pointer (some (.mk 0 0 (some 0))), .bool m2, .string r6, .int .i64 r7, .pointer (some (.mk 8 0 (some 0))), .pointer (some (.mk 22 0 (some 0))), .slice (some (.mk 200 0 (some 1))) (om + 1) cap_1, .slice (some (.mk 1 0 (some 1))) k2 cap2, .int .i64 L, .int .i64 (IntKind.wrap .i64 (i + 1))] [some (.mk [.string s, .bool nb, .int .i64 w, .int .i64 dg, .int .i64 sc, .bool sg, .slice (some (.mk 1 0 (some 1))) k cap, .int .u8 dr, .int .i64 f, .bool cr, .int .u8 fl, .int .i64 fm] 84 false), some (.mk (rlbL [(261, 200)] d) 102 false), some (.mk [.pointer (some (.mk 0 0 (some 0))), .string nu, .bool mi, .int .i64 us, .int .i64 (IntKind.wrap .i64 (at0 + 1)), .int .i64 ld] 109 true), some (.mk [Value.func (Fn.func 91) (.mk []) (.mk []), Value.func (Fn.func 92) (.mk []) (.mk []), Value.nilFunc, Value.func (Fn.func 93) (.mk []) (.mk []), Value.func (Fn.func 94) (.mk []) (.mk []), Value.func (Fn.func 95) (.mk []) (.mk [])] 112 true), some (.mk (rlbL [(261, 200)] (List.take (om * 1) od ++ [.int .u8 (byteAt s (Int.toNat i))] ++ tail)) 5 true)] else False else False else False else False else False else False else False else False else bif goodL [(200, 200)] d && (goodL [(200, 200)] od && true) && true then R (Exit.exit 0) [.pointer (some (.mk 0 0 (some 0))), .bool m2, .string r6, .int .i64 r7, .pointer (some (.mk 8 0 (some 0))), .pointer (some (.mk 22 0 (some 0))), .slice (some (.mk 200 0 (some 1))) om oc, .slice (some (.mk 1 0 (some 1))) k2 cap2, .int .i64 L, .int .i64 i] [some (.mk [.string s, .bool nb, .int .i64 w, .int .i64 dg, .int .i64 sc, .bool sg, .slice (some (.mk 1 0 (some 1))) k cap, .int .u8 dr, .int .i64 f, .bool cr, .int .u8 fl, .int .i64 fm] 84 false), some (.mk (rlbL [(200, 200)] d) 102 false), some (.mk [.pointer (some (.mk 0 0 (some 0))), .string nu, .bool mi, .int .i64 us, .int .i64 at0, .int .i64 ld] 109 true), some (.mk [Value.func (Fn.func 91) (.mk []) (.mk []), Value.func (Fn.func 92) (.mk []) (.mk []), Value.nilFunc, Value.func (Fn.func 93) (.mk []) (.mk []), Value.func (Fn.func 94) (.mk []) (.mk []), Value.func (Fn.func 95) (.mk []) (.mk [])] 112 true), some (.mk (rlbL [(200, 200)] od) 5 true)] else False) := by kernel_rfl
theorem l64_0 : LOKf Tryz.prog (oneL 0 S64_0.hA) Tryz.f64 := by
 refine lokf_one (h := S64_0.hA) (by kernel_rfl) (loop_specA ok_G35 hmix (by kernel_rfl) (lok_none _) S64_0 V64_0 B64_0 (fun (m2, r6, r7, o, k2, cap2, L, i, s, nb, w, dg, sc, sg, k, cap, dr, f, cr, fl, fm, nu, mi, us, at0, ld, d) => (k2 - i).toNat) ?_ ?_ ?_)
 ·intro vs bs s h
  simp only [S64_0] at h
  split at h
  all_goals first | (cases h; exact ⟨rfl, rfl⟩) | cases h | (split at h <;> first | (rename_i hq; cases h; have hq := isHow_eq hq; subst hq; exact ⟨rfl, rfl⟩) | cases h)
 ·exact fun ⟨m2, r6, r7, o, k2, cap2, L, i, s, nb, w, dg, sc, sg, k, cap, dr, f, cr, fl, fm, nu, mi, us, at0, ld, d⟩ hp => by
   simp only [S64_0, Bool.and_eq_true] at hp
   have hr := rowIOK_iff.1 hp.2.1
   cases o with
   | nil => simp [how, V64_0, B64_0, S64_0, idsLt, idsLtB, idsL, ids, Rw.v, Rw.b, ids_plainL hr.plain]
   | own od om oc => simp [how, V64_0, B64_0, S64_0, idsLt, idsLtB, idsL, ids, Rw.v, Rw.b, ids_plainL hr.plain, ids_plainL (rowOK_iff.1 hp.1).plain]
 ·intro ⟨m2, r6, r7, o, k2, cap2, L, i, s, nb, w, dg, sc, sg, k, cap, dr, f, cr, fl, fm, nu, mi, us, at0, ld, d⟩ jk Z hp hf
  simp only [S64_0] at hp hf
  cases o with
  | nil =>
   rw [r64_0n]
   simp only [Bool.and_eq_true, decide_eq_true_eq] at hp
   obtain ⟨-, hR, hO, hD, rfl, hp⟩ := hp
   have hr := rowIOK_iff.1 hR
   simp only [Rw.z, List.length_nil] at hp hf
   have e0 : 0 + i.toNat * 1 = i.toNat := by omega
   rw [e0]
   refine cond_intro (fun h => ?_) (fun h => ?_)
   ·have h := of_decide_eq_true h
    obtain ⟨a1, a3⟩ := hr.at hp.1 (by omega)
    have hro := roOK_at hO a3
    rw [a3, wrGo, bz_at hp.1 (by omega), List.headD_cons, List.tail_cons] at hf
    rw [a3] at hp
    have hc1 := @cdg_c (intAt d i.toNat) ((zc d k2).drop (i + 1).toNat)
    have hc2 := cdg_nn ((zc d k2).drop (i + 1).toNat)
    rw [a1, w64 (n := i + 1) (by omega), w64 (n := at0 + 1) (by omega), w64 (n := (s.size : Int) - 2) (by omega)]
    have eu : IntKind.wrap .i64 (IntKind.wrap .i64 (us + 1) - 1) = us := by rw [w64 (n := us + 1) (by omega), w64 (by omega)]; omega
    rw [eu]
    generalize intAt d i.toNat = r at *
    generalize byteAt s i.toNat = c at *
    have er : ((0 + r.toNat * 1 : Nat) : Int) = r := by omega
    rw [er]
    refine c_t (decide_eq_true (by omega)) (c_t rfl (c_t (decide_eq_true (by omega)) (cond_intro (fun q => ?_) (fun q => ?_))))
    ·rw [q, cond_true] at hf
     refine c_t (by rw [hr.good]; rfl) ?_
     rw [hr.rlb]
     exact ⟨(m2, r6, r7, .nil, k2, cap2, L, i + 1, s, nb, w, dg, sc, sg, k, cap, dr, f, cr, fl, fm, nu, m2, us, at0, ld, d), rfl, rfl, by simp only [S64_0, Bool.and_eq_true, decide_eq_true_eq]; exact ⟨rfl, hR, hO, hD, trivial, by simp only [Rw.z, List.length_nil]; omega⟩, by simp only; omega, hf⟩
    ·rw [q, cond_false] at hf
     refine cond_intro (fun q0 => ?_) (fun q0 => c_t (by simp) (cond_intro (fun q1 => cond_intro (fun q2 => ?_) (fun q2 => ?_)) (fun q1 => c_t (decide_eq_true hro) ?_)))
     ·intro cap1 tail ht
      obtain ⟨h1, h2⟩ : RowP (Value.int IntKind.u8 (fl) :: tail) 1 cap1 ∧ zc (Value.int IntKind.u8 (fl) :: tail) 1 = [fl] := row_new [fl] ht
      have hl1 := zc_length h1
      generalize Value.int IntKind.u8 (fl) :: tail = od' at *
      have e : wrC f cr s.size m2 ld fl r c (List.headD (List.drop us.toNat (bz nu)) 0) i at0 = fl := by
       simp only [wrC, q0, cond_true, cond_false]
      have eT : wrT f cr s.size r i = false := by simp only [wrT, q0, cond_true, cond_false, Bool.not_true, Bool.not_false, Bool.true_and, Bool.false_and, Bool.true_or, Bool.or_true, Bool.false_or, Bool.and_false, Bool.and_true]
      rw [e, eT, cond_false] at hf
      refine c_t (by rw [hr.good, h1.good]; rfl) ?_
      rw [hr.rlb, h1.rlb]
      exact ⟨(m2, r6, r7, .own od' (1) cap1, k2, cap2, L, i + 1, s, nb, w, dg, sc, sg, k, cap, dr, f, cr, fl, fm, nu, m2, us, at0 + 1, ld, d), rfl, rfl, by simp only [S64_0, Bool.and_eq_true, decide_eq_true_eq]; exact ⟨rowOK_iff.2 h1, hR, hO, hD, trivial, by simp only [Rw.z, hl1]; omega⟩, by simp only; omega, ⟨fun q => (by cases q), fun us' at' i' od'' om'' oc'' g1 g2 => hf.2 us' at' i' od'' om'' oc'' g1 (by rw [g2]; simp only [Rw.z, h2, List.append_assoc, List.cons_append, List.nil_append])⟩⟩
     ·intro cap1 tail ht
      obtain ⟨h1, h2⟩ : RowP (Value.int IntKind.u8 (32) :: tail) 1 cap1 ∧ zc (Value.int IntKind.u8 (32) :: tail) 1 = [32] := row_new [32] ht
      have hl1 := zc_length h1
      generalize Value.int IntKind.u8 (32) :: tail = od' at *
      have e : wrC f cr s.size m2 ld fl r c (List.headD (List.drop us.toNat (bz nu)) 0) i at0 = 32 := by
       simp only [wrC, q0, q1, q2, cond_true, cond_false]
      have eT : wrT f cr s.size r i = false := by simp only [wrT, q0, q1, q2, cond_true, cond_false, Bool.not_true, Bool.not_false, Bool.true_and, Bool.false_and, Bool.true_or, Bool.or_true, Bool.false_or, Bool.and_false, Bool.and_true]
      rw [e, eT, cond_false] at hf
      refine c_t (by rw [hr.good, h1.good]; rfl) ?_
      rw [hr.rlb, h1.rlb]
      exact ⟨(m2, r6, r7, .own od' (1) cap1, k2, cap2, L, i + 1, s, nb, w, dg, sc, sg, k, cap, dr, f, cr, fl, fm, nu, m2, us, at0 + 1, ld, d), rfl, rfl, by simp only [S64_0, Bool.and_eq_true, decide_eq_true_eq]; exact ⟨rowOK_iff.2 h1, hR, hO, hD, trivial, by simp only [Rw.z, hl1]; omega⟩, by simp only; omega, ⟨fun q => (by cases q), fun us' at' i' od'' om'' oc'' g1 g2 => hf.2 us' at' i' od'' om'' oc'' g1 (by rw [g2]; simp only [Rw.z, h2, List.append_assoc, List.cons_append, List.nil_append])⟩⟩
     ·intro cap1 tail ht
      obtain ⟨h1, h2⟩ : RowP (Value.int IntKind.u8 (c) :: tail) 1 cap1 ∧ zc (Value.int IntKind.u8 (c) :: tail) 1 = [c] := row_new [c] ht
      have hl1 := zc_length h1
      generalize Value.int IntKind.u8 (c) :: tail = od' at *
      have e : wrC f cr s.size m2 ld fl r c (List.headD (List.drop us.toNat (bz nu)) 0) i at0 = c := by
       simp only [wrC, q0, q1, q2, cond_true, cond_false]
      have eT : wrT f cr s.size r i = false := by simp only [wrT, q0, q1, q2, cond_true, cond_false, Bool.not_true, Bool.not_false, Bool.true_and, Bool.false_and, Bool.true_or, Bool.or_true, Bool.false_or, Bool.and_false, Bool.and_true]
      rw [e, eT, cond_false] at hf
      refine c_t (by rw [hr.good, h1.good]; rfl) ?_
      rw [hr.rlb, h1.rlb]
      exact ⟨(m2, r6, r7, .own od' (1) cap1, k2, cap2, L, i + 1, s, nb, w, dg, sc, sg, k, cap, dr, f, cr, fl, fm, nu, m2, us, at0 + 1, ld, d), rfl, rfl, by simp only [S64_0, Bool.and_eq_true, decide_eq_true_eq]; exact ⟨rowOK_iff.2 h1, hR, hO, hD, trivial, by simp only [Rw.z, hl1]; omega⟩, by simp only; omega, ⟨fun q => (by cases q), fun us' at' i' od'' om'' oc'' g1 g2 => hf.2 us' at' i' od'' om'' oc'' g1 (by rw [g2]; simp only [Rw.z, h2, List.append_assoc, List.cons_append, List.nil_append])⟩⟩
     ·refine cond_intro (fun n => ?_) (fun m => cond_intro (fun n => ?_) (fun m1 => cond_intro (fun n => ?_) (fun m2' => cond_intro (fun n => ?_) (fun m3 => cond_intro (fun n => ?_) (fun m4 => ?_)))))
      ·have n0 := of_decide_eq_true n
       have hc3 := @cdg_1 r ((zc d k2).drop (i + 1).toNat) (by omega)
       have hd := dgb_at hD hp.2.2.2.2.2.2.1 (by omega)
       have ed := bz_at hp.2.2.2.2.2.2.1 (s := nu) (by omega)
       have ed' : List.headD (List.drop us.toNat (bz nu)) 0 = byteAt nu us.toNat := by rw [ed]; rfl
       rw [w8 (n := byteAt nu us.toNat - 48) (by omega), w64 (n := byteAt nu us.toNat - 48) (by omega)]
       generalize byteAt nu us.toNat = dd at *
       refine c_t (decide_eq_true (by omega)) (c_t (by simp) (cond_intro (fun q2 => ?_) (fun q2 => c_t (by cases c == 84 <;> cases c == 73 <;> simp) (cond_intro (fun q3 => ?_) (fun q3 => ?_)))))
       ·intro cap1 tail ht
        obtain ⟨h1, h2⟩ : RowP (Value.int IntKind.u8 (32) :: tail) 1 cap1 ∧ zc (Value.int IntKind.u8 (32) :: tail) 1 = [32] := row_new [32] ht
        have hl1 := zc_length h1
        generalize Value.int IntKind.u8 (32) :: tail = od' at *
        have e : wrC f cr s.size m2 ld fl r c (List.headD (List.drop us.toNat (bz nu)) 0) i at0 = 32 := by
         simp only [wrC, q0, q1, n, ed', cond_true, cond_false]
         exact fm_a q2
        have eT : wrT f cr s.size r i = true := by simp only [wrT, q0, q1, n, ed', cond_true, cond_false, Bool.not_true, Bool.not_false, Bool.true_and, Bool.false_and, Bool.true_or, Bool.or_true, Bool.false_or, Bool.and_false, Bool.and_true]
        rw [e, eT, cond_true, ed, List.tail_cons] at hf
        rw [w64 (n := us + 1) (by omega)]
        refine c_t (by rw [hr.good, h1.good]; rfl) ?_
        rw [hr.rlb, h1.rlb]
        exact ⟨(m2, r6, r7, .own od' (1) cap1, k2, cap2, L, i + 1, s, nb, w, dg, sc, sg, k, cap, dr, f, cr, fl, fm, nu, m2, us + 1, at0 + 1, ld, d), rfl, rfl, by simp only [S64_0, Bool.and_eq_true, decide_eq_true_eq]; exact ⟨rowOK_iff.2 h1, hR, hO, hD, trivial, by simp only [Rw.z, hl1]; omega⟩, by simp only; omega, ⟨fun q => (by cases q), fun us' at' i' od'' om'' oc'' g1 g2 => hf.2 us' at' i' od'' om'' oc'' g1 (by rw [g2]; simp only [Rw.z, h2, List.append_assoc, List.cons_append, List.nil_append])⟩⟩
       ·intro cap1 tail ht
        obtain ⟨h1, h2⟩ : RowP (Value.int IntKind.u8 (puZ (dd - 48) m2) :: tail) 1 cap1 ∧ zc (Value.int IntKind.u8 (puZ (dd - 48) m2) :: tail) 1 = [puZ (dd - 48) m2] := row_new [puZ (dd - 48) m2] ht
        have hl1 := zc_length h1
        generalize Value.int IntKind.u8 (puZ (dd - 48) m2) :: tail = od' at *
        have e : wrC f cr s.size m2 ld fl r c (List.headD (List.drop us.toNat (bz nu)) 0) i at0 = puZ (dd - 48) m2 := by
         simp only [wrC, q0, q1, n, ed', cond_true, cond_false]
         exact fm_b q2 q3
        have eT : wrT f cr s.size r i = true := by simp only [wrT, q0, q1, n, ed', cond_true, cond_false, Bool.not_true, Bool.not_false, Bool.true_and, Bool.false_and, Bool.true_or, Bool.or_true, Bool.false_or, Bool.and_false, Bool.and_true]
        rw [e, eT, cond_true, ed, List.tail_cons] at hf
        rw [w64 (n := us + 1) (by omega)]
        refine c_t (by rw [hr.good, h1.good]; rfl) ?_
        rw [hr.rlb, h1.rlb]
        exact ⟨(m2, r6, r7, .own od' (1) cap1, k2, cap2, L, i + 1, s, nb, w, dg, sc, sg, k, cap, dr, f, cr, fl, fm, nu, m2, us + 1, at0 + 1, ld, d), rfl, rfl, by simp only [S64_0, Bool.and_eq_true, decide_eq_true_eq]; exact ⟨rowOK_iff.2 h1, hR, hO, hD, trivial, by simp only [Rw.z, hl1]; omega⟩, by simp only; omega, ⟨fun q => (by cases q), fun us' at' i' od'' om'' oc'' g1 g2 => hf.2 us' at' i' od'' om'' oc'' g1 (by rw [g2]; simp only [Rw.z, h2, List.append_assoc, List.cons_append, List.nil_append])⟩⟩
       ·intro cap1 tail ht
        obtain ⟨h1, h2⟩ : RowP (Value.int IntKind.u8 (dd) :: tail) 1 cap1 ∧ zc (Value.int IntKind.u8 (dd) :: tail) 1 = [dd] := row_new [dd] ht
        have hl1 := zc_length h1
        generalize Value.int IntKind.u8 (dd) :: tail = od' at *
        have e : wrC f cr s.size m2 ld fl r c (List.headD (List.drop us.toNat (bz nu)) 0) i at0 = dd := by
         simp only [wrC, q0, q1, n, ed', cond_true, cond_false]
         exact fm_c q2 q3
        have eT : wrT f cr s.size r i = true := by simp only [wrT, q0, q1, n, ed', cond_true, cond_false, Bool.not_true, Bool.not_false, Bool.true_and, Bool.false_and, Bool.true_or, Bool.or_true, Bool.false_or, Bool.and_false, Bool.and_true]
        rw [e, eT, cond_true, ed, List.tail_cons] at hf
        rw [w64 (n := us + 1) (by omega)]
        refine c_t (by rw [hr.good, h1.good]; rfl) ?_
        rw [hr.rlb, h1.rlb]
        exact ⟨(m2, r6, r7, .own od' (1) cap1, k2, cap2, L, i + 1, s, nb, w, dg, sc, sg, k, cap, dr, f, cr, fl, fm, nu, m2, us + 1, at0 + 1, ld, d), rfl, rfl, by simp only [S64_0, Bool.and_eq_true, decide_eq_true_eq]; exact ⟨rowOK_iff.2 h1, hR, hO, hD, trivial, by simp only [Rw.z, hl1]; omega⟩, by simp only; omega, ⟨fun q => (by cases q), fun us' at' i' od'' om'' oc'' g1 g2 => hf.2 us' at' i' od'' om'' oc'' g1 (by rw [g2]; simp only [Rw.z, h2, List.append_assoc, List.cons_append, List.nil_append])⟩⟩
      ·have n0 := of_decide_eq_true n
       have hc3 := @cdg_1 r ((zc d k2).drop (i + 1).toNat) (by omega)
       have hd := dgb_at hD hp.2.2.2.2.2.2.1 (by omega)
       have ed := bz_at hp.2.2.2.2.2.2.1 (s := nu) (by omega)
       have ed' : List.headD (List.drop us.toNat (bz nu)) 0 = byteAt nu us.toNat := by rw [ed]; rfl
       generalize byteAt nu us.toNat = dd at *
       refine c_t (decide_eq_true (by omega)) (cond_intro (fun q2 => ?_) (fun q2 => ?_))
       ·intro cap1 tail ht
        obtain ⟨h1, h2⟩ : RowP (Value.int IntKind.u8 (fl) :: tail) 1 cap1 ∧ zc (Value.int IntKind.u8 (fl) :: tail) 1 = [fl] := row_new [fl] ht
        have hl1 := zc_length h1
        generalize Value.int IntKind.u8 (fl) :: tail = od' at *
        have e : wrC f cr s.size m2 ld fl r c (List.headD (List.drop us.toNat (bz nu)) 0) i at0 = fl := by
         simp only [wrC, q0, q1, m, n, q2, ed', cond_true, cond_false]
        have eT : wrT f cr s.size r i = true := by simp only [wrT, q0, q1, m, n, q2, ed', cond_true, cond_false, Bool.not_true, Bool.not_false, Bool.true_and, Bool.false_and, Bool.true_or, Bool.or_true, Bool.false_or, Bool.and_false, Bool.and_true]
        rw [e, eT, cond_true, ed, List.tail_cons] at hf
        rw [w64 (n := us + 1) (by omega)]
        refine c_t (by rw [hr.good, h1.good]; rfl) ?_
        rw [hr.rlb, h1.rlb]
        exact ⟨(m2, r6, r7, .own od' (1) cap1, k2, cap2, L, i + 1, s, nb, w, dg, sc, sg, k, cap, dr, f, cr, fl, fm, nu, m2, us + 1, at0 + 1, ld, d), rfl, rfl, by simp only [S64_0, Bool.and_eq_true, decide_eq_true_eq]; exact ⟨rowOK_iff.2 h1, hR, hO, hD, trivial, by simp only [Rw.z, hl1]; omega⟩, by simp only; omega, ⟨fun q => (by cases q), fun us' at' i' od'' om'' oc'' g1 g2 => hf.2 us' at' i' od'' om'' oc'' g1 (by rw [g2]; simp only [Rw.z, h2, List.append_assoc, List.cons_append, List.nil_append])⟩⟩
       ·intro cap1 tail ht
        obtain ⟨h1, h2⟩ : RowP (Value.int IntKind.u8 (dd) :: tail) 1 cap1 ∧ zc (Value.int IntKind.u8 (dd) :: tail) 1 = [dd] := row_new [dd] ht
        have hl1 := zc_length h1
        generalize Value.int IntKind.u8 (dd) :: tail = od' at *
        have e : wrC f cr s.size m2 ld fl r c (List.headD (List.drop us.toNat (bz nu)) 0) i at0 = dd := by
         simp only [wrC, q0, q1, m, n, q2, ed', cond_true, cond_false]
        have eT : wrT f cr s.size r i = true := by simp only [wrT, q0, q1, m, n, q2, ed', cond_true, cond_false, Bool.not_true, Bool.not_false, Bool.true_and, Bool.false_and, Bool.true_or, Bool.or_true, Bool.false_or, Bool.and_false, Bool.and_true]
        rw [e, eT, cond_true, ed, List.tail_cons] at hf
        rw [w64 (n := us + 1) (by omega)]
        refine c_t (by rw [hr.good, h1.good]; rfl) ?_
        rw [hr.rlb, h1.rlb]
        exact ⟨(m2, r6, r7, .own od' (1) cap1, k2, cap2, L, i + 1, s, nb, w, dg, sc, sg, k, cap, dr, f, cr, fl, fm, nu, m2, us + 1, at0 + 1, ld, d), rfl, rfl, by simp only [S64_0, Bool.and_eq_true, decide_eq_true_eq]; exact ⟨rowOK_iff.2 h1, hR, hO, hD, trivial, by simp only [Rw.z, hl1]; omega⟩, by simp only; omega, ⟨fun q => (by cases q), fun us' at' i' od'' om'' oc'' g1 g2 => hf.2 us' at' i' od'' om'' oc'' g1 (by rw [g2]; simp only [Rw.z, h2, List.append_assoc, List.cons_append, List.nil_append])⟩⟩
      ·have n := of_decide_eq_true n
       rw [n] at q
       cases q
      ·refine cond_intro (fun q2 => ?_) (fun q2 => cond_intro (fun q3 => ?_) (fun q3 => ?_))
       ·intro cap1 tail ht
        obtain ⟨h1, h2⟩ : RowP (Value.int IntKind.u8 (32) :: tail) 1 cap1 ∧ zc (Value.int IntKind.u8 (32) :: tail) 1 = [32] := row_new [32] ht
        have hl1 := zc_length h1
        generalize Value.int IntKind.u8 (32) :: tail = od' at *
        have e : wrC f cr s.size m2 ld fl r c (List.headD (List.drop us.toNat (bz nu)) 0) i at0 = 32 := by
         simp only [wrC, q0, q1, m, m1, n, q2, cond_true, cond_false]
        have eT : wrT f cr s.size r i = false := by simp only [wrT, q0, q1, m, m1, n, q2, cond_true, cond_false, Bool.not_true, Bool.not_false, Bool.true_and, Bool.false_and, Bool.true_or, Bool.or_true, Bool.false_or, Bool.and_false, Bool.and_true]
        rw [e, eT, cond_false] at hf
        refine c_t (by rw [hr.good, h1.good]; rfl) ?_
        rw [hr.rlb, h1.rlb]
        exact ⟨(m2, r6, r7, .own od' (1) cap1, k2, cap2, L, i + 1, s, nb, w, dg, sc, sg, k, cap, dr, f, cr, fl, fm, nu, m2, us, at0 + 1, ld, d), rfl, rfl, by simp only [S64_0, Bool.and_eq_true, decide_eq_true_eq]; exact ⟨rowOK_iff.2 h1, hR, hO, hD, trivial, by simp only [Rw.z, hl1]; omega⟩, by simp only; omega, ⟨fun q => (by cases q), fun us' at' i' od'' om'' oc'' g1 g2 => hf.2 us' at' i' od'' om'' oc'' g1 (by rw [g2]; simp only [Rw.z, h2, List.append_assoc, List.cons_append, List.nil_append])⟩⟩
       ·intro cap1 tail ht
        obtain ⟨h1, h2⟩ : RowP (Value.int IntKind.u8 (fl) :: tail) 1 cap1 ∧ zc (Value.int IntKind.u8 (fl) :: tail) 1 = [fl] := row_new [fl] ht
        have hl1 := zc_length h1
        generalize Value.int IntKind.u8 (fl) :: tail = od' at *
        have e : wrC f cr s.size m2 ld fl r c (List.headD (List.drop us.toNat (bz nu)) 0) i at0 = fl := by
         simp only [wrC, q0, q1, m, m1, n, q2, q3, cond_true, cond_false]
        have eT : wrT f cr s.size r i = false := by simp only [wrT, q0, q1, m, m1, n, q2, q3, cond_true, cond_false, Bool.not_true, Bool.not_false, Bool.true_and, Bool.false_and, Bool.true_or, Bool.or_true, Bool.false_or, Bool.and_false, Bool.and_true]
        rw [e, eT, cond_false] at hf
        refine c_t (by rw [hr.good, h1.good]; rfl) ?_
        rw [hr.rlb, h1.rlb]
        exact ⟨(m2, r6, r7, .own od' (1) cap1, k2, cap2, L, i + 1, s, nb, w, dg, sc, sg, k, cap, dr, f, cr, fl, fm, nu, m2, us, at0 + 1, ld, d), rfl, rfl, by simp only [S64_0, Bool.and_eq_true, decide_eq_true_eq]; exact ⟨rowOK_iff.2 h1, hR, hO, hD, trivial, by simp only [Rw.z, hl1]; omega⟩, by simp only; omega, ⟨fun q => (by cases q), fun us' at' i' od'' om'' oc'' g1 g2 => hf.2 us' at' i' od'' om'' oc'' g1 (by rw [g2]; simp only [Rw.z, h2, List.append_assoc, List.cons_append, List.nil_append])⟩⟩
       ·intro cap1 tail ht
        obtain ⟨h1, h2⟩ : RowP (Value.int IntKind.u8 (c) :: tail) 1 cap1 ∧ zc (Value.int IntKind.u8 (c) :: tail) 1 = [c] := row_new [c] ht
        have hl1 := zc_length h1
        generalize Value.int IntKind.u8 (c) :: tail = od' at *
        have e : wrC f cr s.size m2 ld fl r c (List.headD (List.drop us.toNat (bz nu)) 0) i at0 = c := by
         simp only [wrC, q0, q1, m, m1, n, q2, q3, cond_true, cond_false]
        have eT : wrT f cr s.size r i = false := by simp only [wrT, q0, q1, m, m1, n, q2, q3, cond_true, cond_false, Bool.not_true, Bool.not_false, Bool.true_and, Bool.false_and, Bool.true_or, Bool.or_true, Bool.false_or, Bool.and_false, Bool.and_true]
        rw [e, eT, cond_false] at hf
        refine c_t (by rw [hr.good, h1.good]; rfl) ?_
        rw [hr.rlb, h1.rlb]
        exact ⟨(m2, r6, r7, .own od' (1) cap1, k2, cap2, L, i + 1, s, nb, w, dg, sc, sg, k, cap, dr, f, cr, fl, fm, nu, m2, us, at0 + 1, ld, d), rfl, rfl, by simp only [S64_0, Bool.and_eq_true, decide_eq_true_eq]; exact ⟨rowOK_iff.2 h1, hR, hO, hD, trivial, by simp only [Rw.z, hl1]; omega⟩, by simp only; omega, ⟨fun q => (by cases q), fun us' at' i' od'' om'' oc'' g1 g2 => hf.2 us' at' i' od'' om'' oc'' g1 (by rw [g2]; simp only [Rw.z, h2, List.append_assoc, List.cons_append, List.nil_append])⟩⟩
      ·refine c_t (by simp) (cond_intro (fun q2 => ?_) (fun q2 => cond_intro (fun q3 => ?_) (fun q3 => cond_intro (fun q4 => ?_) (fun q4 => ?_))))
       ·intro cap1 tail ht
        obtain ⟨h1, h2⟩ : RowP (Value.int IntKind.u8 (45) :: tail) 1 cap1 ∧ zc (Value.int IntKind.u8 (45) :: tail) 1 = [45] := row_new [45] ht
        have hl1 := zc_length h1
        generalize Value.int IntKind.u8 (45) :: tail = od' at *
        have e : wrC f cr s.size m2 ld fl r c (List.headD (List.drop us.toNat (bz nu)) 0) i at0 = 45 := by
         simp only [wrC, q0, q1, m, m1, m3, n, q2, cond_true, cond_false]
        have eT : wrT f cr s.size r i = false := by simp only [wrT, q0, q1, m, m1, m3, n, q2, cond_true, cond_false, Bool.not_true, Bool.not_false, Bool.true_and, Bool.false_and, Bool.true_or, Bool.or_true, Bool.false_or, Bool.and_false, Bool.and_true]
        rw [e, eT, cond_false] at hf
        refine c_t (by rw [hr.good, h1.good]; rfl) ?_
        rw [hr.rlb, h1.rlb]
        exact ⟨(m2, r6, r7, .own od' (1) cap1, k2, cap2, L, i + 1, s, nb, w, dg, sc, sg, k, cap, dr, f, cr, fl, fm, nu, m2, us, at0 + 1, ld, d), rfl, rfl, by simp only [S64_0, Bool.and_eq_true, decide_eq_true_eq]; exact ⟨rowOK_iff.2 h1, hR, hO, hD, trivial, by simp only [Rw.z, hl1]; omega⟩, by simp only; omega, ⟨fun q => (by cases q), fun us' at' i' od'' om'' oc'' g1 g2 => hf.2 us' at' i' od'' om'' oc'' g1 (by rw [g2]; simp only [Rw.z, h2, List.append_assoc, List.cons_append, List.nil_append])⟩⟩
       ·intro cap1 tail ht
        obtain ⟨h1, h2⟩ : RowP (Value.int IntKind.u8 (43) :: tail) 1 cap1 ∧ zc (Value.int IntKind.u8 (43) :: tail) 1 = [43] := row_new [43] ht
        have hl1 := zc_length h1
        generalize Value.int IntKind.u8 (43) :: tail = od' at *
        have e : wrC f cr s.size m2 ld fl r c (List.headD (List.drop us.toNat (bz nu)) 0) i at0 = 43 := by
         simp only [wrC, q0, q1, m, m1, m3, n, q2, cond_true, cond_false]
         rw [q3]
         rfl
        have eT : wrT f cr s.size r i = false := by simp only [wrT, q0, q1, m, m1, m3, n, q2, cond_true, cond_false, Bool.not_true, Bool.not_false, Bool.true_and, Bool.false_and, Bool.true_or, Bool.or_true, Bool.false_or, Bool.and_false, Bool.and_true]
        rw [e, eT, cond_false] at hf
        refine c_t (by rw [hr.good, h1.good]; rfl) ?_
        rw [hr.rlb, h1.rlb]
        exact ⟨(m2, r6, r7, .own od' (1) cap1, k2, cap2, L, i + 1, s, nb, w, dg, sc, sg, k, cap, dr, f, cr, fl, fm, nu, m2, us, at0 + 1, ld, d), rfl, rfl, by simp only [S64_0, Bool.and_eq_true, decide_eq_true_eq]; exact ⟨rowOK_iff.2 h1, hR, hO, hD, trivial, by simp only [Rw.z, hl1]; omega⟩, by simp only; omega, ⟨fun q => (by cases q), fun us' at' i' od'' om'' oc'' g1 g2 => hf.2 us' at' i' od'' om'' oc'' g1 (by rw [g2]; simp only [Rw.z, h2, List.append_assoc, List.cons_append, List.nil_append])⟩⟩
       ·intro cap1 tail ht
        obtain ⟨h1, h2⟩ : RowP (Value.int IntKind.u8 (32) :: tail) 1 cap1 ∧ zc (Value.int IntKind.u8 (32) :: tail) 1 = [32] := row_new [32] ht
        have hl1 := zc_length h1
        generalize Value.int IntKind.u8 (32) :: tail = od' at *
        have e : wrC f cr s.size m2 ld fl r c (List.headD (List.drop us.toNat (bz nu)) 0) i at0 = 32 := by
         simp only [wrC, q0, q1, m, m1, m3, n, q2, cond_true, cond_false]
         rw [q3, q4]
         rfl
        have eT : wrT f cr s.size r i = false := by simp only [wrT, q0, q1, m, m1, m3, n, q2, cond_true, cond_false, Bool.not_true, Bool.not_false, Bool.true_and, Bool.false_and, Bool.true_or, Bool.or_true, Bool.false_or, Bool.and_false, Bool.and_true]
        rw [e, eT, cond_false] at hf
        refine c_t (by rw [hr.good, h1.good]; rfl) ?_
        rw [hr.rlb, h1.rlb]
        exact ⟨(m2, r6, r7, .own od' (1) cap1, k2, cap2, L, i + 1, s, nb, w, dg, sc, sg, k, cap, dr, f, cr, fl, fm, nu, m2, us, at0 + 1, ld, d), rfl, rfl, by simp only [S64_0, Bool.and_eq_true, decide_eq_true_eq]; exact ⟨rowOK_iff.2 h1, hR, hO, hD, trivial, by simp only [Rw.z, hl1]; omega⟩, by simp only; omega, ⟨fun q => (by cases q), fun us' at' i' od'' om'' oc'' g1 g2 => hf.2 us' at' i' od'' om'' oc'' g1 (by rw [g2]; simp only [Rw.z, h2, List.append_assoc, List.cons_append, List.nil_append])⟩⟩
       ·intro cap1 tail ht
        obtain ⟨h1, h2⟩ : RowP (Value.int IntKind.u8 (c) :: tail) 1 cap1 ∧ zc (Value.int IntKind.u8 (c) :: tail) 1 = [c] := row_new [c] ht
        have hl1 := zc_length h1
        generalize Value.int IntKind.u8 (c) :: tail = od' at *
        have e : wrC f cr s.size m2 ld fl r c (List.headD (List.drop us.toNat (bz nu)) 0) i at0 = c := by
         simp only [wrC, q0, q1, m, m1, m3, n, q2, cond_true, cond_false]
         rw [q3, q4]
         rfl
        have eT : wrT f cr s.size r i = false := by simp only [wrT, q0, q1, m, m1, m3, n, q2, cond_true, cond_false, Bool.not_true, Bool.not_false, Bool.true_and, Bool.false_and, Bool.true_or, Bool.or_true, Bool.false_or, Bool.and_false, Bool.and_true]
        rw [e, eT, cond_false] at hf
        refine c_t (by rw [hr.good, h1.good]; rfl) ?_
        rw [hr.rlb, h1.rlb]
        exact ⟨(m2, r6, r7, .own od' (1) cap1, k2, cap2, L, i + 1, s, nb, w, dg, sc, sg, k, cap, dr, f, cr, fl, fm, nu, m2, us, at0 + 1, ld, d), rfl, rfl, by simp only [S64_0, Bool.and_eq_true, decide_eq_true_eq]; exact ⟨rowOK_iff.2 h1, hR, hO, hD, trivial, by simp only [Rw.z, hl1]; omega⟩, by simp only; omega, ⟨fun q => (by cases q), fun us' at' i' od'' om'' oc'' g1 g2 => hf.2 us' at' i' od'' om'' oc'' g1 (by rw [g2]; simp only [Rw.z, h2, List.append_assoc, List.cons_append, List.nil_append])⟩⟩
      ·have k0 := of_decide_eq_false m
       have k1 := of_decide_eq_false m1
       have k3 := of_decide_eq_false m3
       have k4 := of_decide_eq_false m4
       have k2' : r ≠ 2 := fun e => by rw [e] at q; cases q
       refine c_t (decide_eq_true (by omega)) ?_
       intro cap1 tail ht
       obtain ⟨h1, h2⟩ : RowP (Value.int IntKind.u8 (c) :: tail) 1 cap1 ∧ zc (Value.int IntKind.u8 (c) :: tail) 1 = [c] := row_new [c] ht
       have hl1 := zc_length h1
       generalize Value.int IntKind.u8 (c) :: tail = od' at *
       have e : wrC f cr s.size m2 ld fl r c (List.headD (List.drop us.toNat (bz nu)) 0) i at0 = c := by
        simp only [wrC, q0, q1, m, m1, m3, m4, cond_true, cond_false]
       have eT : wrT f cr s.size r i = false := by simp only [wrT, q0, q1, m, m1, m3, m4, cond_true, cond_false, Bool.not_true, Bool.not_false, Bool.true_and, Bool.false_and, Bool.true_or, Bool.or_true, Bool.false_or, Bool.and_false, Bool.and_true]
       rw [e, eT, cond_false] at hf
       refine c_t (by rw [hr.good, h1.good]; rfl) ?_
       rw [hr.rlb, h1.rlb]
       exact ⟨(m2, r6, r7, .own od' (1) cap1, k2, cap2, L, i + 1, s, nb, w, dg, sc, sg, k, cap, dr, f, cr, fl, fm, nu, m2, us, at0 + 1, ld, d), rfl, rfl, by simp only [S64_0, Bool.and_eq_true, decide_eq_true_eq]; exact ⟨rowOK_iff.2 h1, hR, hO, hD, trivial, by simp only [Rw.z, hl1]; omega⟩, by simp only; omega, ⟨fun q => (by cases q), fun us' at' i' od'' om'' oc'' g1 g2 => hf.2 us' at' i' od'' om'' oc'' g1 (by rw [g2]; simp only [Rw.z, h2, List.append_assoc, List.cons_append, List.nil_append])⟩⟩
   ·have h := of_decide_eq_false h
    rw [hr.end (by omega), wrGo] at hf
    refine c_t (by rw [hr.good]; rfl) ?_
    rw [hr.rlb]
    exact hf.1 rfl rfl us at0 i
  | own od om oc =>
   rw [r64_0o]
   simp only [Bool.and_eq_true, decide_eq_true_eq] at hp
   obtain ⟨ho, hR, hO, hD, rfl, hp⟩ := hp
   have hr := rowIOK_iff.1 hR
   have ho := rowOK_iff.1 ho
   have hzl := zc_length ho
   simp only [Rw.z, hzl] at hp hf
   have e0 : 0 + i.toNat * 1 = i.toNat := by omega
   rw [e0]
   refine cond_intro (fun h => ?_) (fun h => ?_)
   ·have h := of_decide_eq_true h
    obtain ⟨a1, a3⟩ := hr.at hp.1 (by omega)
    have hro := roOK_at hO a3
    rw [a3, wrGo, bz_at hp.1 (by omega), List.headD_cons, List.tail_cons] at hf
    rw [a3] at hp
    have hc1 := @cdg_c (intAt d i.toNat) ((zc d k2).drop (i + 1).toNat)
    have hc2 := cdg_nn ((zc d k2).drop (i + 1).toNat)
    rw [a1, w64 (n := i + 1) (by omega), w64 (n := at0 + 1) (by omega), w64 (n := (s.size : Int) - 2) (by omega)]
    have eu : IntKind.wrap .i64 (IntKind.wrap .i64 (us + 1) - 1) = us := by rw [w64 (n := us + 1) (by omega), w64 (by omega)]; omega
    rw [eu]
    generalize intAt d i.toNat = r at *
    generalize byteAt s i.toNat = c at *
    have er : ((0 + r.toNat * 1 : Nat) : Int) = r := by omega
    rw [er]
    refine c_t (decide_eq_true (by omega)) (c_t rfl (c_t (decide_eq_true (by omega)) (cond_intro (fun q => ?_) (fun q => ?_))))
    ·rw [q, cond_true] at hf
     refine c_t (by rw [hr.good, ho.good]; rfl) ?_
     rw [hr.rlb, ho.rlb]
     exact ⟨(m2, r6, r7, .own od om oc, k2, cap2, L, i + 1, s, nb, w, dg, sc, sg, k, cap, dr, f, cr, fl, fm, nu, m2, us, at0, ld, d), rfl, rfl, by simp only [S64_0, Bool.and_eq_true, decide_eq_true_eq]; exact ⟨rowOK_iff.2 ho, hR, hO, hD, trivial, by simp only [Rw.z, hzl]; omega⟩, by simp only; omega, hf⟩
    ·rw [q, cond_false] at hf
     refine cond_intro (fun q0 => ?_) (fun q0 => c_t (by simp) (cond_intro (fun q1 => cond_intro (fun q2 => ?_) (fun q2 => ?_)) (fun q1 => c_t (decide_eq_true hro) ?_)))
     ·refine c_t (ho.ask (k := 1) (by omega)) (fun cap1 tail ht => ?_)
      obtain ⟨h1, h2⟩ := ho.app1 (fl) ht
      have hl1 := zc_length h1
      generalize List.take (om * 1) od ++ [Value.int IntKind.u8 (fl)] ++ tail = od' at *
      have e : wrC f cr s.size m2 ld fl r c (List.headD (List.drop us.toNat (bz nu)) 0) i at0 = fl := by
       simp only [wrC, q0, cond_true, cond_false]
      have eT : wrT f cr s.size r i = false := by simp only [wrT, q0, cond_true, cond_false, Bool.not_true, Bool.not_false, Bool.true_and, Bool.false_and, Bool.true_or, Bool.or_true, Bool.false_or, Bool.and_false, Bool.and_true]
      rw [e, eT, cond_false] at hf
      refine c_t (by rw [hr.good, h1.good]; rfl) ?_
      rw [hr.rlb, h1.rlb]
      exact ⟨(m2, r6, r7, .own od' (om + 1) cap1, k2, cap2, L, i + 1, s, nb, w, dg, sc, sg, k, cap, dr, f, cr, fl, fm, nu, m2, us, at0 + 1, ld, d), rfl, rfl, by simp only [S64_0, Bool.and_eq_true, decide_eq_true_eq]; exact ⟨rowOK_iff.2 h1, hR, hO, hD, trivial, by simp only [Rw.z, hl1]; omega⟩, by simp only; omega, ⟨fun q => (by cases q), fun us' at' i' od'' om'' oc'' g1 g2 => hf.2 us' at' i' od'' om'' oc'' g1 (by rw [g2]; simp only [Rw.z, h2, List.append_assoc, List.cons_append, List.nil_append])⟩⟩
     ·refine c_t (ho.ask (k := 1) (by omega)) (fun cap1 tail ht => ?_)
      obtain ⟨h1, h2⟩ := ho.app1 (32) ht
      have hl1 := zc_length h1
      generalize List.take (om * 1) od ++ [Value.int IntKind.u8 (32)] ++ tail = od' at *
      have e : wrC f cr s.size m2 ld fl r c (List.headD (List.drop us.toNat (bz nu)) 0) i at0 = 32 := by
       simp only [wrC, q0, q1, q2, cond_true, cond_false]
      have eT : wrT f cr s.size r i = false := by simp only [wrT, q0, q1, q2, cond_true, cond_false, Bool.not_true, Bool.not_false, Bool.true_and, Bool.false_and, Bool.true_or, Bool.or_true, Bool.false_or, Bool.and_false, Bool.and_true]
      rw [e, eT, cond_false] at hf
      refine c_t (by rw [hr.good, h1.good]; rfl) ?_
      rw [hr.rlb, h1.rlb]
      exact ⟨(m2, r6, r7, .own od' (om + 1) cap1, k2, cap2, L, i + 1, s, nb, w, dg, sc, sg, k, cap, dr, f, cr, fl, fm, nu, m2, us, at0 + 1, ld, d), rfl, rfl, by simp only [S64_0, Bool.and_eq_true, decide_eq_true_eq]; exact ⟨rowOK_iff.2 h1, hR, hO, hD, trivial, by simp only [Rw.z, hl1]; omega⟩, by simp only; omega, ⟨fun q => (by cases q), fun us' at' i' od'' om'' oc'' g1 g2 => hf.2 us' at' i' od'' om'' oc'' g1 (by rw [g2]; simp only [Rw.z, h2, List.append_assoc, List.cons_append, List.nil_append])⟩⟩
     ·refine c_t (ho.ask (k := 1) (by omega)) (fun cap1 tail ht => ?_)
      obtain ⟨h1, h2⟩ := ho.app1 (c) ht
      have hl1 := zc_length h1
      generalize List.take (om * 1) od ++ [Value.int IntKind.u8 (c)] ++ tail = od' at *
      have e : wrC f cr s.size m2 ld fl r c (List.headD (List.drop us.toNat (bz nu)) 0) i at0 = c := by
       simp only [wrC, q0, q1, q2, cond_true, cond_false]
      have eT : wrT f cr s.size r i = false := by simp only [wrT, q0, q1, q2, cond_true, cond_false, Bool.not_true, Bool.not_false, Bool.true_and, Bool.false_and, Bool.true_or, Bool.or_true, Bool.false_or, Bool.and_false, Bool.and_true]
      rw [e, eT, cond_false] at hf
      refine c_t (by rw [hr.good, h1.good]; rfl) ?_
      rw [hr.rlb, h1.rlb]
      exact ⟨(m2, r6, r7, .own od' (om + 1) cap1, k2, cap2, L, i + 1, s, nb, w, dg, sc, sg, k, cap, dr, f, cr, fl, fm, nu, m2, us, at0 + 1, ld, d), rfl, rfl, by simp only [S64_0, Bool.and_eq_true, decide_eq_true_eq]; exact ⟨rowOK_iff.2 h1, hR, hO, hD, trivial, by simp only [Rw.z, hl1]; omega⟩, by simp only; omega, ⟨fun q => (by cases q), fun us' at' i' od'' om'' oc'' g1 g2 => hf.2 us' at' i' od'' om'' oc'' g1 (by rw [g2]; simp only [Rw.z, h2, List.append_assoc, List.cons_append, List.nil_append])⟩⟩
     ·refine cond_intro (fun n => ?_) (fun m => cond_intro (fun n => ?_) (fun m1 => cond_intro (fun n => ?_) (fun m2' => cond_intro (fun n => ?_) (fun m3 => cond_intro (fun n => ?_) (fun m4 => ?_)))))
      ·have n0 := of_decide_eq_true n
       have hc3 := @cdg_1 r ((zc d k2).drop (i + 1).toNat) (by omega)
       have hd := dgb_at hD hp.2.2.2.2.2.2.1 (by omega)
       have ed := bz_at hp.2.2.2.2.2.2.1 (s := nu) (by omega)
       have ed' : List.headD (List.drop us.toNat (bz nu)) 0 = byteAt nu us.toNat := by rw [ed]; rfl
       rw [w8 (n := byteAt nu us.toNat - 48) (by omega), w64 (n := byteAt nu us.toNat - 48) (by omega)]
       generalize byteAt nu us.toNat = dd at *
       refine c_t (decide_eq_true (by omega)) (c_t (by simp) (cond_intro (fun q2 => ?_) (fun q2 => c_t (by cases c == 84 <;> cases c == 73 <;> simp) (cond_intro (fun q3 => ?_) (fun q3 => ?_)))))
       ·refine c_t (ho.ask (k := 1) (by omega)) (fun cap1 tail ht => ?_)
        obtain ⟨h1, h2⟩ := ho.app1 (32) ht
        have hl1 := zc_length h1
        generalize List.take (om * 1) od ++ [Value.int IntKind.u8 (32)] ++ tail = od' at *
        have e : wrC f cr s.size m2 ld fl r c (List.headD (List.drop us.toNat (bz nu)) 0) i at0 = 32 := by
         simp only [wrC, q0, q1, n, ed', cond_true, cond_false]
         exact fm_a q2
        have eT : wrT f cr s.size r i = true := by simp only [wrT, q0, q1, n, ed', cond_true, cond_false, Bool.not_true, Bool.not_false, Bool.true_and, Bool.false_and, Bool.true_or, Bool.or_true, Bool.false_or, Bool.and_false, Bool.and_true]
        rw [e, eT, cond_true, ed, List.tail_cons] at hf
        rw [w64 (n := us + 1) (by omega)]
        refine c_t (by rw [hr.good, h1.good]; rfl) ?_
        rw [hr.rlb, h1.rlb]
        exact ⟨(m2, r6, r7, .own od' (om + 1) cap1, k2, cap2, L, i + 1, s, nb, w, dg, sc, sg, k, cap, dr, f, cr, fl, fm, nu, m2, us + 1, at0 + 1, ld, d), rfl, rfl, by simp only [S64_0, Bool.and_eq_true, decide_eq_true_eq]; exact ⟨rowOK_iff.2 h1, hR, hO, hD, trivial, by simp only [Rw.z, hl1]; omega⟩, by simp only; omega, ⟨fun q => (by cases q), fun us' at' i' od'' om'' oc'' g1 g2 => hf.2 us' at' i' od'' om'' oc'' g1 (by rw [g2]; simp only [Rw.z, h2, List.append_assoc, List.cons_append, List.nil_append])⟩⟩
       ·refine c_t (ho.ask (k := 1) (by omega)) (fun cap1 tail ht => ?_)
        obtain ⟨h1, h2⟩ := ho.app1 (puZ (dd - 48) m2) ht
        have hl1 := zc_length h1
        generalize List.take (om * 1) od ++ [Value.int IntKind.u8 (puZ (dd - 48) m2)] ++ tail = od' at *
        have e : wrC f cr s.size m2 ld fl r c (List.headD (List.drop us.toNat (bz nu)) 0) i at0 = puZ (dd - 48) m2 := by
         simp only [wrC, q0, q1, n, ed', cond_true, cond_false]
         exact fm_b q2 q3
        have eT : wrT f cr s.size r i = true := by simp only [wrT, q0, q1, n, ed', cond_true, cond_false, Bool.not_true, Bool.not_false, Bool.true_and, Bool.false_and, Bool.true_or, Bool.or_true, Bool.false_or, Bool.and_false, Bool.and_true]
        rw [e, eT, cond_true, ed, List.tail_cons] at hf
        rw [w64 (n := us + 1) (by omega)]
        refine c_t (by rw [hr.good, h1.good]; rfl) ?_
        rw [hr.rlb, h1.rlb]
        exact ⟨(m2, r6, r7, .own od' (om + 1) cap1, k2, cap2, L, i + 1, s, nb, w, dg, sc, sg, k, cap, dr, f, cr, fl, fm, nu, m2, us + 1, at0 + 1, ld, d), rfl, rfl, by simp only [S64_0, Bool.and_eq_true, decide_eq_true_eq]; exact ⟨rowOK_iff.2 h1, hR, hO, hD, trivial, by simp only [Rw.z, hl1]; omega⟩, by simp only; omega, ⟨fun q => (by cases q), fun us' at' i' od'' om'' oc'' g1 g2 => hf.2 us' at' i' od'' om'' oc'' g1 (by rw [g2]; simp only [Rw.z, h2, List.append_assoc, List.cons_append, List.nil_append])⟩⟩
       ·refine c_t (ho.ask (k := 1) (by omega)) (fun cap1 tail ht => ?_)
        obtain ⟨h1, h2⟩ := ho.app1 (dd) ht
        have hl1 := zc_length h1
        generalize List.take (om * 1) od ++ [Value.int IntKind.u8 (dd)] ++ tail = od' at *
        have e : wrC f cr s.size m2 ld fl r c (List.headD (List.drop us.toNat (bz nu)) 0) i at0 = dd := by
         simp only [wrC, q0, q1, n, ed', cond_true, cond_false]
         exact fm_c q2 q3
        have eT : wrT f cr s.size r i = true := by simp only [wrT, q0, q1, n, ed', cond_true, cond_false, Bool.not_true, Bool.not_false, Bool.true_and, Bool.false_and, Bool.true_or, Bool.or_true, Bool.false_or, Bool.and_false, Bool.and_true]
        rw [e, eT, cond_true, ed, List.tail_cons] at hf
        rw [w64 (n := us + 1) (by omega)]
        refine c_t (by rw [hr.good, h1.good]; rfl) ?_
        rw [hr.rlb, h1.rlb]
        exact ⟨(m2, r6, r7, .own od' (om + 1) cap1, k2, cap2, L, i + 1, s, nb, w, dg, sc, sg, k, cap, dr, f, cr, fl, fm, nu, m2, us + 1, at0 + 1, ld, d), rfl, rfl, by simp only [S64_0, Bool.and_eq_true, decide_eq_true_eq]; exact ⟨rowOK_iff.2 h1, hR, hO, hD, trivial, by simp only [Rw.z, hl1]; omega⟩, by simp only; omega, ⟨fun q => (by cases q), fun us' at' i' od'' om'' oc'' g1 g2 => hf.2 us' at' i' od'' om'' oc'' g1 (by rw [g2]; simp only [Rw.z, h2, List.append_assoc, List.cons_append, List.nil_append])⟩⟩
      ·have n0 := of_decide_eq_true n
       have hc3 := @cdg_1 r ((zc d k2).drop (i + 1).toNat) (by omega)
       have hd := dgb_at hD hp.2.2.2.2.2.2.1 (by omega)
       have ed := bz_at hp.2.2.2.2.2.2.1 (s := nu) (by omega)
       have ed' : List.headD (List.drop us.toNat (bz nu)) 0 = byteAt nu us.toNat := by rw [ed]; rfl
       generalize byteAt nu us.toNat = dd at *
       refine c_t (decide_eq_true (by omega)) (cond_intro (fun q2 => ?_) (fun q2 => ?_))
       ·refine c_t (ho.ask (k := 1) (by omega)) (fun cap1 tail ht => ?_)
        obtain ⟨h1, h2⟩ := ho.app1 (fl) ht
        have hl1 := zc_length h1
        generalize List.take (om * 1) od ++ [Value.int IntKind.u8 (fl)] ++ tail = od' at *
        have e : wrC f cr s.size m2 ld fl r c (List.headD (List.drop us.toNat (bz nu)) 0) i at0 = fl := by
         simp only [wrC, q0, q1, m, n, q2, ed', cond_true, cond_false]
        have eT : wrT f cr s.size r i = true := by simp only [wrT, q0, q1, m, n, q2, ed', cond_true, cond_false, Bool.not_true, Bool.not_false, Bool.true_and, Bool.false_and, Bool.true_or, Bool.or_true, Bool.false_or, Bool.and_false, Bool.and_true]
        rw [e, eT, cond_true, ed, List.tail_cons] at hf
        rw [w64 (n := us + 1) (by omega)]
        refine c_t (by rw [hr.good, h1.good]; rfl) ?_
        rw [hr.rlb, h1.rlb]
        exact ⟨(m2, r6, r7, .own od' (om + 1) cap1, k2, cap2, L, i + 1, s, nb, w, dg, sc, sg, k, cap, dr, f, cr, fl, fm, nu, m2, us + 1, at0 + 1, ld, d), rfl, rfl, by simp only [S64_0, Bool.and_eq_true, decide_eq_true_eq]; exact ⟨rowOK_iff.2 h1, hR, hO, hD, trivial, by simp only [Rw.z, hl1]; omega⟩, by simp only; omega, ⟨fun q => (by cases q), fun us' at' i' od'' om'' oc'' g1 g2 => hf.2 us' at' i' od'' om'' oc'' g1 (by rw [g2]; simp only [Rw.z, h2, List.append_assoc, List.cons_append, List.nil_append])⟩⟩
       ·refine c_t (ho.ask (k := 1) (by omega)) (fun cap1 tail ht => ?_)
        obtain ⟨h1, h2⟩ := ho.app1 (dd) ht
        have hl1 := zc_length h1
        generalize List.take (om * 1) od ++ [Value.int IntKind.u8 (dd)] ++ tail = od' at *
        have e : wrC f cr s.size m2 ld fl r c (List.headD (List.drop us.toNat (bz nu)) 0) i at0 = dd := by
         simp only [wrC, q0, q1, m, n, q2, ed', cond_true, cond_false]
        have eT : wrT f cr s.size r i = true := by simp only [wrT, q0, q1, m, n, q2, ed', cond_true, cond_false, Bool.not_true, Bool.not_false, Bool.true_and, Bool.false_and, Bool.true_or, Bool.or_true, Bool.false_or, Bool.and_false, Bool.and_true]
        rw [e, eT, cond_true, ed, List.tail_cons] at hf
        rw [w64 (n := us + 1) (by omega)]
        refine c_t (by rw [hr.good, h1.good]; rfl) ?_
        rw [hr.rlb, h1.rlb]
        exact ⟨(m2, r6, r7, .own od' (om + 1) cap1, k2, cap2, L, i + 1, s, nb, w, dg, sc, sg, k, cap, dr, f, cr, fl, fm, nu, m2, us + 1, at0 + 1, ld, d), rfl, rfl, by simp only [S64_0, Bool.and_eq_true, decide_eq_true_eq]; exact ⟨rowOK_iff.2 h1, hR, hO, hD, trivial, by simp only [Rw.z, hl1]; omega⟩, by simp only; omega, ⟨fun q => (by cases q), fun us' at' i' od'' om'' oc'' g1 g2 => hf.2 us' at' i' od'' om'' oc'' g1 (by rw [g2]; simp only [Rw.z, h2, List.append_assoc, List.cons_append, List.nil_append])⟩⟩
      ·have n := of_decide_eq_true n
       rw [n] at q
       cases q
      ·refine cond_intro (fun q2 => ?_) (fun q2 => cond_intro (fun q3 => ?_) (fun q3 => ?_))
       ·refine c_t (ho.ask (k := 1) (by omega)) (fun cap1 tail ht => ?_)
        obtain ⟨h1, h2⟩ := ho.app1 (32) ht
        have hl1 := zc_length h1
        generalize List.take (om * 1) od ++ [Value.int IntKind.u8 (32)] ++ tail = od' at *
        have e : wrC f cr s.size m2 ld fl r c (List.headD (List.drop us.toNat (bz nu)) 0) i at0 = 32 := by
         simp only [wrC, q0, q1, m, m1, n, q2, cond_true, cond_false]
        have eT : wrT f cr s.size r i = false := by simp only [wrT, q0, q1, m, m1, n, q2, cond_true, cond_false, Bool.not_true, Bool.not_false, Bool.true_and, Bool.false_and, Bool.true_or, Bool.or_true, Bool.false_or, Bool.and_false, Bool.and_true]
        rw [e, eT, cond_false] at hf
        refine c_t (by rw [hr.good, h1.good]; rfl) ?_
        rw [hr.rlb, h1.rlb]
        exact ⟨(m2, r6, r7, .own od' (om + 1) cap1, k2, cap2, L, i + 1, s, nb, w, dg, sc, sg, k, cap, dr, f, cr, fl, fm, nu, m2, us, at0 + 1, ld, d), rfl, rfl, by simp only [S64_0, Bool.and_eq_true, decide_eq_true_eq]; exact ⟨rowOK_iff.2 h1, hR, hO, hD, trivial, by simp only [Rw.z, hl1]; omega⟩, by simp only; omega, ⟨fun q => (by cases q), fun us' at' i' od'' om'' oc'' g1 g2 => hf.2 us' at' i' od'' om'' oc'' g1 (by rw [g2]; simp only [Rw.z, h2, List.append_assoc, List.cons_append, List.nil_append])⟩⟩
       ·refine c_t (ho.ask (k := 1) (by omega)) (fun cap1 tail ht => ?_)
        obtain ⟨h1, h2⟩ := ho.app1 (fl) ht
        have hl1 := zc_length h1
        generalize List.take (om * 1) od ++ [Value.int IntKind.u8 (fl)] ++ tail = od' at *
        have e : wrC f cr s.size m2 ld fl r c (List.headD (List.drop us.toNat (bz nu)) 0) i at0 = fl := by
         simp only [wrC, q0, q1, m, m1, n, q2, q3, cond_true, cond_false]
        have eT : wrT f cr s.size r i = false := by simp only [wrT, q0, q1, m, m1, n, q2, q3, cond_true, cond_false, Bool.not_true, Bool.not_false, Bool.true_and, Bool.false_and, Bool.true_or, Bool.or_true, Bool.false_or, Bool.and_false, Bool.and_true]
        rw [e, eT, cond_false] at hf
        refine c_t (by rw [hr.good, h1.good]; rfl) ?_
        rw [hr.rlb, h1.rlb]
        exact ⟨(m2, r6, r7, .own od' (om + 1) cap1, k2, cap2, L, i + 1, s, nb, w, dg, sc, sg, k, cap, dr, f, cr, fl, fm, nu, m2, us, at0 + 1, ld, d), rfl, rfl, by simp only [S64_0, Bool.and_eq_true, decide_eq_true_eq]; exact ⟨rowOK_iff.2 h1, hR, hO, hD, trivial, by simp only [Rw.z, hl1]; omega⟩, by simp only; omega, ⟨fun q => (by cases q), fun us' at' i' od'' om'' oc'' g1 g2 => hf.2 us' at' i' od'' om'' oc'' g1 (by rw [g2]; simp only [Rw.z, h2, List.append_assoc, List.cons_append, List.nil_append])⟩⟩
       ·refine c_t (ho.ask (k := 1) (by omega)) (fun cap1 tail ht => ?_)
        obtain ⟨h1, h2⟩ := ho.app1 (c) ht
        have hl1 := zc_length h1
        generalize List.take (om * 1) od ++ [Value.int IntKind.u8 (c)] ++ tail = od' at *
        have e : wrC f cr s.size m2 ld fl r c (List.headD (List.drop us.toNat (bz nu)) 0) i at0 = c := by
         simp only [wrC, q0, q1, m, m1, n, q2, q3, cond_true, cond_false]
        have eT : wrT f cr s.size r i = false := by simp only [wrT, q0, q1, m, m1, n, q2, q3, cond_true, cond_false, Bool.not_true, Bool.not_false, Bool.true_and, Bool.false_and, Bool.true_or, Bool.or_true, Bool.false_or, Bool.and_false, Bool.and_true]
        rw [e, eT, cond_false] at hf
        refine c_t (by rw [hr.good, h1.good]; rfl) ?_
        rw [hr.rlb, h1.rlb]
        exact ⟨(m2, r6, r7, .own od' (om + 1) cap1, k2, cap2, L, i + 1, s, nb, w, dg, sc, sg, k, cap, dr, f, cr, fl, fm, nu, m2, us, at0 + 1, ld, d), rfl, rfl, by simp only [S64_0, Bool.and_eq_true, decide_eq_true_eq]; exact ⟨rowOK_iff.2 h1, hR, hO, hD, trivial, by simp only [Rw.z, hl1]; omega⟩, by simp only; omega, ⟨fun q => (by cases q), fun us' at' i' od'' om'' oc'' g1 g2 => hf.2 us' at' i' od'' om'' oc'' g1 (by rw [g2]; simp only [Rw.z, h2, List.append_assoc, List.cons_append, List.nil_append])⟩⟩
      ·refine c_t (by simp) (cond_intro (fun q2 => ?_) (fun q2 => cond_intro (fun q3 => ?_) (fun q3 => cond_intro (fun q4 => ?_) (fun q4 => ?_))))
       ·refine c_t (ho.ask (k := 1) (by omega)) (fun cap1 tail ht => ?_)
        obtain ⟨h1, h2⟩ := ho.app1 (45) ht
        have hl1 := zc_length h1
        generalize List.take (om * 1) od ++ [Value.int IntKind.u8 (45)] ++ tail = od' at *
        have e : wrC f cr s.size m2 ld fl r c (List.headD (List.drop us.toNat (bz nu)) 0) i at0 = 45 := by
         simp only [wrC, q0, q1, m, m1, m3, n, q2, cond_true, cond_false]
        have eT : wrT f cr s.size r i = false := by simp only [wrT, q0, q1, m, m1, m3, n, q2, cond_true, cond_false, Bool.not_true, Bool.not_false, Bool.true_and, Bool.false_and, Bool.true_or, Bool.or_true, Bool.false_or, Bool.and_false, Bool.and_true]
        rw [e, eT, cond_false] at hf
        refine c_t (by rw [hr.good, h1.good]; rfl) ?_
        rw [hr.rlb, h1.rlb]
        exact ⟨(m2, r6, r7, .own od' (om + 1) cap1, k2, cap2, L, i + 1, s, nb, w, dg, sc, sg, k, cap, dr, f, cr, fl, fm, nu, m2, us, at0 + 1, ld, d), rfl, rfl, by simp only [S64_0, Bool.and_eq_true, decide_eq_true_eq]; exact ⟨rowOK_iff.2 h1, hR, hO, hD, trivial, by simp only [Rw.z, hl1]; omega⟩, by simp only; omega, ⟨fun q => (by cases q), fun us' at' i' od'' om'' oc'' g1 g2 => hf.2 us' at' i' od'' om'' oc'' g1 (by rw [g2]; simp only [Rw.z, h2, List.append_assoc, List.cons_append, List.nil_append])⟩⟩
       ·refine c_t (ho.ask (k := 1) (by omega)) (fun cap1 tail ht => ?_)
        obtain ⟨h1, h2⟩ := ho.app1 (43) ht
        have hl1 := zc_length h1
        generalize List.take (om * 1) od ++ [Value.int IntKind.u8 (43)] ++ tail = od' at *
        have e : wrC f cr s.size m2 ld fl r c (List.headD (List.drop us.toNat (bz nu)) 0) i at0 = 43 := by
         simp only [wrC, q0, q1, m, m1, m3, n, q2, cond_true, cond_false]
         rw [q3]
         rfl
        have eT : wrT f cr s.size r i = false := by simp only [wrT, q0, q1, m, m1, m3, n, q2, cond_true, cond_false, Bool.not_true, Bool.not_false, Bool.true_and, Bool.false_and, Bool.true_or, Bool.or_true, Bool.false_or, Bool.and_false, Bool.and_true]
        rw [e, eT, cond_false] at hf
        refine c_t (by rw [hr.good, h1.good]; rfl) ?_
        rw [hr.rlb, h1.rlb]
        exact ⟨(m2, r6, r7, .own od' (om + 1) cap1, k2, cap2, L, i + 1, s, nb, w, dg, sc, sg, k, cap, dr, f, cr, fl, fm, nu, m2, us, at0 + 1, ld, d), rfl, rfl, by simp only [S64_0, Bool.and_eq_true, decide_eq_true_eq]; exact ⟨rowOK_iff.2 h1, hR, hO, hD, trivial, by simp only [Rw.z, hl1]; omega⟩, by simp only; omega, ⟨fun q => (by cases q), fun us' at' i' od'' om'' oc'' g1 g2 => hf.2 us' at' i' od'' om'' oc'' g1 (by rw [g2]; simp only [Rw.z, h2, List.append_assoc, List.cons_append, List.nil_append])⟩⟩
       ·refine c_t (ho.ask (k := 1) (by omega)) (fun cap1 tail ht => ?_)
        obtain ⟨h1, h2⟩ := ho.app1 (32) ht
        have hl1 := zc_length h1
        generalize List.take (om * 1) od ++ [Value.int IntKind.u8 (32)] ++ tail = od' at *
        have e : wrC f cr s.size m2 ld fl r c (List.headD (List.drop us.toNat (bz nu)) 0) i at0 = 32 := by
         simp only [wrC, q0, q1, m, m1, m3, n, q2, cond_true, cond_false]
         rw [q3, q4]
         rfl
        have eT : wrT f cr s.size r i = false := by simp only [wrT, q0, q1, m, m1, m3, n, q2, cond_true, cond_false, Bool.not_true, Bool.not_false, Bool.true_and, Bool.false_and, Bool.true_or, Bool.or_true, Bool.false_or, Bool.and_false, Bool.and_true]
        rw [e, eT, cond_false] at hf
        refine c_t (by rw [hr.good, h1.good]; rfl) ?_
        rw [hr.rlb, h1.rlb]
        exact ⟨(m2, r6, r7, .own od' (om + 1) cap1, k2, cap2, L, i + 1, s, nb, w, dg, sc, sg, k, cap, dr, f, cr, fl, fm, nu, m2, us, at0 + 1, ld, d), rfl, rfl, by simp only [S64_0, Bool.and_eq_true, decide_eq_true_eq]; exact ⟨rowOK_iff.2 h1, hR, hO, hD, trivial, by simp only [Rw.z, hl1]; omega⟩, by simp only; omega, ⟨fun q => (by cases q), fun us' at' i' od'' om'' oc'' g1 g2 => hf.2 us' at' i' od'' om'' oc'' g1 (by rw [g2]; simp only [Rw.z, h2, List.append_assoc, List.cons_append, List.nil_append])⟩⟩
       ·refine c_t (ho.ask (k := 1) (by omega)) (fun cap1 tail ht => ?_)
        obtain ⟨h1, h2⟩ := ho.app1 (c) ht
        have hl1 := zc_length h1
        generalize List.take (om * 1) od ++ [Value.int IntKind.u8 (c)] ++ tail = od' at *
        have e : wrC f cr s.size m2 ld fl r c (List.headD (List.drop us.toNat (bz nu)) 0) i at0 = c := by
         simp only [wrC, q0, q1, m, m1, m3, n, q2, cond_true, cond_false]
         rw [q3, q4]
         rfl
        have eT : wrT f cr s.size r i = false := by simp only [wrT, q0, q1, m, m1, m3, n, q2, cond_true, cond_false, Bool.not_true, Bool.not_false, Bool.true_and, Bool.false_and, Bool.true_or, Bool.or_true, Bool.false_or, Bool.and_false, Bool.and_true]
        rw [e, eT, cond_false] at hf
        refine c_t (by rw [hr.good, h1.good]; rfl) ?_
        rw [hr.rlb, h1.rlb]
        exact ⟨(m2, r6, r7, .own od' (om + 1) cap1, k2, cap2, L, i + 1, s, nb, w, dg, sc, sg, k, cap, dr, f, cr, fl, fm, nu, m2, us, at0 + 1, ld, d), rfl, rfl, by simp only [S64_0, Bool.and_eq_true, decide_eq_true_eq]; exact ⟨rowOK_iff.2 h1, hR, hO, hD, trivial, by simp only [Rw.z, hl1]; omega⟩, by simp only; omega, ⟨fun q => (by cases q), fun us' at' i' od'' om'' oc'' g1 g2 => hf.2 us' at' i' od'' om'' oc'' g1 (by rw [g2]; simp only [Rw.z, h2, List.append_assoc, List.cons_append, List.nil_append])⟩⟩
      ·have k0 := of_decide_eq_false m
       have k1 := of_decide_eq_false m1
       have k3 := of_decide_eq_false m3
       have k4 := of_decide_eq_false m4
       have k2' : r ≠ 2 := fun e => by rw [e] at q; cases q
       refine c_t (decide_eq_true (by omega)) ?_
       refine c_t (ho.ask (k := 1) (by omega)) (fun cap1 tail ht => ?_)
       obtain ⟨h1, h2⟩ := ho.app1 (c) ht
       have hl1 := zc_length h1
       generalize List.take (om * 1) od ++ [Value.int IntKind.u8 (c)] ++ tail = od' at *
       have e : wrC f cr s.size m2 ld fl r c (List.headD (List.drop us.toNat (bz nu)) 0) i at0 = c := by
        simp only [wrC, q0, q1, m, m1, m3, m4, cond_true, cond_false]
       have eT : wrT f cr s.size r i = false := by simp only [wrT, q0, q1, m, m1, m3, m4, cond_true, cond_false, Bool.not_true, Bool.not_false, Bool.true_and, Bool.false_and, Bool.true_or, Bool.or_true, Bool.false_or, Bool.and_false, Bool.and_true]
       rw [e, eT, cond_false] at hf
       refine c_t (by rw [hr.good, h1.good]; rfl) ?_
       rw [hr.rlb, h1.rlb]
       exact ⟨(m2, r6, r7, .own od' (om + 1) cap1, k2, cap2, L, i + 1, s, nb, w, dg, sc, sg, k, cap, dr, f, cr, fl, fm, nu, m2, us, at0 + 1, ld, d), rfl, rfl, by simp only [S64_0, Bool.and_eq_true, decide_eq_true_eq]; exact ⟨rowOK_iff.2 h1, hR, hO, hD, trivial, by simp only [Rw.z, hl1]; omega⟩, by simp only; omega, ⟨fun q => (by cases q), fun us' at' i' od'' om'' oc'' g1 g2 => hf.2 us' at' i' od'' om'' oc'' g1 (by rw [g2]; simp only [Rw.z, h2, List.append_assoc, List.cons_append, List.nil_append])⟩⟩
   ·have h := of_decide_eq_false h
    rw [hr.end (by omega), wrGo] at hf
    refine c_t (by rw [hr.good, ho.good]; rfl) ?_
    rw [hr.rlb, ho.rlb]
    exact hf.2 us at0 i od om oc (rowOK_iff.2 ho) (by simp)
end Go.Px
end
