/-
  The run and the laws that serve these rows (part 3)
-/
import Derived.Test.YtpflidodnhbeoaaGreatDoorD2
set_option linter.unusedVariables false
set_option linter.unusedSimpArgs false
noncomputable section
set_option maxHeartbeats 3200000
namespace Go.Cx
open Go Go.Ab Go.Proofs Go.Shelf Go.Px Go.Cv
open Go.Fx (Ty Vl check Valid most base pw bnd Fit fits tv vv tup V0 T0 pw_zero pw_succ wrap_mul pw_w64 str0)
def G5 : Env := (((G4.add 79 (sp1 s79)).add 80 (sp3 s80)).add 157 (sp1 s157))
theorem ok_G5 : EnvOK Tryz.prog G5 := env_add (env_add (env_add (ok_G4) ok79) ok80) ok157
def tkGo (b : Int) : List Int → Int → Int → Int × Int
 | [], x, k => (x, k)
 | d :: r, x, k => if b ≤ 10 * x + (d - 48) then tkGo b r ((10 * x + (d - 48)).tmod b) 1 else tkGo b r (10 * x + (d - 48)) k
def isNum (g : Bool) (l : List Int) (c : Int) : Bool := if l = [] then !g && decide (c = 0) else decide (l.length ≤ 400) && (digsZ l && (!(l.head? == some 48) && (!(l.getLast? == some 48) && decide (-400 ≤ c ∧ c ≤ 400))))
def tkR (g : Bool) (l : List Int) (c : Int) (b q : Int) : Int × Int := (if g = true then -(tkGo b (plcR l c q) 0 0).1 else (tkGo b (plcR l c q) 0 0).1, (tkGo b (plcR l c q) 0 0).2)
def tkV (g : Bool) (l : List Int) (c : Int) (t : Ty) : Int × Int × Int := if isNum g l c = false then (0, 0, 1) else if ¬ Valid t then (0, 0, 5) else ((tkR g l c (bnd t) t.q).1, (tkR g l c (bnd t) t.q).2, 0)
abbrev vlv (n : Int) : Value := .agg ⟨[.int .i64 n, .string ⟨#[]⟩]⟩
def hideI (sp : Ab.Spec) : List Value → Lk → Nat → (Value → Lk → Nat → Prop) → Prop := fun args m n K => match sp args (args.map (blkOf m)) with
 | some (c, .int k e) => match cnd c with
  | true => ∀ x : Int, e = x → K (.int k x) m n
  | false => False
 | _ => False
def hideS (sp : Ab.Spec) : List Value → Lk → Nat → (Value → Lk → Nat → Prop) → Prop := fun args m n K => match sp args (args.map (blkOf m)) with
 | some (c, .string e) => match cnd c with
  | true => ∀ s' : ByteArray, e = s' → K (.string s') m n
  | false => False
 | _ => False
theorem gen_hideS {P : Program} {f : FuncId} {sp : Ab.Spec} (h : PureOK P f sp) : GenOK P f (hideS sp) := by
 obtain ⟨hc, hp⟩ := h
 refine ⟨hc, fun args m n K hh N w0 ι w hrel hwf hargs => ?_⟩
 unfold hideS at hh
 split at hh
 case h_2 => exact hh.elim
 rename_i c e hs
 split at hh
 case h_2 => exact hh.elim
 rename_i hcc
 have hcc : c = true := hcc
 subst hcc
 refine (hp args (.string e) N w0 m ι w hrel hs rfl).mono fun e' w' ⟨h1, h2⟩ => ?_
 exact ⟨.string e, m, n, ι, by rw [h1]; rfl, hh e rfl, Nat.le_refl _, fun _ _ => rfl, hrel.grow h2, hwf, by simp [ids]⟩
theorem gen_hideI {P : Program} {f : FuncId} {sp : Ab.Spec} (h : PureOK P f sp) : GenOK P f (hideI sp) := by
 obtain ⟨hc, hp⟩ := h
 refine ⟨hc, fun args m n K hh N w0 ι w hrel hwf hargs => ?_⟩
 unfold hideI at hh
 split at hh
 case h_2 => exact hh.elim
 rename_i c k e hs
 split at hh
 case h_2 => exact hh.elim
 rename_i hcc
 have hcc : c = true := hcc
 subst hcc
 refine (hp args (.int k e) N w0 m ι w hrel hs rfl).mono fun e' w' ⟨h1, h2⟩ => ?_
 exact ⟨.int k e, m, n, ι, by rw [h1]; rfl, hh e rfl, Nat.le_refl _, fun _ _ => rfl, hrel.grow h2, hwf, by simp [ids]⟩
def G5h : Env := G5.addG 156 (hideI (sp2 s156))
theorem ok_G5h : EnvOK Tryz.prog G5h := env_addG ok_G5 (gen_hideI ok156)
theorem ahead_take (c : Int) : ∀ l : List Int, l.take (Cv.ahead c l).length = Cv.ahead c l
 | [] => rfl
 | a :: l => by
  by_cases h : a = c
  ·have : Cv.ahead c (a :: l) = [] := by simp [Cv.ahead, h]
   rw [this]; rfl
  ·rw [ahead_cons l h, List.length_cons, List.take_succ_cons, ahead_take c l]
theorem past_drop (c : Int) : ∀ l : List Int, past c l = if (Cv.ahead c l).length < l.length then some (l.drop ((Cv.ahead c l).length + 1)) else none
 | [] => rfl
 | a :: l => by
  by_cases h : a = c
  ·have e : Cv.ahead c (a :: l) = [] := by simp [Cv.ahead, h]
   rw [e]
   simp [past, h]
  ·have e : past c (a :: l) = past c l := by simp [past, h]
   rw [e, past_drop c l, ahead_cons l h]
   simp
theorem ahead_le (c : Int) (l : List Int) : (Cv.ahead c l).length ≤ l.length := (List.takeWhile_sublist _).length_le
def decB (g : Bool) (x : List Int) (e : Int) : Option Num := if Cv.ahead 46 x ++ (past 46 x).getD [] ≠ [] ∧ digsZ (Cv.ahead 46 x) = true ∧ digsZ ((past 46 x).getD []) = true then some (normZ g (Cv.ahead 46 x ++ (past 46 x).getD []) (((past 46 x).getD []).length - e)) else none
def decE (l : List Int) : Option Int := match past 69 l with
 | none => some 0
 | some x => expZ x
theorem decR_eq (g : Bool) (l : List Int) : decR normZ g l = (decE l).bind (decB g (Cv.ahead 69 l)) := by
 unfold decR decE
 cases past 69 l with
 | none => rfl
 | some x => cases hx : expZ x <;> (simp only [hx]; rfl)
def s83 (g : Bool) (s : ByteArray) : Bool × Value := (decide (s.size ≤ 1000), onV (decR normZ g (bz s)))
theorem fn83 : Fn1 Tryz.prog 83 Tryz.f83 := ⟨Tryz.func83, by kernel_rfl, by kernel_rfl, by kernel_rfl⟩
theorem onV_none : onV none = Value.tuple ⟨[.agg ⟨[.bool false, .string ⟨#[]⟩, .int .i64 0]⟩, .bool false]⟩ := by
 show Value.tuple ⟨[.agg ⟨[.bool false, .string (szO []), .int .i64 0]⟩, .bool false]⟩ = _
 rw [szO_nil]
def k83 (g : Bool) (s1 : ByteArray) (e : Int) (R : Value → Prop) : Prop :=
 bif decide (ByteArray.size s1 ≤ 9223372036854775807) then ∀ (x_1 : Int), (↑(List.length (Cv.ahead 46 (bz s1))) : Int) = x_1 → bif decide ((0 : Int) ≤ 0 ∧ 0 ≤ x_1 ∧ x_1 ≤ (↑(ByteArray.size s1) : Int)) then bif decide (x_1 < (↑(ByteArray.size s1) : Int)) then bif decide (0 ≤ IntKind.wrap IntKind.i64 (x_1 + 1) ∧ IntKind.wrap IntKind.i64 (x_1 + 1) ≤ (↑(ByteArray.size s1) : Int) ∧ (↑(ByteArray.size s1) : Int) ≤ (↑(ByteArray.size s1) : Int)) then bif strFit (ByteArray.size (ByteArray.extract s1 0 (Int.toNat x_1)) + ByteArray.size (ByteArray.extract s1 (Int.toNat (IntKind.wrap IntKind.i64 (x_1 + 1))) (ByteArray.size s1))) && (ByteArray.toList (ByteArray.extract s1 0 (Int.toNat x_1) ++ ByteArray.extract s1 (Int.toNat (IntKind.wrap IntKind.i64 (x_1 + 1))) (ByteArray.size s1)) == ByteArray.toList (ByteArray.mk #[]) || decide (ByteArray.size (ByteArray.extract s1 0 (Int.toNat x_1)) ≤ 9223372036854775807) && (!digsZ (bz (ByteArray.extract s1 0 (Int.toNat x_1))) || decide (ByteArray.size (ByteArray.extract s1 (Int.toNat (IntKind.wrap IntKind.i64 (x_1 + 1))) (ByteArray.size s1)) ≤ 9223372036854775807) && true)) then bif ByteArray.toList (ByteArray.extract s1 0 (Int.toNat x_1) ++ ByteArray.extract s1 (Int.toNat (IntKind.wrap IntKind.i64 (x_1 + 1))) (ByteArray.size s1)) == ByteArray.toList (ByteArray.mk #[]) || (!digsZ (bz (ByteArray.extract s1 0 (Int.toNat x_1))) || !digsZ (bz (ByteArray.extract s1 (Int.toNat (IntKind.wrap IntKind.i64 (x_1 + 1))) (ByteArray.size s1)))) then R (Value.tuple (Array.mk [Value.agg (Array.mk [Value.bool false, Value.string (ByteArray.mk #[]), Value.int IntKind.i64 0]), Value.bool false])) else bif strFit (ByteArray.size (ByteArray.extract s1 0 (Int.toNat x_1)) + ByteArray.size (ByteArray.extract s1 (Int.toNat (IntKind.wrap IntKind.i64 (x_1 + 1))) (ByteArray.size s1))) then bif decide (ByteArray.size (ByteArray.extract s1 0 (Int.toNat x_1) ++ ByteArray.extract s1 (Int.toNat (IntKind.wrap IntKind.i64 (x_1 + 1))) (ByteArray.size s1)) ≤ 1000 ∧ -100000 ≤ IntKind.wrap IntKind.i64 ((↑(ByteArray.size (ByteArray.extract s1 (Int.toNat (IntKind.wrap IntKind.i64 (x_1 + 1))) (ByteArray.size s1))) : Int) - e) ∧ IntKind.wrap IntKind.i64 ((↑(ByteArray.size (ByteArray.extract s1 (Int.toNat (IntKind.wrap IntKind.i64 (x_1 + 1))) (ByteArray.size s1))) : Int) - e) ≤ 100000) then R (Value.tuple (Array.mk [Value.agg (Array.mk [Value.bool (Prod.fst (normZ g (bz (ByteArray.extract s1 0 (Int.toNat x_1) ++ ByteArray.extract s1 (Int.toNat (IntKind.wrap IntKind.i64 (x_1 + 1))) (ByteArray.size s1))) (IntKind.wrap IntKind.i64 ((↑(ByteArray.size (ByteArray.extract s1 (Int.toNat (IntKind.wrap IntKind.i64 (x_1 + 1))) (ByteArray.size s1))) : Int) - e)))), Value.string (szO (Prod.fst (Prod.snd (normZ g (bz (ByteArray.extract s1 0 (Int.toNat x_1) ++ ByteArray.extract s1 (Int.toNat (IntKind.wrap IntKind.i64 (x_1 + 1))) (ByteArray.size s1))) (IntKind.wrap IntKind.i64 ((↑(ByteArray.size (ByteArray.extract s1 (Int.toNat (IntKind.wrap IntKind.i64 (x_1 + 1))) (ByteArray.size s1))) : Int) - e)))))), Value.int IntKind.i64 (Prod.snd (Prod.snd (normZ g (bz (ByteArray.extract s1 0 (Int.toNat x_1) ++ ByteArray.extract s1 (Int.toNat (IntKind.wrap IntKind.i64 (x_1 + 1))) (ByteArray.size s1))) (IntKind.wrap IntKind.i64 ((↑(ByteArray.size (ByteArray.extract s1 (Int.toNat (IntKind.wrap IntKind.i64 (x_1 + 1))) (ByteArray.size s1))) : Int) - e)))))]), Value.bool true])) else False else False else False else False else bif strFit (ByteArray.size (ByteArray.extract s1 0 (Int.toNat x_1)) + ByteArray.size (ByteArray.mk #[])) && (ByteArray.toList (ByteArray.extract s1 0 (Int.toNat x_1) ++ ByteArray.mk #[]) == ByteArray.toList (ByteArray.mk #[]) || decide (ByteArray.size (ByteArray.extract s1 0 (Int.toNat x_1)) ≤ 9223372036854775807) && (!digsZ (bz (ByteArray.extract s1 0 (Int.toNat x_1))) || true)) then bif ByteArray.toList (ByteArray.extract s1 0 (Int.toNat x_1) ++ ByteArray.mk #[]) == ByteArray.toList (ByteArray.mk #[]) || (!digsZ (bz (ByteArray.extract s1 0 (Int.toNat x_1))) || !digsZ (bz (ByteArray.mk #[]))) then R (Value.tuple (Array.mk [Value.agg (Array.mk [Value.bool false, Value.string (ByteArray.mk #[]), Value.int IntKind.i64 0]), Value.bool false])) else bif strFit (ByteArray.size (ByteArray.extract s1 0 (Int.toNat x_1)) + ByteArray.size (ByteArray.mk #[])) then bif decide (ByteArray.size (ByteArray.extract s1 0 (Int.toNat x_1) ++ ByteArray.mk #[]) ≤ 1000 ∧ -100000 ≤ IntKind.wrap IntKind.i64 (0 - e) ∧ IntKind.wrap IntKind.i64 (0 - e) ≤ 100000) then R (Value.tuple (Array.mk [Value.agg (Array.mk [Value.bool (Prod.fst (normZ g (bz (ByteArray.extract s1 0 (Int.toNat x_1) ++ ByteArray.mk #[])) (IntKind.wrap IntKind.i64 (0 - e)))), Value.string (szO (Prod.fst (Prod.snd (normZ g (bz (ByteArray.extract s1 0 (Int.toNat x_1) ++ ByteArray.mk #[])) (IntKind.wrap IntKind.i64 (0 - e)))))), Value.int IntKind.i64 (Prod.snd (Prod.snd (normZ g (bz (ByteArray.extract s1 0 (Int.toNat x_1) ++ ByteArray.mk #[])) (IntKind.wrap IntKind.i64 (0 - e)))))]), Value.bool true])) else False else False else False else False else False
theorem expZ_rng {s : ByteArray} {e : Int} (h : expZ (bz s) = some e) : -99 ≤ e ∧ e ≤ 99 := by
 rcases Nat.eq_zero_or_pos s.size with q | q
 ·rw [bz_nil q] at h; cases h
 ·rw [bz_head q, expZ_head, ← bz_head q] at h
  split at h
  ·cases hd : expD (bz (s.extract 1 s.size)) with
   | none => rw [hd] at h; cases h
   | some x =>
    rw [hd] at h
    have := exp_some hd
    have h : -x = e := Option.some.inj h
    omega
  ·split at h
   ·have := exp_some h; omega
   ·have := exp_some h; omega
theorem bz_dropE {s : ByteArray} (n : Nat) : bz (s.extract n s.size) = (bz s).drop n := by
 rw [bz_extract]
 rw [List.take_of_length_le (by rw [bz_length]; omega)]
theorem q83 (g : Bool) (w p : ByteArray) (e : Int) (hs : w.size + p.size ≤ 1000) (he : -99 ≤ e ∧ e ≤ 99) (X : Option Num) (hX : X = if bz w ++ bz p ≠ [] ∧ digsZ (bz w) = true ∧ digsZ (bz p) = true then some (normZ g (bz w ++ bz p) ((bz p).length - e)) else none) :
  bif ByteArray.toList (w ++ p) == ByteArray.toList (ByteArray.mk #[]) || (!digsZ (bz w) || !digsZ (bz p)) then (Value.tuple ⟨[.agg ⟨[.bool false, .string ⟨#[]⟩, .int .i64 0]⟩, .bool false]⟩ = onV X)
  else bif strFit (w.size + p.size) then
   bif decide ((w ++ p).size ≤ 1000 ∧ -100000 ≤ IntKind.wrap .i64 ((p.size : Int) - e) ∧ IntKind.wrap .i64 ((p.size : Int) - e) ≤ 100000) then (Value.tuple ⟨[numV (normZ g (bz (w ++ p)) (IntKind.wrap .i64 ((p.size : Int) - e))), .bool true]⟩ = onV X)
   else False
  else False := by
 rw [w64 (n := (p.size : Int) - e) (by omega), empty_iff, bz_append]
 refine cond_intro (fun h => ?_) (fun h => ?_)
 ·rw [hX, if_neg, onV_none]
  rintro ⟨h1, h2, h3⟩
  rw [h2, h3, decide_eq_false h1] at h
  cases h
 ·simp only [Bool.or_eq_false_iff, decide_eq_false_iff_not, Bool.not_eq_false'] at h
  refine c_t (by simp only [strFit, Nat.ble_eq]; omega) (c_t (decide_eq_true ⟨by rw [ByteArray.size_append]; omega, by omega, by omega⟩) ?_)
  rw [hX, if_pos ⟨h.1, h.2.1, h.2.2⟩, bz_length]
  rfl
theorem k83_ok (g : Bool) (s1 : ByteArray) (e : Int) (hs : s1.size ≤ 1000) (he : -99 ≤ e ∧ e ≤ 99) : k83 g s1 e (fun v => v = onV (decB g (bz s1) e)) := by
 unfold k83
 refine c_t (decide_eq_true (by omega)) fun j hj => ?_
 have hl := ahead_le 46 (bz s1)
 rw [bz_length] at hl
 have e3 : bz (s1.extract 0 j.toNat) = Cv.ahead 46 (bz s1) := by rw [bz_take, show j.toNat = (Cv.ahead 46 (bz s1)).length by omega, ahead_take]
 have z3 : (s1.extract 0 j.toNat).size = j.toNat := by rw [ex_size]; omega
 refine c_t (decide_eq_true (by omega)) (cond_intro (fun h => ?_) (fun h => ?_))
 ·have h := of_decide_eq_true h
  rw [w64 (n := j + 1) (by omega)]
  have e4 : bz (s1.extract (j + 1).toNat s1.size) = (past 46 (bz s1)).getD [] := by
   rw [bz_dropE, past_drop, if_pos (by rw [bz_length]; omega), show (j + 1).toNat = (Cv.ahead 46 (bz s1)).length + 1 by omega]
   rfl
  have z4 : (s1.extract (j + 1).toNat s1.size).size = s1.size - (j + 1).toNat := by rw [ex_size]; omega
  generalize s1.extract 0 j.toNat = w at *
  generalize s1.extract (j + 1).toNat s1.size = p at *
  refine c_t (decide_eq_true (by omega)) (c_t (by
   rw [decide_eq_true (show w.size ≤ 9223372036854775807 by omega), decide_eq_true (show p.size ≤ 9223372036854775807 by omega), show strFit (w.size + p.size) = true by simp only [strFit, Nat.ble_eq]; omega]
   simp) (q83 g w p e (by omega) he _ ?_))
  rw [decB, e3, e4]
 ·have h := of_decide_eq_false h
  have e4 : (past 46 (bz s1)).getD [] = bz ⟨#[]⟩ := by
   rw [past_drop, if_neg (by rw [bz_length]; omega)]; rfl
  generalize s1.extract 0 j.toNat = w at *
  refine c_t (by
   rw [decide_eq_true (show w.size ≤ 9223372036854775807 by omega), show strFit (w.size + (⟨#[]⟩ : ByteArray).size) = true by simp only [strFit, Nat.ble_eq]; show w.size + 0 ≤ _; omega]
   simp) (q83 g w ⟨#[]⟩ e (by show w.size + 0 ≤ _; omega) he _ ?_)
  rw [decB, e3, e4]
theorem v83 (g : Bool) (s : ByteArray) (R : Value → Prop) : bodyQ Tryz.prog G5h noL Tryz.f83 [Enc.enc g, Enc.enc s] (fun _ => none) 0 (fun v _ _ => R v) = ( bif decide (ByteArray.size s ≤ 9223372036854775807) then ∀ (x : Int), (↑(List.length (Cv.ahead 69 (bz s))) : Int) = x → bif decide (x < (↑(ByteArray.size s) : Int)) then bif decide (0 ≤ IntKind.wrap .i64 (x + 1) ∧ IntKind.wrap .i64 (x + 1) ≤ (↑(ByteArray.size s) : Int) ∧ (↑(ByteArray.size s) : Int) ≤ (↑(ByteArray.size s) : Int)) then bif decide (ByteArray.size (ByteArray.extract s (Int.toNat (IntKind.wrap .i64 (x + 1))) (ByteArray.size s)) ≤ 9223372036854775807) then bif !Option.isSome (expZ (bz (ByteArray.extract s (Int.toNat (IntKind.wrap .i64 (x + 1))) (ByteArray.size s)))) then R (.tuple (.mk [.agg (.mk [B false, S (ByteArray.mk #[]), I 0]), B false])) else bif decide ((0 : Int) ≤ 0 ∧ 0 ≤ x ∧ x ≤ (↑(ByteArray.size s) : Int)) then k83 g (ByteArray.extract s 0 (Int.toNat x)) (Option.getD (expZ (bz (ByteArray.extract s (Int.toNat (IntKind.wrap .i64 (x + 1))) (ByteArray.size s)))) 0) R else False else False else False else bif decide ((0 : Int) ≤ 0 ∧ 0 ≤ x ∧ x ≤ (↑(ByteArray.size s) : Int)) then k83 g (ByteArray.extract s 0 (Int.toNat x)) 0 R else False else False) := by kernel_rfl
theorem ok83 : PureOK Tryz.prog 83 (sp2 s83) := by
 refine qure2 ok_G5h hmix fn83 lokf_none (Nat.le_of_ble_eq_true (by kernel_rfl)) fun g s hc => ?_
 rw [DoesQ, v83]
 have hc : (s.size ≤ 1000) := of_decide_eq_true hc
 try dsimp only [s83]
 refine c_t (decide_eq_true (by omega)) fun k hk => ?_
 have hkl := ahead_le 69 (bz s)
 rw [bz_length] at hkl
 have e1 : bz (s.extract 0 k.toNat) = Cv.ahead 69 (bz s) := by rw [bz_take, show k.toNat = (Cv.ahead 69 (bz s)).length by omega, ahead_take]
 have z1 : (s.extract 0 k.toNat).size = k.toNat := by rw [ex_size]; omega
 rw [decR_eq, ← e1]
 generalize s.extract 0 k.toNat = s1 at *
 refine cond_intro (fun h => ?_) (fun h => ?_)
 ·have h := of_decide_eq_true h
  rw [w64 (n := k + 1) (by omega)]
  have hd : decE (bz s) = expZ (bz (s.extract (k + 1).toNat s.size)) := by
   rw [decE, past_drop, if_pos (by rw [bz_length]; omega), bz_dropE, show (k + 1).toNat = (Cv.ahead 69 (bz s)).length + 1 by omega]
  have z2 : (s.extract (k + 1).toNat s.size).size = s.size - (k + 1).toNat := by rw [ex_size]; omega
  generalize s.extract (k + 1).toNat s.size = s2 at *
  refine c_t (decide_eq_true (by omega)) (c_t (decide_eq_true (by omega)) ?_)
  rw [hd]
  cases hE : expZ (bz s2) with
  | none => exact c_t rfl onV_none.symm
  | some e => exact c_f rfl (c_t (decide_eq_true (by omega)) (k83_ok g s1 e (by omega) (expZ_rng hE)))
 ·have h := of_decide_eq_false h
  have hd : decE (bz s) = some 0 := by rw [decE, past_drop, if_neg (by rw [bz_length]; omega)]
  rw [hd]
  exact c_t (decide_eq_true (by omega)) (k83_ok g s1 0 (by omega) (by omega))
structure DecIs (g : Bool) (s : ByteArray) (x : Option Num) : Prop where
 h : decR normZ g (bz s) = x
def hid83 : List Value → Lk → Nat → (Value → Lk → Nat → Prop) → Prop := fun args m n K => match args with
 | [.bool g, .string s] => match cnd (decide (s.size ≤ 1000)) with
  | true => ∀ x : Option Num, DecIs g s x → K (onV x) m n
  | false => False
 | _ => False
theorem gen_hid83 : GenOK Tryz.prog 83 hid83 := by
 obtain ⟨hc, hp⟩ := ok83
 refine ⟨hc, fun args m n K hh N w0 ι w hrel hwf hargs => ?_⟩
 unfold hid83 at hh
 split at hh
 case h_2 => exact hh.elim
 rename_i g s
 split at hh
 case h_2 => exact hh.elim
 rename_i hcc
 have hs : (sp2 s83) [.bool g, .string s] ([Value.bool g, Value.string s].map (blkOf m)) = some (true, onV (decR normZ g (bz s))) := congrArg some (Prod.ext (show (s83 g s).1 = true from hcc) rfl)
 refine (hp [.bool g, .string s] _ N w0 m ι w hrel hs rfl).mono fun e' w' ⟨h1, h2⟩ => ?_
 exact ⟨_, m, n, ι, by rw [h1]; rfl, hh _ ⟨rfl⟩, Nat.le_refl _, fun _ _ => rfl, hrel.grow h2, hwf, by simp [ids, idsL]⟩
def G6 : Env := (((G5.addG 79 (hideS (sp1 s79))).addG 81 (hideS (sp2 s87))).add 82 (sp1 s82)).addG 83 hid83
theorem ok_G6 : EnvOK Tryz.prog G6 := env_addG (env_add (env_addG (env_addG ok_G5 (gen_hideS ok79)) (gen_hideS ok87)) ok82) gen_hid83
def s25 (s : ByteArray) : Bool × Value := (decide (s.size ≤ 9223372036854775807), onV (rdN (bz s)))
theorem fn25 : Fn1 Tryz.prog 25 Tryz.f25 := ⟨Tryz.func25, by kernel_rfl, by kernel_rfl, by kernel_rfl⟩
def k25 (g : Bool) (t : ByteArray) (R : Value → Prop) : Prop :=
 bif bif decide (IntKind.wrap IntKind.i64 ((↑(ByteArray.size t) : Int) - 1) ≥ 1) then decide (0 ≤ IntKind.wrap IntKind.i64 ((↑(ByteArray.size t) : Int) - 1) ∧ IntKind.wrap IntKind.i64 ((↑(ByteArray.size t) : Int) - 1) < (↑(ByteArray.size t) : Int)) && true else true then bif decide (IntKind.wrap IntKind.i64 ((↑(ByteArray.size t) : Int) - 1) ≥ 1) && byteAt t (Int.toNat (IntKind.wrap IntKind.i64 ((↑(ByteArray.size t) : Int) - 1))) == 66 then bif decide (IntKind.wrap IntKind.i64 ((↑(ByteArray.size t) : Int) - 1) > 31) || decide ((0 : Int) ≤ 0 ∧ 0 ≤ IntKind.wrap IntKind.i64 ((↑(ByteArray.size t) : Int) - 1) ∧ IntKind.wrap IntKind.i64 ((↑(ByteArray.size t) : Int) - 1) ≤ (↑(ByteArray.size t) : Int)) && (decide (ByteArray.size (ByteArray.extract t 0 (Int.toNat (IntKind.wrap IntKind.i64 ((↑(ByteArray.size t) : Int) - 1)))) ≤ 9223372036854775807) && true) then bif decide (IntKind.wrap IntKind.i64 ((↑(ByteArray.size t) : Int) - 1) > 31) || !bitsZ (bz (ByteArray.extract t 0 (Int.toNat (IntKind.wrap IntKind.i64 ((↑(ByteArray.size t) : Int) - 1))))) then R (Value.tuple (Array.mk [Value.agg (Array.mk [Value.bool false, Value.string (ByteArray.mk #[]), Value.int IntKind.i64 0]), Value.bool false])) else bif decide ((0 : Int) ≤ 0 ∧ 0 ≤ IntKind.wrap IntKind.i64 ((↑(ByteArray.size t) : Int) - 1) ∧ IntKind.wrap IntKind.i64 ((↑(ByteArray.size t) : Int) - 1) ≤ (↑(ByteArray.size t) : Int)) then bif bitsZ (bz (ByteArray.extract t 0 (Int.toNat (IntKind.wrap IntKind.i64 ((↑(ByteArray.size t) : Int) - 1))))) && decide (ByteArray.size (ByteArray.extract t 0 (Int.toNat (IntKind.wrap IntKind.i64 ((↑(ByteArray.size t) : Int) - 1)))) ≤ 64) then bif decide (0 ≤ binG (bz (ByteArray.extract t 0 (Int.toNat (IntKind.wrap IntKind.i64 ((↑(ByteArray.size t) : Int) - 1))))) 0 ∧ binG (bz (ByteArray.extract t 0 (Int.toNat (IntKind.wrap IntKind.i64 ((↑(ByteArray.size t) : Int) - 1))))) 0 < 18446744073709551616) && true then ∀ (u : ByteArray), sz (decZ (binG (bz (ByteArray.extract t 0 (Int.toNat (IntKind.wrap IntKind.i64 ((↑(ByteArray.size t) : Int) - 1))))) 0)) = u → bif decide (ByteArray.size u ≤ 1000 ∧ -100000 ≤ 0 ∧ (0 : Int) ≤ 100000) then R (Value.tuple (Array.mk [Value.agg (Array.mk [Value.bool (Prod.fst (normZ g (bz u) 0)), Value.string (szO (Prod.fst (Prod.snd (normZ g (bz u) 0)))), Value.int IntKind.i64 (Prod.snd (Prod.snd (normZ g (bz u) 0)))]), Value.bool true])) else False else False else False else False else False else bif decide (ByteArray.size t ≤ 1000) then ∀ (x : Option Num), DecIs g t x → R (Value.tuple (Array.mk [Value.agg (Array.mk [Value.bool (Prod.fst (Option.getD x num0)), Value.string (szO (Prod.fst (Prod.snd (Option.getD x num0)))), Value.int IntKind.i64 (Prod.snd (Prod.snd (Option.getD x num0)))]), Value.bool (Option.isSome x)])) else False else False
theorem u8_isB (l : List UInt8) : IsB (zl l) := fun c hc => by
 obtain ⟨b, _, rfl⟩ := List.mem_map.1 hc
 have := b.toNat_lt
 omega
theorem bin_31 {l : List Int} (hb : bitsZ l = true) (h : l.length ≤ 31) : 0 ≤ binG l 0 ∧ binG l 0 < 2147483648 := by
 obtain ⟨h1, h2⟩ := bin_lt l 0 hb (by omega)
 refine ⟨h1, Int.lt_of_lt_of_le h2 ?_⟩
 have : (2 : Nat) ^ l.length ≤ 2 ^ 31 := Nat.pow_le_pow_right (by omega) h
 have h' : ((2 ^ l.length : Nat) : Int) ≤ ((2 ^ 31 : Nat) : Int) := Int.ofNat_le.2 this
 simp at h'
 omega
theorem decD_len : ∀ (k n : Nat), n < 10 ^ (k + 1) → (Lib.decDigits n).length ≤ k + 1
 | 0, n, h => by rw [Lib.decDigits, dif_pos (by omega)]; simp
 | k + 1, n, h => by
  rw [Lib.decDigits]
  split
  ·simp
  ·rw [List.length_append]
   have := decD_len k (n / 10) (by rw [Nat.pow_succ] at h; omega)
   simp
   omega
theorem k25_ok (g : Bool) (t : ByteArray) (ht : t.size ≤ 255) : k25 g t (fun v => v = onV (bodR normZ binD g (bz t))) := by
 unfold k25
 rw [w64 (n := (t.size : Int) - 1) (by omega)]
 have hdec : bodR normZ binD g (bz t) = decR normZ g (bz t) → bif decide (t.size ≤ 1000) then ∀ (x : Option Num), DecIs g t x → (fun v => v = onV (bodR normZ binD g (bz t))) (onV x) else False := fun hB => by
  refine c_t (decide_eq_true (by omega)) fun x hx => ?_
  rw [hB, hx.h]
 by_cases h2 : 2 ≤ t.size
 ·have hb := bz_last (s := t) (n := (t.size : Int) - 1) (by omega) (by omega)
  generalize hn : ((t.size : Int) - 1).toNat = n at *
  have hl : (bz t).getLast? = some (byteAt t n) := by rw [hb]; simp
  have hd : (bz t).dropLast = bz (t.extract 0 n) := by
   have := congrArg List.dropLast hb
   simpa using this
  have hz : (t.extract 0 n).size = n := by rw [ex_size]; omega
  refine c_t (by rw [decide_eq_true (show (t.size : Int) - 1 ≥ 1 by omega)]; simp; omega) (cond_intro (fun h => ?_) (fun h => ?_))
  ·have h66 : byteAt t n = 66 := by simp at h; exact h.2
   have hB : bodR normZ binD g (bz t) = if t.size - 1 ≤ 31 ∧ bitsZ (bz (t.extract 0 n)) = true then some (normZ g (binD (bz (t.extract 0 n))) 0) else none := by
    rw [bodR, if_pos ⟨by rw [bz_length]; exact h2, by rw [hl, h66]⟩, hd, bz_length]
   generalize t.extract 0 n = u at *
   refine c_t (by
    rw [decide_eq_true (show (0 : Int) ≤ 0 ∧ 0 ≤ (t.size : Int) - 1 ∧ (t.size : Int) - 1 ≤ (t.size : Int) by omega), decide_eq_true (show u.size ≤ 9223372036854775807 by omega)]
    simp) (cond_intro (fun q => ?_) (fun q => ?_))
   ·rw [hB, if_neg, onV_none]
    rintro ⟨q1, q2⟩
    rw [q2] at q
    simp at q
    omega
   ·simp only [Bool.or_eq_false_iff, decide_eq_false_iff_not, Bool.not_eq_false'] at q
    obtain ⟨q1, q2⟩ := q
    have hr := bin_31 q2 (by rw [bz_length]; omega)
    have hsz : (sz (decZ (binG (bz u) 0))).size ≤ 10 := by
     rw [sz_size, decZ, zl, List.length_map]
     exact decD_len 9 _ (by omega)
    refine c_t (decide_eq_true (by omega)) (c_t (by rw [q2, decide_eq_true (show u.size ≤ 64 by omega)]; rfl) (c_t (by rw [decide_eq_true (show 0 ≤ binG (bz u) 0 ∧ binG (bz u) 0 < 18446744073709551616 by omega)]; rfl) fun v hv => ?_))
    subst hv
    refine c_t (decide_eq_true ⟨by omega, by omega, by omega⟩) ?_
    rw [bz_sz (l := decZ (binG (bz u) 0)) (u8_isB _), hB, if_pos ⟨by omega, q2⟩]
    rfl
  ·refine hdec ?_
   rw [bodR, if_neg]
   rintro ⟨_, q⟩
   rw [hl] at q
   have q := Option.some.inj q
   rw [q, decide_eq_true (show (t.size : Int) - 1 ≥ 1 by omega)] at h
   cases h
 ·have hf : decide ((t.size : Int) - 1 ≥ 1) = false := decide_eq_false (by omega)
  rw [hf]
  refine c_t rfl (c_f rfl (hdec ?_))
  rw [bodR, if_neg]
  rintro ⟨q, _⟩
  rw [bz_length] at q
  omega
theorem v25 (s : ByteArray) (R : Value → Prop) : bodyQ Tryz.prog G6 noL Tryz.f25 [Enc.enc s] (fun _ => none) 0 (fun v _ _ => R v) = ( bif decide ((↑(ByteArray.size s) : Int) > 255) then R (.tuple (.mk [.agg (.mk [B false, S (ByteArray.mk #[]), I 0]), B false])) else bif decide (ByteArray.size s ≤ 9223372036854775807) then ∀ (s' : ByteArray), szO (trZ (tlZ (bz s) 32) 32) = s' → bif ByteArray.toList s' == ByteArray.toList (ByteArray.mk #[]) then R (.tuple (.mk [.agg (.mk [B false, S (ByteArray.mk #[]), I 0]), B true])) else bif decide ((0 : Int) ≤ 0 ∧ 0 < (↑(ByteArray.size s') : Int)) then bif byteAt s' (Int.toNat 0) == 45 || decide ((0 : Int) ≤ 0 ∧ 0 < (↑(ByteArray.size s') : Int)) && true then bif byteAt s' (Int.toNat 0) == 45 || byteAt s' (Int.toNat 0) == 43 then bif decide ((0 : Int) ≤ 1 ∧ 1 ≤ (↑(ByteArray.size s') : Int) ∧ (↑(ByteArray.size s') : Int) ≤ (↑(ByteArray.size s') : Int)) then k25 (byteAt s' (Int.toNat 0) == 45) (ByteArray.extract s' (Int.toNat 1) (ByteArray.size s')) R else False else k25 (byteAt s' (Int.toNat 0) == 45) s' R else False else False else False) := by kernel_rfl
theorem ok25 : PureOK Tryz.prog 25 (sp1 s25) := by
 refine qure1 ok_G6 hmix fn25 lokf_none (Nat.le_of_ble_eq_true (by kernel_rfl)) fun s hc => ?_
 rw [DoesQ, v25]
 have hc : (s.size ≤ 9223372036854775807) := of_decide_eq_true hc
 try dsimp only [s25]
 refine cond_intro (fun h => ?_) (fun h => ?_)
 ·have h := of_decide_eq_true h
  rw [rdN, if_pos (by rw [bz_length]; omega), onV_none]
 have h := of_decide_eq_false h
 refine c_t (decide_eq_true hc) fun t et => ?_
 have hr : rdN (bz s) = sgnR normZ binD (bz t) := by
  rw [rdN, if_neg (by rw [bz_length]; omega), numR, ← et, trL_eq, trR_eq, bz_szO (isB_tr (isB_tl (bz_isB s) 32) 32)]
 have ht : t.size ≤ 255 := by
  rw [← et, szO_size]
  have := tr_len (tlZ (bz s) 32) 32
  have := tl_len (bz s) 32
  rw [bz_length] at this
  omega
 rw [hr, empty_iff]
 refine cond_intro (fun h0 => ?_) (fun h0 => ?_)
 ·have h0 := of_decide_eq_true h0
  rw [h0]
  show _ = Value.tuple ⟨[.agg ⟨[.bool false, .string (szO []), .int .i64 0]⟩, .bool true]⟩
  rw [szO_nil]
 have h0 : 0 < t.size := by
  have := of_decide_eq_false h0
  rcases Nat.eq_zero_or_pos t.size with q | q
  ·exact absurd (bz_nil q) this
  ·exact q
 have hh := bz_head h0
 have hz : Int.toNat 0 = 0 := rfl
 have hz1 : Int.toNat 1 = 1 := rfl
 rw [hz, hz1]
 refine c_t (decide_eq_true (by omega)) (c_t (by rw [decide_eq_true (show (0 : Int) ≤ 0 ∧ 0 < (t.size : Int) by omega)]; simp) (cond_intro (fun q => ?_) (fun q => ?_)))
 ·refine c_t (decide_eq_true (by omega)) ?_
  have e : sgnR normZ binD (bz t) = bodR normZ binD (byteAt t 0 == 45) (bz (t.extract 1 t.size)) := by
   rw [hh]
   simp only [Bool.or_eq_true, beq_iff_eq] at q
   rcases q with q | q <;> rw [q] <;> rfl
  rw [e]
  exact k25_ok _ _ (by rw [ex_size]; omega)
 ·have q2 : ¬ byteAt t 0 = 45 ∧ ¬ byteAt t 0 = 43 := by simpa using q
  have e : sgnR normZ binD (bz t) = bodR normZ binD (byteAt t 0 == 45) (bz t) := by
   rw [show (byteAt t 0 == 45) = false by simpa using q2.1]
   rw [hh]
   unfold sgnR
   split
   ·rename_i q3; cases q3
   ·rename_i q3; exact absurd (List.cons.inj q3).1 q2.1
   ·rename_i q3; exact absurd (List.cons.inj q3).1 q2.2
   ·rfl
  rw [e]
  exact k25_ok _ _ ht
end Go.Cx
end
noncomputable section
set_option maxHeartbeats 3200000
namespace Go.Cx
open Go Go.Ab Go.Proofs Go.Shelf Go.Px Go.Cv
open Go.Fx (Ty Vl check Valid most base pw bnd Fit fits tv vv tup V0 T0 pw_zero pw_succ wrap_mul pw_w64 str0)
theorem ends_of {s : ByteArray} (h : bz s ≠ []) : 0 < s.size ∧ (bz s).head? = some (byteAt s 0) ∧ (bz s).getLast? = some (byteAt s (s.size - 1)) := by
 have h0 : 0 < s.size := by
  rcases Nat.eq_zero_or_pos s.size with q | q
  ·exact absurd (bz_nil q) h
  ·exact q
 refine ⟨h0, by rw [bz_head h0]; rfl, ?_⟩
 have hb := bz_last (s := s) (n := ((s.size - 1 : Nat) : Int)) (by omega) (by omega)
 rw [Int.toNat_natCast] at hb
 rw [hb]
 simp
theorem num_bools (k : Nat) (b : Bool) (x y c : Int) : (decide ((k : Int) ≤ 400) && (b && (x != 48 && (y != 48 && (decide (c ≥ -400) && decide (c ≤ 400)))))) = (decide (k ≤ 400) && (b && (!(some x == some (48 : Int)) && (!(some y == some (48 : Int)) && decide (-400 ≤ c ∧ c ≤ 400))))) := by
 have e1 : decide ((k : Int) ≤ 400) = decide (k ≤ 400) := by rw [decide_eq_decide]; omega
 have e2 : (decide (c ≥ -400) && decide (c ≤ 400)) = decide (-400 ≤ c ∧ c ≤ 400) := by rw [Bool.eq_iff_iff]; simp
 rw [e1, e2]
 rfl
theorem trim_digs (l : List Int) : decide (trimZ l (bz ⟨#[48, 49, 50, 51, 52, 53, 54, 55, 56, 57]⟩) = []) = digsZ l := by
 have e : bz ⟨#[48, 49, 50, 51, 52, 53, 54, 55, 56, 57]⟩ = [48, 49, 50, 51, 52, 53, 54, 55, 56, 57] := rfl
 have hh : ∀ c : Int, hasZ [48, 49, 50, 51, 52, 53, 54, 55, 56, 57] c = dig c := fun c => by
  unfold dig
  rw [Bool.eq_iff_iff, hasZ_iff, decide_eq_true_eq]
  simp only [List.mem_cons, List.mem_nil_iff, or_false]
  omega
 rw [e, Bool.eq_iff_iff, decide_eq_true_eq]
 constructor
 ·intro h
  unfold digsZ
  refine List.all_eq_true.2 fun c hc => ?_
  cases q : dig c with
  | true => rfl
  | false =>
   exfalso
   rw [← hh] at q
   obtain ⟨d, r, h1, h2⟩ := dropW_head (List.mem_reverse.2 hc) q
   have hm : d ∈ (l.reverse.dropWhile (hasZ [48, 49, 50, 51, 52, 53, 54, 55, 56, 57])).reverse := by rw [h1]; simp
   obtain ⟨d', r', h3, _⟩ := dropW_head hm h2
   unfold trimZ at h
   rw [h3] at h
   cases h
 ·intro h
  have ha : ∀ c ∈ l, hasZ [48, 49, 50, 51, 52, 53, 54, 55, 56, 57] c = true := fun c hc => by rw [hh]; exact List.all_eq_true.1 h c hc
  unfold trimZ
  rw [dropW_all (l := l.reverse) fun c hc => ha c (List.mem_reverse.1 hc)]
  rfl
theorem isNum_facts {g : Bool} {l : List Int} {c : Int} (h : isNum g l c = true) : l.length ≤ 400 ∧ digsZ l = true ∧ l.head? ≠ some 48 ∧ (-400 ≤ c ∧ c ≤ 400) ∧ (l = [] → c = 0) := by
 unfold isNum at h
 split at h
 ·rename_i q
  subst q
  simp at h
  simp [h.2, digsZ]
 ·rename_i q
  simp only [Bool.and_eq_true, decide_eq_true_eq, Bool.not_eq_true', beq_eq_false_iff_ne] at h
  exact ⟨h.1, h.2.1, h.2.2.1, h.2.2.2.2, fun z => absurd z q⟩
theorem digs_isB {l : List Int} (h : digsZ l = true) : IsB l := fun c hc => by
 have := List.all_eq_true.1 h c hc
 unfold dig at this
 have := of_decide_eq_true this
 omega
theorem plc_digs {l : List Int} {c q : Int} (h : digsZ l = true) : digsZ (plcR l c q) = true := by
 refine List.all_eq_true.2 fun x hx => ?_
 have hx := List.mem_of_mem_take hx
 unfold plcZ at hx
 split at hx
 ·cases hx
 ·rcases List.mem_append.1 hx with hx | hx
  ·exact List.all_eq_true.1 h x hx
  ·rw [List.eq_of_mem_replicate hx]; rfl
theorem plc_len {l : List Int} {c q : Int} (h : l.length ≤ 400) (hc : -400 ≤ c ∧ c ≤ 400) (hq : 0 ≤ q ∧ q ≤ 100) : (plcR l c q).length ≤ 1500 := by
 rw [plcR, List.length_take]
 have : (plcZ l c q).length ≤ 1500 := by
  unfold plcZ
  split
  ·simp
  ·rw [List.length_append, rep48, List.length_replicate]; omega
 omega
theorem tm_rng {a b : Int} (h : 0 ≤ a) (hb : 0 < b) : 0 ≤ a.tmod b ∧ a.tmod b < b := by
 rw [Int.tmod_eq_emod_of_nonneg h]
 exact ⟨Int.emod_nonneg _ (by omega), Int.emod_lt_of_pos _ hb⟩
theorem tkGo_rng {b : Int} (hb : 0 < b) : ∀ (l : List Int) (x k : Int), digsZ l = true → (0 ≤ x ∧ x < b) → 0 ≤ (tkGo b l x k).1 ∧ (tkGo b l x k).1 < b
 | [], x, k, _, h => h
 | d :: r, x, k, hd, h => by
  simp only [digsZ, List.all_cons, Bool.and_eq_true] at hd
  have h1 := hd.1
  unfold dig at h1
  have h1 := of_decide_eq_true h1
  rw [tkGo]
  split
  ·exact tkGo_rng hb r _ _ hd.2 (tm_rng (by omega) hb)
  ·exact tkGo_rng hb r _ _ hd.2 (by omega)
theorem valid_facts {t : Ty} (h : Valid t) : 1 ≤ t.p ∧ t.p ≤ 31 ∧ (1 ≤ bnd t ∧ bnd t ≤ 2147483648) ∧ (0 ≤ t.q ∧ t.q ≤ 100) ∧ (t.k = 1 ∨ t.k = 2) := by
 have h1 := Fx.valid_r h
 have h2 := Fx.bnd_range h
 exact ⟨h1.1, h1.2.1, by omega, by omega, h.1⟩
def s58 (n : Nu) : Bool × Value := (decide (n.d.size ≤ 9223372036854775807), B (isNum n.g (bz n.d) n.c))
theorem fn58 : Fn1 Tryz.prog 58 Tryz.f58 := ⟨Tryz.func58, by kernel_rfl, by kernel_rfl, by kernel_rfl⟩
theorem v58 (n : Nu) (R : Value → Prop) : bodyQ Tryz.prog G6 noL Tryz.f58 [Enc.enc n] (fun _ => none) 0 (fun v _ _ => R v) = ( bif ByteArray.toList (Nu.d n) == ByteArray.toList (ByteArray.mk #[]) then bif !Nu.g n || true then R (B (!Nu.g n && Nu.c n == 0)) else False else bif bif decide ((↑(ByteArray.size (Nu.d n)) : Int) ≤ 400) then decide (ByteArray.size (Nu.d n) ≤ 9223372036854775807) && bif digsZ (bz (Nu.d n)) then decide ((0 : Int) ≤ 0 ∧ 0 < (↑(ByteArray.size (Nu.d n)) : Int)) && bif byteAt (Nu.d n) (Int.toNat 0) != 48 then decide (0 ≤ IntKind.wrap .i64 ((↑(ByteArray.size (Nu.d n)) : Int) - 1) ∧ IntKind.wrap .i64 ((↑(ByteArray.size (Nu.d n)) : Int) - 1) < (↑(ByteArray.size (Nu.d n)) : Int)) && bif byteAt (Nu.d n) (Int.toNat (IntKind.wrap .i64 ((↑(ByteArray.size (Nu.d n)) : Int) - 1))) != 48 then decide (Nu.c n ≥ -400) || true else true else true else true else true then R (B (decide ((↑(ByteArray.size (Nu.d n)) : Int) ≤ 400) && (digsZ (bz (Nu.d n)) && (byteAt (Nu.d n) (Int.toNat 0) != 48 && (byteAt (Nu.d n) (Int.toNat (IntKind.wrap .i64 ((↑(ByteArray.size (Nu.d n)) : Int) - 1))) != 48 && (decide (Nu.c n ≥ -400) && decide (Nu.c n ≤ 400))))))) else False) := by kernel_rfl
theorem ok58 : PureOK Tryz.prog 58 (sp1 s58) := by
 refine qure1 ok_G6 hmix fn58 lokf_none (Nat.le_of_ble_eq_true (by kernel_rfl)) fun n hc => ?_
 rw [DoesQ, v58]
 have hc : (n.d.size ≤ 9223372036854775807) := of_decide_eq_true hc
 try dsimp only [s58]
 have hz0 : Int.toNat 0 = 0 := rfl
 rw [empty_iff, hz0]
 refine cond_intro (fun h => ?_) (fun h => ?_)
 ·have h := of_decide_eq_true h
  refine c_t (Bool.or_true _) ?_
  rw [isNum, if_pos h]
  rfl
 ·have h : bz n.d ≠ [] := of_decide_eq_false h
  obtain ⟨h0, hA, hB⟩ := ends_of h
  rw [w64 (n := (n.d.size : Int) - 1) (by omega), show ((n.d.size : Int) - 1).toNat = n.d.size - 1 by omega]
  refine c_t (by
   rw [decide_eq_true (show n.d.size ≤ 9223372036854775807 by omega), decide_eq_true (show (0 : Int) ≤ 0 ∧ 0 < (n.d.size : Int) by omega), decide_eq_true (show 0 ≤ (n.d.size : Int) - 1 ∧ (n.d.size : Int) - 1 < (n.d.size : Int) by omega)]
   simp only [Bool.true_and, Bool.or_true, Bool.cond_self]) ?_
  rw [isNum, if_neg h, hA, hB, bz_length]
  exact congrArg Value.bool (num_bools _ _ _ _ _)
def V158_0 : Bool × ByteArray × Int × Int × ByteArray × ByteArray × Int → List Value := fun (g, d0, c, q, r, d, i) => [I q, .pointer (some ⟨0, 0, some 0⟩), S r, S d, I i]
def B158_0 : Bool × ByteArray × Int × Int × ByteArray × ByteArray × Int → List (Option Blk) := fun (g, d0, c, q, r, d, i) => [some ⟨[B g, S d0, I c], 33, true⟩]
def S158_0 : LSpec (Bool × ByteArray × Int × Int × ByteArray × ByteArray × Int) where
 live := [1, 2, 4, 5, 6]
 mid := [0]
 n := 60
 dec vs bs := match vs, bs with | [.int .i64 q, .pointer (some ⟨0, 0, some 0⟩), .string r, .string d, .int .i64 i], [some ⟨[.bool g, .string d0, .int .i64 c], 33, true⟩] => some (g, d0, c, q, r, d, i) | _, _ => none
 pre := fun (g, d0, c, q, r, d, i) => decide (-1000 ≤ i ∧ i ≤ 1000 ∧ -1000 ≤ q ∧ q ≤ 1000 ∧ d.size + (1000 - i) ≤ 100000)
 fin := fun (g, d0, c, q, r, d, i) Z => ∀ (d' : ByteArray) (i' : Int), bz d' = (if bz d = [] then [] else bz d ++ rep48 (q - i).toNat) → Z (.exit 0) [I q, .pointer (some ⟨0, 0, some 0⟩), S r, S d', I i'] [some ⟨[B g, S d0, I c], 33, true⟩]
theorem r158_0 (g : Bool) (d0 : ByteArray) (c : Int) (q : Int) (r : ByteArray) (d : ByteArray) (i : Int) (jk : Tmps) (R : Exit → List Value → List (Option Blk) → Prop) : (codeQ Tryz.prog G6 noL Tryz.f158.ntmps (loopOf Tryz.f158 0) (tl S158_0.live (V158_0 (g, d0, c, q, r, d, i)) jk) (ml S158_0.mid (B158_0 (g, d0, c, q, r, d, i))) S158_0.n fun e t' m' _ => R e (List.map t' S158_0.live) (List.map m' S158_0.mid)) = ( bif decide (i < q) || true then bif decide (i < q) && !ByteArray.toList d == ByteArray.toList (ByteArray.mk #[]) then bif strFit (ByteArray.size d + ByteArray.size (ByteArray.mk #[48])) then R Exit.normal [I q, .pointer (some (.mk 0 0 (some 0))), S r, S (d ++ ByteArray.mk #[48]), I (IntKind.wrap .i64 (i + 1))] [some (.mk [B g, S d0, I c] 33 true)] else False else R (Exit.exit 0) [I q, .pointer (some (.mk 0 0 (some 0))), S r, S d, I i] [some (.mk [B g, S d0, I c] 33 true)] else False) := by kernel_rfl
theorem l158_0 : LOKf Tryz.prog (oneL 0 S158_0.h) Tryz.f158 := by
 refine lokf_one (h := S158_0.h) (by kernel_rfl) (loop_specQ ok_G6 hmix (by kernel_rfl) (lok_none _) S158_0 V158_0 B158_0 (fun (g, d0, c, q, r, d, i) => (q - i).toNat) ?_ ?_ ?_)
 ·intro vs bs s h
  simp only [S158_0] at h
  split at h
  all_goals first | (cases h; exact ⟨rfl, rfl⟩) | cases h | (split at h <;> first | (rename_i hq; cases h; have hq := Nat.eq_of_beq_eq_true hq; subst hq; exact ⟨rfl, rfl⟩) | cases h)
 ·exact fun _ _ _ h => h
 ·intro ⟨g, d0, c, q, r, d, i⟩ jk Z hp hf
  rw [r158_0]
  simp only [S158_0] at hp hf
  have hp := of_decide_eq_true hp
  rw [empty_iff]
  refine c_t (Bool.or_true _) (cond_intro (fun h => ?_) (fun h => ?_))
  ·simp only [Bool.and_eq_true, decide_eq_true_eq, Bool.not_eq_true', decide_eq_false_iff_not] at h
   obtain ⟨h1, h2⟩ := h
   have z : (d ++ (⟨#[48]⟩ : ByteArray)).size = d.size + 1 := by rw [ByteArray.size_append]; rfl
   have zz : (⟨#[48]⟩ : ByteArray).size = 1 := rfl
   rw [w64 (n := i + 1) (by omega)]
   refine c_t (by rw [zz]; simp only [strFit, Nat.ble_eq]; omega) ⟨(g, d0, c, q, r, d ++ ⟨#[48]⟩, i + 1), rfl, rfl, by simp only [S158_0, decide_eq_true_eq, z]; omega, by simp only; omega, fun d' i' e => hf d' i' ?_⟩
   rw [e, bz_append, if_neg (fun z => h2 (List.append_eq_nil_iff.1 z).1), if_neg h2, show (q - i).toNat = (q - (i + 1)).toNat + 1 by omega, List.append_assoc]
   rfl
  ·refine hf d i ?_
   by_cases h2 : bz d = []
   ·rw [if_pos h2, h2]
   ·rw [if_neg h2]
    have : ¬ i < q := by
     intro z
     rw [decide_eq_true z, decide_eq_false h2] at h
     cases h
    rw [show (q - i).toNat = 0 by omega]
    exact (List.append_nil _).symm
def s158 (n : Nu) (q : Int) : Bool × Value := (decide (n.d.size ≤ 1000 ∧ -400 ≤ n.c ∧ n.c ≤ 400 ∧ 0 ≤ q ∧ q ≤ 100), S (szO (plcR (bz n.d) n.c q)))
theorem fn158 : Fn1 Tryz.prog 158 Tryz.f158 := ⟨Tryz.func158, by kernel_rfl, by kernel_rfl, by kernel_rfl⟩
theorem v158 (n : Nu) (q : Int) (R : Value → Prop) : bodyQ Tryz.prog G6 (oneL 0 S158_0.h) Tryz.f158 [Enc.enc n, Enc.enc q] (fun _ => none) 0 (fun v _ _ => R v) = ( bif LSpec.pre S158_0 (Nu.g n, Nu.d n, Nu.c n, q, ByteArray.mk #[], Nu.d n, Nu.c n) then ∀ (d' : ByteArray) (i' : Int), (bz d' = if bz (Nu.d n) = [] then [] else bz (Nu.d n) ++ rep48 (Int.toNat (q - Nu.c n))) → ∀ (x : Tmps), bif decide ((0 : Int) ≤ 0 ∧ 0 ≤ IntKind.wrap .i64 ((↑(ByteArray.size d') : Int) - imax 0 (imin (↑(ByteArray.size d') : Int) (IntKind.wrap .i64 (Nu.c n - q)))) ∧ IntKind.wrap .i64 ((↑(ByteArray.size d') : Int) - imax 0 (imin (↑(ByteArray.size d') : Int) (IntKind.wrap .i64 (Nu.c n - q)))) ≤ (↑(ByteArray.size d') : Int)) then R (S (ByteArray.extract d' 0 (Int.toNat (IntKind.wrap .i64 ((↑(ByteArray.size d') : Int) - imax 0 (imin (↑(ByteArray.size d') : Int) (IntKind.wrap .i64 (Nu.c n - q)))))))) else False else False) := by kernel_rfl
theorem ok158 : PureOK Tryz.prog 158 (sp2 s158) := by
 refine qure2 ok_G6 hmix fn158 l158_0 (Nat.le_of_ble_eq_true (by kernel_rfl)) fun n q hc => ?_
 rw [DoesQ, v158]
 have hc : (n.d.size ≤ 1000 ∧ -400 ≤ n.c ∧ n.c ≤ 400 ∧ 0 ≤ q ∧ q ≤ 100) := of_decide_eq_true hc
 try dsimp only [s158]
 obtain ⟨h1, h2, h3, h4, h5⟩ := hc
 have hpl : (plcZ (bz n.d) n.c q).length ≤ 1500 := by
  unfold plcZ
  split
  ·simp
  ·rw [List.length_append, rep48, List.length_replicate, bz_length]; omega
 refine c_t (by simp only [S158_0, decide_eq_true_eq]; omega) fun d' i' e x => ?_
 have e : bz d' = plcZ (bz n.d) n.c q := e
 have zd : d'.size = (plcZ (bz n.d) n.c q).length := by rw [← e, bz_length]
 have hm : imax 0 (imin (d'.size : Int) (n.c - q)) = max 0 (min (d'.size : Int) (n.c - q)) := by unfold imax imin; split <;> split <;> omega
 rw [w64 (n := n.c - q) (by omega), hm, w64 (n := (d'.size : Int) - max 0 (min (d'.size : Int) (n.c - q))) (by omega)]
 refine c_t (decide_eq_true (by omega)) ?_
 have : d'.extract 0 ((d'.size : Int) - max 0 (min (d'.size : Int) (n.c - q))).toNat = szO (plcR (bz n.d) n.c q) := by
  refine sz_of ?_
  rw [bz_take, e, plcR, zd]
 rw [this]
def G10 : Env := ((G6.add 58 (sp1 s58)).addG 158 (hideS (sp2 s158))).add 68 (sp1 s68)
theorem ok_G10 : EnvOK Tryz.prog G10 := env_add (env_addG (env_add ok_G6 ok58) (gen_hideS ok158)) ok68
def V87_0 : Bool × ByteArray × Int × Int × ByteArray × ByteArray × Int × Int × Int × Int → List Value := fun (g, d0, c, zn, zs, s, b, x, k, i) => [.pointer (some ⟨0, 0, some 0⟩), .pointer (some ⟨2, 0, some 0⟩), S s, I b, I x, I k, I i]
def B87_0 : Bool × ByteArray × Int × Int × ByteArray × ByteArray × Int × Int × Int × Int → List (Option Blk) := fun (g, d0, c, zn, zs, s, b, x, k, i) => [some ⟨[B g, S d0, I c], 33, true⟩, some ⟨[I zn, S zs], 25, true⟩]
def S87_0 : LSpec (Bool × ByteArray × Int × Int × ByteArray × ByteArray × Int × Int × Int × Int) where
 live := [2, 4, 6, 7, 8, 9, 10]
 mid := [0, 2]
 n := 60
 dec vs bs := match vs, bs with | [.pointer (some ⟨0, 0, some 0⟩), .pointer (some ⟨2, 0, some 0⟩), .string s, .int .i64 b, .int .i64 x, .int .i64 k, .int .i64 i], [some ⟨[.bool g, .string d0, .int .i64 c], 33, true⟩, some ⟨[.int .i64 zn, .string zs], 25, true⟩] => some (g, d0, c, zn, zs, s, b, x, k, i) | _, _ => none
 pre := fun (g, d0, c, zn, zs, s, b, x, k, i) => decide (0 ≤ i ∧ i ≤ s.size ∧ s.size ≤ 100000 ∧ 0 ≤ x ∧ x < b ∧ b ≤ 2147483648) && digsZ (bz s)
 fin := fun (g, d0, c, zn, zs, s, b, x, k, i) Z => Z (.exit 0) [.pointer (some ⟨0, 0, some 0⟩), .pointer (some ⟨2, 0, some 0⟩), S s, I b, I (tkGo b ((bz s).drop i.toNat) x k).1, I (tkGo b ((bz s).drop i.toNat) x k).2, I s.size] [some ⟨[B g, S d0, I c], 33, true⟩, some ⟨[I zn, S zs], 25, true⟩]
theorem r87_0 (g : Bool) (d0 : ByteArray) (c : Int) (zn : Int) (zs : ByteArray) (s : ByteArray) (b : Int) (x : Int) (k : Int) (i : Int) (jk : Tmps) (R : Exit → List Value → List (Option Blk) → Prop) : (codeQ Tryz.prog G10 noL Tryz.f87.ntmps (loopOf Tryz.f87 0) (tl S87_0.live (V87_0 (g, d0, c, zn, zs, s, b, x, k, i)) jk) (ml S87_0.mid (B87_0 (g, d0, c, zn, zs, s, b, x, k, i))) S87_0.n fun e t' m' _ => R e (List.map t' S87_0.live) (List.map m' S87_0.mid)) = ( bif decide (i < (↑(ByteArray.size s) : Int)) then bif decide (0 ≤ i ∧ i < (↑(ByteArray.size s) : Int)) then bif decide (IntKind.wrap .i64 (IntKind.wrap .i64 (10 * x) + IntKind.wrap .i64 (IntKind.wrap .u8 (byteAt s (Int.toNat i) - 48))) ≥ b) then bif decide (b ≠ 0) then R Exit.normal [.pointer (some (.mk 0 0 (some 0))), .pointer (some (.mk 2 0 (some 0))), S s, I b, I (Int.tmod (IntKind.wrap .i64 (IntKind.wrap .i64 (10 * x) + IntKind.wrap .i64 (IntKind.wrap .u8 (byteAt s (Int.toNat i) - 48)))) b), I 1, I (IntKind.wrap .i64 (i + 1))] [some (.mk [B g, S d0, I c] 33 true), some (.mk [I zn, S zs] 25 true)] else False else R Exit.normal [.pointer (some (.mk 0 0 (some 0))), .pointer (some (.mk 2 0 (some 0))), S s, I b, I (IntKind.wrap .i64 (IntKind.wrap .i64 (10 * x) + IntKind.wrap .i64 (IntKind.wrap .u8 (byteAt s (Int.toNat i) - 48)))), I k, I (IntKind.wrap .i64 (i + 1))] [some (.mk [B g, S d0, I c] 33 true), some (.mk [I zn, S zs] 25 true)] else False else R (Exit.exit 0) [.pointer (some (.mk 0 0 (some 0))), .pointer (some (.mk 2 0 (some 0))), S s, I b, I x, I k, I i] [some (.mk [B g, S d0, I c] 33 true), some (.mk [I zn, S zs] 25 true)]) := by kernel_rfl
theorem l87_0 : LOKf Tryz.prog (oneL 0 S87_0.h) Tryz.f87 := by
 refine lokf_one (h := S87_0.h) (by kernel_rfl) (loop_specQ ok_G10 hmix (by kernel_rfl) (lok_none _) S87_0 V87_0 B87_0 (fun (g, d0, c, zn, zs, s, b, x, k, i) => (s.size - i).toNat) ?_ ?_ ?_)
 ·intro vs bs s h
  simp only [S87_0] at h
  split at h
  all_goals first | (cases h; exact ⟨rfl, rfl⟩) | cases h | (split at h <;> first | (rename_i hq; cases h; have hq := Nat.eq_of_beq_eq_true hq; subst hq; exact ⟨rfl, rfl⟩) | cases h)
 ·exact fun _ _ _ h => h
 ·intro ⟨g, d0, c, zn, zs, s, b, x, k, i⟩ jk Z hp hf
  rw [r87_0]
  simp only [S87_0] at hp hf
  simp only [Bool.and_eq_true, decide_eq_true_eq] at hp
  obtain ⟨⟨h0, hi, hs, hx0, hxb, hb⟩, hd⟩ := hp
  refine cond_intro (fun h => ?_) (fun h => ?_)
  ·have h := of_decide_eq_true h
   rw [bz_at h0 h, tkGo] at hf
   have hc := dig_cases (s := s) (i := i.toNat) (by omega) hd
   refine c_t (decide_eq_true (by omega)) ?_
   rw [w64 (n := i + 1) (by omega), w8s (by omega), w64 (n := byteAt s i.toNat - 48) (by omega), w64 (n := 10 * x) (by omega), w64 (n := 10 * x + (byteAt s i.toNat - 48)) (by omega)]
   refine cond_intro (fun q => ?_) (fun q => ?_)
   ·have q : b ≤ 10 * x + (byteAt s i.toNat - 48) := of_decide_eq_true q
    rw [if_pos q] at hf
    have hm := tm_rng (a := 10 * x + (byteAt s i.toNat - 48)) (b := b) (by omega) (by omega)
    exact c_t (decide_eq_true (by omega)) ⟨(g, d0, c, zn, zs, s, b, (10 * x + (byteAt s i.toNat - 48)).tmod b, 1, i + 1), rfl, rfl, by simp only [S87_0, Bool.and_eq_true, decide_eq_true_eq]; exact ⟨by omega, hd⟩, by simp only; omega, hf⟩
   ·have q : ¬ b ≤ 10 * x + (byteAt s i.toNat - 48) := of_decide_eq_false q
    rw [if_neg q] at hf
    exact ⟨(g, d0, c, zn, zs, s, b, 10 * x + (byteAt s i.toNat - 48), k, i + 1), rfl, rfl, by simp only [S87_0, Bool.and_eq_true, decide_eq_true_eq]; exact ⟨by omega, hd⟩, by simp only; omega, hf⟩
  ·have h := of_decide_eq_false h
   rw [bz_end (by omega)] at hf
   obtain rfl : i = s.size := by omega
   exact hf
def s87 (n : Nu) (t : Ty) : Bool × Value := (isNum n.g (bz n.d) n.c && decide (Valid t), .tuple ⟨[vlv (tkR n.g (bz n.d) n.c (bnd t) t.q).1, I (tkR n.g (bz n.d) n.c (bnd t) t.q).2]⟩)
theorem fn87 : Fn1 Tryz.prog 87 Tryz.f87 := ⟨Tryz.func87, by kernel_rfl, by kernel_rfl, by kernel_rfl⟩
theorem v87 (n : Nu) (t : Ty) (R : Value → Prop) : bodyQ Tryz.prog G10 (oneL 0 S87_0.h) Tryz.f87 [Enc.enc n, Enc.enc t] (fun _ => none) 0 (fun v _ _ => R v) = ( bif decide (ByteArray.size (Nu.d n) ≤ 1000 ∧ -400 ≤ Nu.c n ∧ Nu.c n ≤ 400 ∧ 0 ≤ Ty.q t ∧ Ty.q t ≤ 100) then ∀ (s' : ByteArray), szO (plcR (bz (Nu.d n)) (Nu.c n) (Ty.q t)) = s' → bif decide (Ty.p t ≤ 1000) then bif LSpec.pre S87_0 (Nu.g n, Nu.d n, Nu.c n, 0, ByteArray.mk #[], s', IntKind.wrap .i64 (bnd t), 0, 0, 0) then ∀ (x : Tmps), bif Nu.g n then R (.tuple (.mk [.agg (.mk [I (IntKind.wrap .i64 (0 - Prod.fst (tkGo (IntKind.wrap .i64 (bnd t)) (List.drop (Int.toNat 0) (bz s')) 0 0))), S (ByteArray.mk #[])]), I (Prod.snd (tkGo (IntKind.wrap .i64 (bnd t)) (List.drop (Int.toNat 0) (bz s')) 0 0))])) else R (.tuple (.mk [.agg (.mk [I (Prod.fst (tkGo (IntKind.wrap .i64 (bnd t)) (List.drop (Int.toNat 0) (bz s')) 0 0)), S (ByteArray.mk #[])]), I (Prod.snd (tkGo (IntKind.wrap .i64 (bnd t)) (List.drop (Int.toNat 0) (bz s')) 0 0))])) else False else False else False) := by kernel_rfl
theorem ok87 : PureOK Tryz.prog 87 (sp2 s87) := by
 refine qure2 ok_G10 hmix fn87 l87_0 (Nat.le_of_ble_eq_true (by kernel_rfl)) fun n t hc => ?_
 rw [DoesQ, v87]
 try dsimp only [s87]
 have hc : (isNum n.g (bz n.d) n.c && decide (Valid t)) = true := hc
 simp only [Bool.and_eq_true, decide_eq_true_eq] at hc
 obtain ⟨hn, hv⟩ := hc
 obtain ⟨f1, f2, f3, f4, f5⟩ := isNum_facts hn
 rw [bz_length] at f1
 obtain ⟨v1, v2, v3, v4, v5⟩ := valid_facts hv
 have hz0 : Int.toNat 0 = 0 := rfl
 refine c_t (decide_eq_true (by omega)) fun s' hs' => c_t (decide_eq_true (by omega)) ?_
 have hbz : bz s' = plcR (bz n.d) n.c t.q := by rw [← hs', bz_szO (digs_isB (plc_digs f2))]
 have hsz : s'.size ≤ 1500 := by rw [← bz_length, hbz]; exact plc_len (by rw [bz_length]; exact f1) f4 v4
 rw [w64 (n := bnd t) (by omega), hz0, List.drop_zero, hbz]
 refine c_t (by simp only [S87_0, Bool.and_eq_true, decide_eq_true_eq]; exact ⟨by omega, by rw [hbz]; exact plc_digs f2⟩) fun x => ?_
 have hr := tkGo_rng (b := bnd t) (by omega) (plcR (bz n.d) n.c t.q) 0 0 (plc_digs f2) (by omega)
 rw [tkR, w64 (n := 0 - (tkGo (bnd t) (plcR (bz n.d) n.c t.q) 0 0).1) (by omega)]
 refine cond_intro (fun h => ?_) (fun h => ?_)
 ·rw [if_pos h, Int.zero_sub]
 ·rw [if_neg (by rw [h]; decide)]
def G11 : Env := (G10.add 87 (sp2 s87))
theorem ok_G11 : EnvOK Tryz.prog G11 := env_add (ok_G10) ok87
def s27 (n : Nu) (t : Ty) : Bool × Value := (decide (n.d.size ≤ 9223372036854775807), .tuple ⟨[vlv (tkV n.g (bz n.d) n.c t).1, I (tkV n.g (bz n.d) n.c t).2.1, I (tkV n.g (bz n.d) n.c t).2.2]⟩)
theorem fn27 : Fn1 Tryz.prog 27 Tryz.f27 := ⟨Tryz.func27, by kernel_rfl, by kernel_rfl, by kernel_rfl⟩
theorem v27 (n : Nu) (t : Ty) (R : Value → Prop) : bodyQ Tryz.prog G11 noL Tryz.f27 [Enc.enc n, Enc.enc t] (fun _ => none) 0 (fun v _ _ => R v) = ( bif decide (ByteArray.size (Nu.d n) ≤ 9223372036854775807) then bif !isNum (Nu.g n) (bz (Nu.d n)) (Nu.c n) then R (.tuple (.mk [.agg (.mk [I 0, S (ByteArray.mk #[])]), I 0, I 1])) else bif !decide (Valid t) then R (.tuple (.mk [.agg (.mk [I 0, S (ByteArray.mk #[])]), I 0, I 5])) else bif isNum (Nu.g n) (bz (Nu.d n)) (Nu.c n) && decide (Valid t) then R (.tuple (.mk [.agg (.mk [I (Prod.fst (tkR (Nu.g n) (bz (Nu.d n)) (Nu.c n) (bnd t) (Ty.q t))), S (ByteArray.mk #[])]), I (Prod.snd (tkR (Nu.g n) (bz (Nu.d n)) (Nu.c n) (bnd t) (Ty.q t))), I 0])) else False else False) := by kernel_rfl
theorem ok27 : PureOK Tryz.prog 27 (sp2 s27) := by
 refine qure2 ok_G11 hmix fn27 lokf_none (Nat.le_of_ble_eq_true (by kernel_rfl)) fun n t hc => ?_
 rw [DoesQ, v27]
 have hc : (n.d.size ≤ 9223372036854775807) := of_decide_eq_true hc
 try dsimp only [s27]
 refine c_t (decide_eq_true hc) (cond_intro (fun h => ?_) (fun h => ?_))
 ·rw [tkV, if_pos (by simpa using h)]
 have h : isNum n.g (bz n.d) n.c = true := by simpa using h
 rw [h]
 refine cond_intro (fun q => ?_) (fun q => ?_)
 ·have q : ¬ Valid t := by simpa using q
  rw [tkV, if_neg (by rw [h]; decide), if_pos q]
 ·have q : Valid t := by simpa using q
  refine c_t (by rw [decide_eq_true q]; rfl) ?_
  rw [tkV, if_neg (by rw [h]; decide), if_neg (fun z => z q)]
def H2' : Env := H1.add 85 (sp1 s85)
theorem ok_H2' : EnvOK Tryz.prog H2' := env_add ok_H1 ok85
def s84 (n : Nu) : Bool × Value := (decide (n.d.size ≤ 9223372036854775807), B (isNum n.g (bz n.d) n.c))
theorem fn84 : Fn1 Tryz.prog 84 Tryz.f84 := ⟨Tryz.func84, by kernel_rfl, by kernel_rfl, by kernel_rfl⟩
theorem v84 (n : Nu) (R : Value → Prop) : bodyQ Tryz.prog H2' noL Tryz.f84 [Enc.enc n] (fun _ => none) 0 (fun v _ _ => R v) = ( bif ByteArray.toList (Nu.d n) == ByteArray.toList (ByteArray.mk #[]) then bif Nu.c n == 0 || true then R (B (Nu.c n == 0 && !Nu.g n)) else False else bif bif decide ((↑(ByteArray.size (Nu.d n)) : Int) ≤ 400) then decide (ByteArray.size (Nu.d n) ≤ 9223372036854775807) && (decide (ByteArray.size (ByteArray.mk #[48, 49, 50, 51, 52, 53, 54, 55, 56, 57]) ≤ 1000) && asc (bz (ByteArray.mk #[48, 49, 50, 51, 52, 53, 54, 55, 56, 57]))) && bif ByteArray.toList (szO (trimZ (bz (Nu.d n)) (bz (ByteArray.mk #[48, 49, 50, 51, 52, 53, 54, 55, 56, 57])))) == ByteArray.toList (ByteArray.mk #[]) then decide ((0 : Int) ≤ 0 ∧ 0 < (↑(ByteArray.size (Nu.d n)) : Int)) && bif byteAt (Nu.d n) (Int.toNat 0) != 48 then decide (0 ≤ IntKind.wrap .i64 ((↑(ByteArray.size (Nu.d n)) : Int) - 1) ∧ IntKind.wrap .i64 ((↑(ByteArray.size (Nu.d n)) : Int) - 1) < (↑(ByteArray.size (Nu.d n)) : Int)) && bif byteAt (Nu.d n) (Int.toNat (IntKind.wrap .i64 ((↑(ByteArray.size (Nu.d n)) : Int) - 1))) != 48 then decide (Nu.c n ≥ -400) || true else true else true else true else true then R (B (decide ((↑(ByteArray.size (Nu.d n)) : Int) ≤ 400) && (ByteArray.toList (szO (trimZ (bz (Nu.d n)) (bz (ByteArray.mk #[48, 49, 50, 51, 52, 53, 54, 55, 56, 57])))) == ByteArray.toList (ByteArray.mk #[]) && (byteAt (Nu.d n) (Int.toNat 0) != 48 && (byteAt (Nu.d n) (Int.toNat (IntKind.wrap .i64 ((↑(ByteArray.size (Nu.d n)) : Int) - 1))) != 48 && (decide (Nu.c n ≥ -400) && decide (Nu.c n ≤ 400))))))) else False) := by kernel_rfl
theorem ok84 : PureOK Tryz.prog 84 (sp1 s84) := by
 refine qure1 ok_H2' hmix fn84 lokf_none (Nat.le_of_ble_eq_true (by kernel_rfl)) fun n hc => ?_
 rw [DoesQ, v84]
 have hc : (n.d.size ≤ 9223372036854775807) := of_decide_eq_true hc
 try dsimp only [s84]
 have hz0 : Int.toNat 0 = 0 := rfl
 rw [empty_iff, hz0]
 refine cond_intro (fun h => ?_) (fun h => ?_)
 ·have h := of_decide_eq_true h
  refine c_t (Bool.or_true _) ?_
  rw [isNum, if_pos h]
  exact congrArg Value.bool (Bool.and_comm _ _)
 ·have h : bz n.d ≠ [] := of_decide_eq_false h
  obtain ⟨h0, hA, hB⟩ := ends_of h
  have hT : ((szO (trimZ (bz n.d) (bz ⟨#[48, 49, 50, 51, 52, 53, 54, 55, 56, 57]⟩))).toList == (⟨#[]⟩ : ByteArray).toList) = digsZ (bz n.d) := by
   rw [empty_iff, bz_szO (trim_isB (bz_isB n.d))]
   exact trim_digs (bz n.d)
  rw [hT, w64 (n := (n.d.size : Int) - 1) (by omega), show ((n.d.size : Int) - 1).toNat = n.d.size - 1 by omega]
  refine c_t (by
   rw [decide_eq_true (show n.d.size ≤ 9223372036854775807 by omega), decide_eq_true (show (0 : Int) ≤ 0 ∧ 0 < (n.d.size : Int) by omega), decide_eq_true (show 0 ≤ (n.d.size : Int) - 1 ∧ (n.d.size : Int) - 1 < (n.d.size : Int) by omega), show (decide ((⟨#[48, 49, 50, 51, 52, 53, 54, 55, 56, 57]⟩ : ByteArray).size ≤ 1000) && asc (bz ⟨#[48, 49, 50, 51, 52, 53, 54, 55, 56, 57]⟩)) = true by kernel_rfl]
   simp only [Bool.true_and, Bool.or_true, Bool.cond_self]) ?_
  rw [isNum, if_neg h, hA, hB, bz_length]
  exact congrArg Value.bool (num_bools _ _ _ _ _)
def s86 (n : Nu) (q : Int) : Bool × Value := (isNum n.g (bz n.d) n.c && decide (0 ≤ q ∧ q ≤ 100), S (szO (plcR (bz n.d) n.c q)))
theorem fn86 : Fn1 Tryz.prog 86 Tryz.f86 := ⟨Tryz.func86, by kernel_rfl, by kernel_rfl, by kernel_rfl⟩
theorem v86 (n : Nu) (q : Int) (R : Value → Prop) : bodyQ Tryz.prog H2' noL Tryz.f86 [Enc.enc n, Enc.enc q] (fun _ => none) 0 (fun v _ _ => R v) = ( bif decide (Nu.c n ≤ q) then bif decide (0 ≤ IntKind.wrap .i64 (q - Nu.c n) ∧ IntKind.wrap .i64 (q - Nu.c n) ≤ 1000 ∧ ByteArray.size (ByteArray.mk #[48]) ≤ 1000) then bif strFit (ByteArray.size (Nu.d n) + ByteArray.size (szO (repZ (bz (ByteArray.mk #[48])) (Int.toNat (IntKind.wrap .i64 (q - Nu.c n)))))) then R (S (szO (tlZ (bz (Nu.d n ++ szO (repZ (bz (ByteArray.mk #[48])) (Int.toNat (IntKind.wrap .i64 (q - Nu.c n)))))) (List.getD (bz (ByteArray.mk #[48])) 0 0)))) else False else False else bif decide ((0 : Int) ≤ 0 ∧ 0 ≤ imax (IntKind.wrap .i64 ((↑(ByteArray.size (Nu.d n)) : Int) - IntKind.wrap .i64 (Nu.c n - q))) 0 ∧ imax (IntKind.wrap .i64 ((↑(ByteArray.size (Nu.d n)) : Int) - IntKind.wrap .i64 (Nu.c n - q))) 0 ≤ (↑(ByteArray.size (Nu.d n)) : Int)) then R (S (szO (tlZ (bz (ByteArray.extract (Nu.d n) 0 (Int.toNat (imax (IntKind.wrap .i64 ((↑(ByteArray.size (Nu.d n)) : Int) - IntKind.wrap .i64 (Nu.c n - q))) 0)))) (List.getD (bz (ByteArray.mk #[48])) 0 0)))) else False) := by kernel_rfl
theorem ok86 : PureOK Tryz.prog 86 (sp2 s86) := by
 refine qure2 ok_H2' hmix fn86 lokf_none (Nat.le_of_ble_eq_true (by kernel_rfl)) fun n q hc => ?_
 rw [DoesQ, v86]
 try dsimp only [s86]
 have hc : (isNum n.g (bz n.d) n.c && decide (0 ≤ q ∧ q ≤ 100)) = true := hc
 simp only [Bool.and_eq_true, decide_eq_true_eq] at hc
 obtain ⟨hn, hq⟩ := hc
 obtain ⟨f1, f2, f3, f4, f5⟩ := isNum_facts hn
 have f1' := f1
 rw [bz_length] at f1
 have hr48 : ∀ k, repZ [48] k = rep48 k := fun k => by
  induction k with
  | zero => rfl
  | succ k ih => rw [repZ, ih]; rfl
 have e48 : bz ⟨#[48]⟩ = [48] := rfl
 have hpe := place_eq (q := q) f5 f3
 rw [e48, ← hpe]
 have hi48 : ∀ k, IsB (rep48 k) := fun k c hc => by rw [List.eq_of_mem_replicate hc]; omega
 refine cond_intro (fun h => ?_) (fun h => ?_)
 ·have h := of_decide_eq_true h
  rw [w64 (n := q - n.c) (by omega), hr48, bz_append, bz_szO (hi48 _)]
  refine c_t (decide_eq_true ⟨by omega, by omega, by decide⟩) (c_t (by rw [szO_size, rep48, List.length_replicate]; simp only [strFit, Nat.ble_eq]; omega) ?_)
  rw [intP, if_pos h]
  rfl
 ·have h := of_decide_eq_false h
  have hm : imax ((n.d.size : Int) - (n.c - q)) 0 = max ((n.d.size : Int) - (n.c - q)) 0 := by unfold imax; split <;> omega
  rw [w64 (n := n.c - q) (by omega), w64 (n := (n.d.size : Int) - (n.c - q)) (by omega), hm, bz_take]
  refine c_t (decide_eq_true (by omega)) ?_
  rw [intP, if_neg h, bz_length]
  rfl
def H5 : Env := (H2'.add 84 (sp1 s84)).addG 86 (hideS (sp2 s86))
theorem ok_H5 : EnvOK Tryz.prog H5 := env_addG (env_add ok_H2' ok84) (gen_hideS ok86)
end Go.Cx
end
noncomputable section
set_option maxHeartbeats 3200000
namespace Go.Cx
open Go Go.Ab Go.Proofs Go.Shelf Go.Px Go.Cv
open Go.Fx (Ty Vl check Valid most base pw bnd Fit fits tv vv tup V0 T0 pw_zero pw_succ wrap_mul pw_w64 str0)
def bpow (b : Int) : Nat → Int → Int
 | 0, x => x
 | n + 1, x => bpow b n (x * b)
theorem bpow_eq (b : Int) : ∀ (n : Nat) (x : Int), bpow b n x = x * b ^ n
 | 0, x => by rw [bpow, Int.pow_zero, Int.mul_one]
 | n + 1, x => by rw [bpow, bpow_eq b n, Int.pow_succ, Int.mul_assoc, Int.mul_comm b]
theorem bpow_ge {b : Int} (hb : 1 ≤ b) : ∀ (n : Nat) (x : Int), 1 ≤ x → x ≤ bpow b n x
 | 0, x, h => Int.le_refl _
 | n + 1, x, h => by
  rw [bpow]
  have h1 : x * 1 ≤ x * b := Int.mul_le_mul_of_nonneg_left hb (by omega)
  rw [Int.mul_one] at h1
  exact Int.le_trans h1 (bpow_ge hb n (x * b) (by omega))
def V26_0 : Bool × ByteArray × Int × Int × ByteArray × Int × Int × ByteArray × Int × Int × Int × Int × Int × Int → List Value := fun (g, d0, c, zn, zs, r5, r6, s, b, o, k, x, P, i) => [.pointer (some ⟨0, 0, some 0⟩), .pointer (some ⟨2, 0, some 0⟩), I r5, I r6, S s, I b, I o, I k, I x, I P, I i]
def B26_0 : Bool × ByteArray × Int × Int × ByteArray × Int × Int × ByteArray × Int × Int × Int × Int × Int × Int → List (Option Blk) := fun (g, d0, c, zn, zs, r5, r6, s, b, o, k, x, P, i) => [some ⟨[B g, S d0, I c], 33, true⟩, some ⟨[I zn, S zs], 25, true⟩]
def S26_0 : LSpec (Bool × ByteArray × Int × Int × ByteArray × Int × Int × ByteArray × Int × Int × Int × Int × Int × Int) where
 live := [2, 4, 5, 6, 7, 8, 9, 10, 11, 29, 30]
 mid := [0, 2]
 n := 60
 dec vs bs := match vs, bs with | [.pointer (some ⟨0, 0, some 0⟩), .pointer (some ⟨2, 0, some 0⟩), .int .i64 r5, .int .i64 r6, .string s, .int .i64 b, .int .i64 o, .int .i64 k, .int .i64 x, .int .i64 P, .int .i64 i], [some ⟨[.bool g, .string d0, .int .i64 c], 33, true⟩, some ⟨[.int .i64 zn, .string zs], 25, true⟩] => some (g, d0, c, zn, zs, r5, r6, s, b, o, k, x, P, i) | _, _ => none
 pre := fun (g, d0, c, zn, zs, r5, r6, s, b, o, k, x, P, i) => decide (0 ≤ i ∧ i ≤ P ∧ P ≤ 100 ∧ 1 ≤ b ∧ 1 ≤ x ∧ bpow b (P - i).toNat x ≤ 2147483648)
 fin := fun (g, d0, c, zn, zs, r5, r6, s, b, o, k, x, P, i) Z => Z (.exit 0) [.pointer (some ⟨0, 0, some 0⟩), .pointer (some ⟨2, 0, some 0⟩), I r5, I r6, S s, I b, I o, I k, I (bpow b (P - i).toNat x), I P, I P] [some ⟨[B g, S d0, I c], 33, true⟩, some ⟨[I zn, S zs], 25, true⟩]
theorem r26_0 (g : Bool) (d0 : ByteArray) (c : Int) (zn : Int) (zs : ByteArray) (r5 : Int) (r6 : Int) (s : ByteArray) (b : Int) (o : Int) (k : Int) (x : Int) (P : Int) (i : Int) (jk : Tmps) (R : Exit → List Value → List (Option Blk) → Prop) : (codeQ Tryz.prog H5 noL Tryz.f26.ntmps (loopOf Tryz.f26 0) (tl S26_0.live (V26_0 (g, d0, c, zn, zs, r5, r6, s, b, o, k, x, P, i)) jk) (ml S26_0.mid (B26_0 (g, d0, c, zn, zs, r5, r6, s, b, o, k, x, P, i))) S26_0.n fun e t' m' _ => R e (List.map t' S26_0.live) (List.map m' S26_0.mid)) = ( bif decide (i < P) then R Exit.normal [.pointer (some (.mk 0 0 (some 0))), .pointer (some (.mk 2 0 (some 0))), I r5, I r6, S s, I b, I o, I k, I (IntKind.wrap .i64 (x * b)), I P, I (IntKind.wrap .i64 (i + 1))] [some (.mk [B g, S d0, I c] 33 true), some (.mk [I zn, S zs] 25 true)] else R (Exit.exit 0) [.pointer (some (.mk 0 0 (some 0))), .pointer (some (.mk 2 0 (some 0))), I r5, I r6, S s, I b, I o, I k, I x, I P, I i] [some (.mk [B g, S d0, I c] 33 true), some (.mk [I zn, S zs] 25 true)]) := by kernel_rfl
theorem l26_0 : ∀ t m n K, S26_0.h t m n K → Ab.Sem Tryz.prog Tryz.f26.ntmps (.loop (loopOf Tryz.f26 0)) t m n K := by
 refine loop_specQ ok_H5 hmix (by kernel_rfl) (lok_none _) S26_0 V26_0 B26_0 (fun (g, d0, c, zn, zs, r5, r6, s, b, o, k, x, P, i) => (P - i).toNat) ?_ ?_ ?_
 ·intro vs bs s h
  simp only [S26_0] at h
  split at h
  all_goals first | (cases h; exact ⟨rfl, rfl⟩) | cases h | (split at h <;> first | (rename_i hq; cases h; have hq := Nat.eq_of_beq_eq_true hq; subst hq; exact ⟨rfl, rfl⟩) | cases h)
 ·exact fun _ _ _ h => h
 ·intro ⟨g, d0, c, zn, zs, r5, r6, s, b, o, k, x, P, i⟩ jk Z hp hf
  rw [r26_0]
  simp only [S26_0] at hp hf
  obtain ⟨h0, hP, h100, hb, hx, hm⟩ := of_decide_eq_true hp
  refine cond_intro (fun h => ?_) (fun h => ?_)
  ·have h := of_decide_eq_true h
   have e : (P - i).toNat = (P - (i + 1)).toNat + 1 := by omega
   rw [e, bpow] at hm hf
   have h1 : x * 1 ≤ x * b := Int.mul_le_mul_of_nonneg_left hb (by omega)
   rw [Int.mul_one] at h1
   have h2 := bpow_ge hb (P - (i + 1)).toNat (x * b) (by omega)
   rw [w64 (n := x * b) (by omega), w64 (n := i + 1) (by omega)]
   exact ⟨(g, d0, c, zn, zs, r5, r6, s, b, o, k, x * b, P, i + 1), rfl, rfl, by simp only [S26_0, decide_eq_true_eq]; omega, by simp only; omega, hf⟩
  ·have h := of_decide_eq_false h
   obtain rfl : i = P := by omega
   rw [Int.sub_self] at hf
   exact hf
def V26_2 : Bool × ByteArray × Int × Int × ByteArray × Int × Int × ByteArray × Int × Int × Int × Int × Int → List Value := fun (g, d0, c, zn, zs, r5, r6, s, x, k, b, L, i) => [.pointer (some ⟨0, 0, some 0⟩), .pointer (some ⟨2, 0, some 0⟩), I r5, I r6, S s, I x, I k, I b, I L, I i]
def B26_2 : Bool × ByteArray × Int × Int × ByteArray × Int × Int × ByteArray × Int × Int × Int × Int × Int → List (Option Blk) := fun (g, d0, c, zn, zs, r5, r6, s, x, k, b, L, i) => [some ⟨[B g, S d0, I c], 33, true⟩, some ⟨[I zn, S zs], 25, true⟩]
def S26_2 : LSpec (Bool × ByteArray × Int × Int × ByteArray × Int × Int × ByteArray × Int × Int × Int × Int × Int) where
 live := [2, 4, 5, 6, 7, 9, 10, 11, 37, 38]
 mid := [0, 2]
 n := 120
 dec vs bs := match vs, bs with | [.pointer (some ⟨0, 0, some 0⟩), .pointer (some ⟨2, 0, some 0⟩), .int .i64 r5, .int .i64 r6, .string s, .int .i64 x, .int .i64 k, .int .i64 b, .int .i64 L, .int .i64 i], [some ⟨[.bool g, .string d0, .int .i64 c], 33, true⟩, some ⟨[.int .i64 zn, .string zs], 25, true⟩] => some (g, d0, c, zn, zs, r5, r6, s, x, k, b, L, i) | _, _ => none
 pre := fun (g, d0, c, zn, zs, r5, r6, s, x, k, b, L, i) => decide (0 ≤ i ∧ i ≤ L ∧ L = s.size ∧ s.size ≤ 100000 ∧ 0 ≤ x ∧ x < b ∧ b ≤ 2147483648) && digsZ (bz s)
 fin := fun (g, d0, c, zn, zs, r5, r6, s, x, k, b, L, i) Z => Z (.exit 2) [.pointer (some ⟨0, 0, some 0⟩), .pointer (some ⟨2, 0, some 0⟩), I r5, I r6, S s, I (tkGo b ((bz s).drop i.toNat) x k).1, I (tkGo b ((bz s).drop i.toNat) x k).2, I b, I L, I L] [some ⟨[B g, S d0, I c], 33, true⟩, some ⟨[I zn, S zs], 25, true⟩]
theorem r26_2 (g : Bool) (d0 : ByteArray) (c : Int) (zn : Int) (zs : ByteArray) (r5 : Int) (r6 : Int) (s : ByteArray) (x : Int) (k : Int) (b : Int) (L : Int) (i : Int) (jk : Tmps) (R : Exit → List Value → List (Option Blk) → Prop) : (codeQ Tryz.prog H5 noL Tryz.f26.ntmps (loopOf Tryz.f26 2) (tl S26_2.live (V26_2 (g, d0, c, zn, zs, r5, r6, s, x, k, b, L, i)) jk) (ml S26_2.mid (B26_2 (g, d0, c, zn, zs, r5, r6, s, x, k, b, L, i))) S26_2.n fun e t' m' _ => R e (List.map t' S26_2.live) (List.map m' S26_2.mid)) = ( bif decide (i < L) then bif decide (0 ≤ i ∧ i < (↑(ByteArray.size s) : Int)) then bif decide (IntKind.wrap .i64 (IntKind.wrap .i64 (10 * x) + IntKind.wrap .i64 (IntKind.wrap .u8 (byteAt s (Int.toNat i) - 48))) ≥ b) then bif decide (b ≠ 0) then R Exit.normal [.pointer (some (.mk 0 0 (some 0))), .pointer (some (.mk 2 0 (some 0))), I r5, I r6, S s, I (Int.tmod (IntKind.wrap .i64 (IntKind.wrap .i64 (10 * x) + IntKind.wrap .i64 (IntKind.wrap .u8 (byteAt s (Int.toNat i) - 48)))) b), I 1, I b, I L, I (IntKind.wrap .i64 (i + 1))] [some (.mk [B g, S d0, I c] 33 true), some (.mk [I zn, S zs] 25 true)] else False else R Exit.normal [.pointer (some (.mk 0 0 (some 0))), .pointer (some (.mk 2 0 (some 0))), I r5, I r6, S s, I (IntKind.wrap .i64 (IntKind.wrap .i64 (10 * x) + IntKind.wrap .i64 (IntKind.wrap .u8 (byteAt s (Int.toNat i) - 48)))), I k, I b, I L, I (IntKind.wrap .i64 (i + 1))] [some (.mk [B g, S d0, I c] 33 true), some (.mk [I zn, S zs] 25 true)] else False else R (Exit.exit 2) [.pointer (some (.mk 0 0 (some 0))), .pointer (some (.mk 2 0 (some 0))), I r5, I r6, S s, I x, I k, I b, I L, I i] [some (.mk [B g, S d0, I c] 33 true), some (.mk [I zn, S zs] 25 true)]) := by kernel_rfl
theorem l26_2 : ∀ t m n K, S26_2.h t m n K → Ab.Sem Tryz.prog Tryz.f26.ntmps (.loop (loopOf Tryz.f26 2)) t m n K := by
 refine loop_specQ ok_H5 hmix (by kernel_rfl) (lok_none _) S26_2 V26_2 B26_2 (fun (g, d0, c, zn, zs, r5, r6, s, x, k, b, L, i) => (s.size - i).toNat) ?_ ?_ ?_
 ·intro vs bs s h
  simp only [S26_2] at h
  split at h
  all_goals first | (cases h; exact ⟨rfl, rfl⟩) | cases h | (split at h <;> first | (rename_i hq; cases h; have hq := Nat.eq_of_beq_eq_true hq; subst hq; exact ⟨rfl, rfl⟩) | cases h)
 ·exact fun _ _ _ h => h
 ·intro ⟨g, d0, c, zn, zs, r5, r6, s, x, k, b, L, i⟩ jk Z hp hf
  rw [r26_2]
  simp only [S26_2] at hp hf
  simp only [Bool.and_eq_true, decide_eq_true_eq] at hp
  obtain ⟨⟨h0, hi, hL, hs, hx0, hxb, hb⟩, hd⟩ := hp
  refine cond_intro (fun h => ?_) (fun h => ?_)
  ·have h := of_decide_eq_true h
   rw [bz_at h0 (by omega), tkGo] at hf
   have hc := dig_cases (s := s) (i := i.toNat) (by omega) hd
   refine c_t (decide_eq_true (by omega)) ?_
   rw [w64 (n := i + 1) (by omega), w8s (by omega), w64 (n := byteAt s i.toNat - 48) (by omega), w64 (n := 10 * x) (by omega), w64 (n := 10 * x + (byteAt s i.toNat - 48)) (by omega)]
   refine cond_intro (fun q => ?_) (fun q => ?_)
   ·have q : b ≤ 10 * x + (byteAt s i.toNat - 48) := of_decide_eq_true q
    rw [if_pos q] at hf
    have hm := tm_rng (a := 10 * x + (byteAt s i.toNat - 48)) (b := b) (by omega) (by omega)
    exact c_t (decide_eq_true (by omega)) ⟨(g, d0, c, zn, zs, r5, r6, s, (10 * x + (byteAt s i.toNat - 48)).tmod b, 1, b, L, i + 1), rfl, rfl, by simp only [S26_2, Bool.and_eq_true, decide_eq_true_eq]; exact ⟨by omega, hd⟩, by simp only; omega, hf⟩
   ·have q : ¬ b ≤ 10 * x + (byteAt s i.toNat - 48) := of_decide_eq_false q
    rw [if_neg q] at hf
    exact ⟨(g, d0, c, zn, zs, r5, r6, s, 10 * x + (byteAt s i.toNat - 48), k, b, L, i + 1), rfl, rfl, by simp only [S26_2, Bool.and_eq_true, decide_eq_true_eq]; exact ⟨by omega, hd⟩, by simp only; omega, hf⟩
  ·have h := of_decide_eq_false h
   rw [bz_end (by omega)] at hf
   obtain rfl : i = L := by omega
   exact hf
theorem lok26 : LOKf Tryz.prog (twoL 0 S26_0.h 2 S26_2.h) Tryz.f26 := lokf_two (by kernel_rfl) (by kernel_rfl) l26_0 l26_2
def s26 (n : Nu) (t : Ty) : Bool × Value := (decide (n.d.size ≤ 9223372036854775807), .tuple ⟨[vlv (tkV n.g (bz n.d) n.c t).1, I (tkV n.g (bz n.d) n.c t).2.1, I (tkV n.g (bz n.d) n.c t).2.2]⟩)
theorem fn26 : Fn1 Tryz.prog 26 Tryz.f26 := ⟨Tryz.func26, by kernel_rfl, by kernel_rfl, by kernel_rfl⟩
theorem v26 (n : Nu) (t : Ty) (R : Value → Prop) : bodyQ Tryz.prog H5 (twoL 0 S26_0.h 2 S26_2.h) Tryz.f26 [Enc.enc n, Enc.enc t] (fun _ => none) 0 (fun v _ _ => R v) = ( bif decide (ByteArray.size (Nu.d n) ≤ 9223372036854775807) then bif !isNum (Nu.g n) (bz (Nu.d n)) (Nu.c n) then R (.tuple (.mk [.agg (.mk [I 0, S (ByteArray.mk #[])]), I 0, I 1])) else bif !decide (Valid t) then R (.tuple (.mk [.agg (.mk [I 0, S (ByteArray.mk #[])]), I 0, I 5])) else bif isNum (Nu.g n) (bz (Nu.d n)) (Nu.c n) && decide (0 ≤ Ty.q t ∧ Ty.q t ≤ 100) then ∀ (s' : ByteArray), szO (plcR (bz (Nu.d n)) (Nu.c n) (Ty.q t)) = s' → bif Ty.k t == 2 then bif LSpec.pre S26_0 (Nu.g n, Nu.d n, Nu.c n, 0, ByteArray.mk #[], 0, 0, s', 2, 0, 0, 1, Ty.p t, 0) then ∀ (x : Tmps), bif LSpec.pre S26_2 (Nu.g n, Nu.d n, Nu.c n, 0, ByteArray.mk #[], 0, 0, s', 0, 0, bpow 2 (Int.toNat (Ty.p t - 0)) 1, (↑(ByteArray.size s') : Int), 0) then ∀ (x : Tmps), bif Nu.g n then R (.tuple (.mk [.agg (.mk [I (IntKind.wrap .i64 (0 - Prod.fst (tkGo (bpow 2 (Int.toNat (Ty.p t - 0)) 1) (List.drop (Int.toNat 0) (bz s')) 0 0))), S (ByteArray.mk #[])]), I (Prod.snd (tkGo (bpow 2 (Int.toNat (Ty.p t - 0)) 1) (List.drop (Int.toNat 0) (bz s')) 0 0)), I 0])) else R (.tuple (.mk [.agg (.mk [I (Prod.fst (tkGo (bpow 2 (Int.toNat (Ty.p t - 0)) 1) (List.drop (Int.toNat 0) (bz s')) 0 0)), S (ByteArray.mk #[])]), I (Prod.snd (tkGo (bpow 2 (Int.toNat (Ty.p t - 0)) 1) (List.drop (Int.toNat 0) (bz s')) 0 0)), I 0])) else False else False else bif LSpec.pre S26_0 (Nu.g n, Nu.d n, Nu.c n, 0, ByteArray.mk #[], 0, 0, s', 10, 0, 0, 1, Ty.p t, 0) then ∀ (x : Tmps), bif LSpec.pre S26_2 (Nu.g n, Nu.d n, Nu.c n, 0, ByteArray.mk #[], 0, 0, s', 0, 0, bpow 10 (Int.toNat (Ty.p t - 0)) 1, (↑(ByteArray.size s') : Int), 0) then ∀ (x : Tmps), bif Nu.g n then R (.tuple (.mk [.agg (.mk [I (IntKind.wrap .i64 (0 - Prod.fst (tkGo (bpow 10 (Int.toNat (Ty.p t - 0)) 1) (List.drop (Int.toNat 0) (bz s')) 0 0))), S (ByteArray.mk #[])]), I (Prod.snd (tkGo (bpow 10 (Int.toNat (Ty.p t - 0)) 1) (List.drop (Int.toNat 0) (bz s')) 0 0)), I 0])) else R (.tuple (.mk [.agg (.mk [I (Prod.fst (tkGo (bpow 10 (Int.toNat (Ty.p t - 0)) 1) (List.drop (Int.toNat 0) (bz s')) 0 0)), S (ByteArray.mk #[])]), I (Prod.snd (tkGo (bpow 10 (Int.toNat (Ty.p t - 0)) 1) (List.drop (Int.toNat 0) (bz s')) 0 0)), I 0])) else False else False else False else False) := by kernel_rfl
theorem ok26 : PureOK Tryz.prog 26 (sp2 s26) := by
 refine qure2 ok_H5 hmix fn26 lok26 (Nat.le_of_ble_eq_true (by kernel_rfl)) fun n t hc => ?_
 rw [DoesQ, v26]
 have hc : (n.d.size ≤ 9223372036854775807) := of_decide_eq_true hc
 try dsimp only [s26]
 have hz0 : Int.toNat 0 = 0 := rfl
 refine c_t (decide_eq_true hc) (cond_intro (fun h => ?_) (fun h => ?_))
 ·rw [tkV, if_pos (by simpa using h)]
 have hn : isNum n.g (bz n.d) n.c = true := by simpa using h
 rw [hn]
 refine cond_intro (fun q => ?_) (fun q => ?_)
 ·have q : ¬ Valid t := by simpa using q
  rw [tkV, if_neg (by rw [hn]; decide), if_pos q]
 have hv : Valid t := by simpa using q
 obtain ⟨f1, f2, f3, f4, f5⟩ := isNum_facts hn
 obtain ⟨v1, v2, v3, v4, v5⟩ := valid_facts hv
 refine c_t (by rw [decide_eq_true v4]; rfl) fun s' hs' => ?_
 have hbz : bz s' = plcR (bz n.d) n.c t.q := by rw [← hs', bz_szO (digs_isB (plc_digs f2))]
 have hsz : s'.size ≤ 1500 := by rw [← bz_length, hbz]; exact plc_len f1 f4 v4
 have hr := tkGo_rng (b := bnd t) (by omega) (plcR (bz n.d) n.c t.q) 0 0 (plc_digs f2) (by omega)
 rw [tkV, if_neg (by rw [hn]; decide), if_neg (fun z => z hv)]
 have hp2 : 2 ≤ bnd t := (Fx.bnd_range hv).1
 have key : ∀ b : Int, base t.k = b → bpow b (t.p - 0).toNat 1 = bnd t := fun b hb => by
  rw [bpow_eq, Int.one_mul, Int.sub_zero, bnd, pw, hb]
 refine cond_intro (fun hk => ?_) (fun hk => ?_)
 ·have hk2 : base t.k = 2 := by
   have : t.k = 2 := by simpa using hk
   rw [this]; rfl
  have hb := key _ hk2
  refine c_t (by simp only [S26_0, decide_eq_true_eq]; rw [hb]; refine ⟨?_, ?_, ?_, ?_, ?_, ?_⟩ <;> first | omega | trivial) fun x => ?_
  rw [hb]
  refine c_t (by simp only [S26_2, Bool.and_eq_true, decide_eq_true_eq]; exact ⟨by refine ⟨?_, ?_, ?_, ?_, ?_, ?_, ?_⟩ <;> first | omega | trivial, by rw [hbz]; exact plc_digs f2⟩) fun y => ?_
  rw [hz0, List.drop_zero, hbz, w64 (n := 0 - (tkGo (bnd t) (plcR (bz n.d) n.c t.q) 0 0).1) (by omega), tkR]
  refine cond_intro (fun h => ?_) (fun h => ?_)
  ·rw [if_pos h, Int.zero_sub]
  ·rw [if_neg (by rw [h]; decide)]
 ·have hk2 : base t.k = 10 := by
   have : ¬ t.k = 2 := by simpa using hk
   rw [v5.resolve_right this]; rfl
  have hb := key _ hk2
  refine c_t (by simp only [S26_0, decide_eq_true_eq]; rw [hb]; refine ⟨?_, ?_, ?_, ?_, ?_, ?_⟩ <;> first | omega | trivial) fun x => ?_
  rw [hb]
  refine c_t (by simp only [S26_2, Bool.and_eq_true, decide_eq_true_eq]; exact ⟨by refine ⟨?_, ?_, ?_, ?_, ?_, ?_, ?_⟩ <;> first | omega | trivial, by rw [hbz]; exact plc_digs f2⟩) fun y => ?_
  rw [hz0, List.drop_zero, hbz, w64 (n := 0 - (tkGo (bnd t) (plcR (bz n.d) n.c t.q) 0 0).1) (by omega), tkR]
  refine cond_intro (fun h => ?_) (fun h => ?_)
  ·rw [if_pos h, Int.zero_sub]
  ·rw [if_neg (by rw [h]; decide)]
end Go.Cx
end
noncomputable section
set_option maxHeartbeats 3200000
namespace Go.Cx
open Go Go.Ab Go.Proofs Go.Shelf Go.Px Go.Cv
open Go.Fx (Ty Vl check Valid most base pw bnd Fit fits tv vv tup V0 T0 pw_zero pw_succ wrap_mul pw_w64 str0)
structure Wh where
 n : Int
 t : Ty
instance : Enc Wh where
 enc x := .agg ⟨[.int .i64 x.n, .int .i64 x.t.k, .int .i64 x.t.p, .int .i64 x.t.q, .bool x.t.v, .string x.t.s]⟩
 dec | .agg ⟨[.int .i64 n, .int .i64 k, .int .i64 p, .int .i64 q, .bool v, .string s]⟩ => some ⟨n, ⟨k, p, q, v, s⟩⟩ | _ => none
 dec_some := by
  intro v a h
  split at h
  ·cases h; rfl
  ·cases h
 plain_enc _ := rfl
def wid (t : Ty) : Int := if t.k = 2 then 1 + (100 * t.p + 331) / 332 + 3 else t.p + 3
def fixU (n q : Int) : List Int := rep48 (q + 1 - (itoZ n).length).toNat ++ itoZ n
def fixD (n q : Int) : List Int := if q > 0 then (fixU n q).take ((fixU n q).length - q.toNat) ++ 46 :: (fixU n q).drop ((fixU n q).length - q.toNat) else itoZ n
def fixS (n q : Int) : List Int := if n < 0 then 45 :: fixD (-n) q else fixD n q
def txtZ (n : Int) (t : Ty) : List Int := List.replicate (wid t - (fixS n t.q).length).toNat 32 ++ fixS n t.q
def K5 : Env := ((K4.add 22 (sp2 s22)).addG 29 (hideS (sp1 s29))).addG 30 (hideS (sp2 s30))
theorem ok_K5 : EnvOK Tryz.prog K5 := env_addG (env_addG (env_add ok_K4 ok22) (gen_hideS ok29)) (gen_hideS ok30)
def s112 (t : Ty) : Bool × Value := (decide (0 ≤ t.p ∧ t.p ≤ 1000), I (wid t))
theorem fn112 : Fn1 Tryz.prog 112 Tryz.f112 := ⟨Tryz.func112, by kernel_rfl, by kernel_rfl, by kernel_rfl⟩
theorem v112 (t : Ty) (R : Value → Prop) : bodyQ Tryz.prog K5 noL Tryz.f112 [Enc.enc t] (fun _ => none) 0 (fun v _ _ => R v) = ( bif Ty.k t == 2 then R (I (IntKind.wrap .i64 (IntKind.wrap .i64 (1 + IntKind.wrap .i64 (Int.tdiv (IntKind.wrap .i64 (IntKind.wrap .i64 (100 * Ty.p t) + 331)) 332)) + 3))) else R (I (IntKind.wrap .i64 (Ty.p t + 3)))) := by kernel_rfl
theorem ok112 : PureOK Tryz.prog 112 (sp1 s112) := by
 refine qure1 ok_K5 hmix fn112 lokf_none (Nat.le_of_ble_eq_true (by kernel_rfl)) fun t hc => ?_
 rw [DoesQ, v112]
 have hc : (0 ≤ t.p ∧ t.p ≤ 1000) := of_decide_eq_true hc
 try dsimp only [s112]
 unfold wid
 refine cond_intro (fun h => ?_) (fun h => ?_)
 ·have h : t.k = 2 := eq_of_beq h
  have hd : (100 * t.p + 331).tdiv 332 = (100 * t.p + 331) / 332 := Int.tdiv_eq_ediv_of_nonneg (by omega)
  rw [if_pos h, w64 (n := 100 * t.p) (by omega), w64 (n := 100 * t.p + 331) (by omega), hd, w64 (n := (100 * t.p + 331) / 332) (by omega), w64 (n := 1 + (100 * t.p + 331) / 332) (by omega), w64 (by omega)]
 ·have h : ¬ t.k = 2 := by simpa using h
  rw [if_neg h, w64 (by omega)]
def K6 : Env := (K5.add 112 (sp1 s112))
theorem ok_K6 : EnvOK Tryz.prog K6 := env_add (ok_K5) ok112
def s321 (x : Wh) : Bool × Value := (decide (Valid x.t ∧ -2147483648 ≤ x.n ∧ x.n ≤ 2147483648), S (szO (txtZ x.n x.t)))
theorem fn321 : Fn1 Tryz.prog 321 Tryz.f321 := ⟨Tryz.func321, by kernel_rfl, by kernel_rfl, by kernel_rfl⟩
def k321 (sg s' : ByteArray) (x : Wh) (R : Value → Prop) : Prop :=
 bif decide (Ty.q (Wh.t x) > 0) then bif decide (0 ≤ imax (IntKind.wrap IntKind.i64 (IntKind.wrap IntKind.i64 (Ty.q (Wh.t x) + 1) - (↑(ByteArray.size s') : Int))) 0 ∧ imax (IntKind.wrap IntKind.i64 (IntKind.wrap IntKind.i64 (Ty.q (Wh.t x) + 1) - (↑(ByteArray.size s') : Int))) (0 : Int) ≤ 1000 ∧ ByteArray.size (ByteArray.mk #[48]) ≤ 1000) then ∀ (s'_1 : ByteArray), szO (repZ (bz (ByteArray.mk #[48])) (Int.toNat (imax (IntKind.wrap IntKind.i64 (IntKind.wrap IntKind.i64 (Ty.q (Wh.t x) + 1) - (↑(ByteArray.size s') : Int))) 0))) = s'_1 → bif strFit (ByteArray.size s'_1 + ByteArray.size s') then bif decide ((0 : Int) ≤ 0 ∧ 0 ≤ IntKind.wrap IntKind.i64 ((↑(ByteArray.size (s'_1 ++ s')) : Int) - Ty.q (Wh.t x)) ∧ IntKind.wrap IntKind.i64 ((↑(ByteArray.size (s'_1 ++ s')) : Int) - Ty.q (Wh.t x)) ≤ (↑(ByteArray.size (s'_1 ++ s')) : Int)) then bif strFit (ByteArray.size (ByteArray.extract (s'_1 ++ s') 0 (Int.toNat (IntKind.wrap IntKind.i64 ((↑(ByteArray.size (s'_1 ++ s')) : Int) - Ty.q (Wh.t x))))) + ByteArray.size (ByteArray.mk #[46])) then bif decide (0 ≤ IntKind.wrap IntKind.i64 ((↑(ByteArray.size (s'_1 ++ s')) : Int) - Ty.q (Wh.t x)) ∧ IntKind.wrap IntKind.i64 ((↑(ByteArray.size (s'_1 ++ s')) : Int) - Ty.q (Wh.t x)) ≤ (↑(ByteArray.size (s'_1 ++ s')) : Int) ∧ (↑(ByteArray.size (s'_1 ++ s')) : Int) ≤ (↑(ByteArray.size (s'_1 ++ s')) : Int)) then bif strFit (ByteArray.size (ByteArray.extract (s'_1 ++ s') 0 (Int.toNat (IntKind.wrap IntKind.i64 ((↑(ByteArray.size (s'_1 ++ s')) : Int) - Ty.q (Wh.t x)))) ++ ByteArray.mk #[46]) + ByteArray.size (ByteArray.extract (s'_1 ++ s') (Int.toNat (IntKind.wrap IntKind.i64 ((↑(ByteArray.size (s'_1 ++ s')) : Int) - Ty.q (Wh.t x)))) (ByteArray.size (s'_1 ++ s')))) then bif strFit (ByteArray.size sg + ByteArray.size (ByteArray.extract (s'_1 ++ s') 0 (Int.toNat (IntKind.wrap IntKind.i64 ((↑(ByteArray.size (s'_1 ++ s')) : Int) - Ty.q (Wh.t x)))) ++ ByteArray.mk #[46] ++ ByteArray.extract (s'_1 ++ s') (Int.toNat (IntKind.wrap IntKind.i64 ((↑(ByteArray.size (s'_1 ++ s')) : Int) - Ty.q (Wh.t x)))) (ByteArray.size (s'_1 ++ s')))) then bif decide (0 ≤ Ty.p (Wh.t x) ∧ Ty.p (Wh.t x) ≤ 1000) then bif decide (0 ≤ imax (IntKind.wrap IntKind.i64 (wid (Wh.t x) - (↑(ByteArray.size (sg ++ (ByteArray.extract (s'_1 ++ s') 0 (Int.toNat (IntKind.wrap IntKind.i64 ((↑(ByteArray.size (s'_1 ++ s')) : Int) - Ty.q (Wh.t x)))) ++ ByteArray.mk #[46] ++ ByteArray.extract (s'_1 ++ s') (Int.toNat (IntKind.wrap IntKind.i64 ((↑(ByteArray.size (s'_1 ++ s')) : Int) - Ty.q (Wh.t x)))) (ByteArray.size (s'_1 ++ s'))))) : Int))) 0 ∧ imax (IntKind.wrap IntKind.i64 (wid (Wh.t x) - (↑(ByteArray.size (sg ++ (ByteArray.extract (s'_1 ++ s') 0 (Int.toNat (IntKind.wrap IntKind.i64 ((↑(ByteArray.size (s'_1 ++ s')) : Int) - Ty.q (Wh.t x)))) ++ ByteArray.mk #[46] ++ ByteArray.extract (s'_1 ++ s') (Int.toNat (IntKind.wrap IntKind.i64 ((↑(ByteArray.size (s'_1 ++ s')) : Int) - Ty.q (Wh.t x)))) (ByteArray.size (s'_1 ++ s'))))) : Int))) 0 ≤ 1000 ∧ ByteArray.size (ByteArray.mk #[32]) ≤ 1000) then ∀ (s'_2 : ByteArray), szO (repZ (bz (ByteArray.mk #[32])) (Int.toNat (imax (IntKind.wrap IntKind.i64 (wid (Wh.t x) - (↑(ByteArray.size (sg ++ (ByteArray.extract (s'_1 ++ s') 0 (Int.toNat (IntKind.wrap IntKind.i64 ((↑(ByteArray.size (s'_1 ++ s')) : Int) - Ty.q (Wh.t x)))) ++ ByteArray.mk #[46] ++ ByteArray.extract (s'_1 ++ s') (Int.toNat (IntKind.wrap IntKind.i64 ((↑(ByteArray.size (s'_1 ++ s')) : Int) - Ty.q (Wh.t x)))) (ByteArray.size (s'_1 ++ s'))))) : Int))) 0))) = s'_2 → bif strFit (ByteArray.size s'_2 + ByteArray.size (sg ++ (ByteArray.extract (s'_1 ++ s') 0 (Int.toNat (IntKind.wrap IntKind.i64 ((↑(ByteArray.size (s'_1 ++ s')) : Int) - Ty.q (Wh.t x)))) ++ ByteArray.mk #[46] ++ ByteArray.extract (s'_1 ++ s') (Int.toNat (IntKind.wrap IntKind.i64 ((↑(ByteArray.size (s'_1 ++ s')) : Int) - Ty.q (Wh.t x)))) (ByteArray.size (s'_1 ++ s'))))) then R (Value.string (s'_2 ++ (sg ++ (ByteArray.extract (s'_1 ++ s') 0 (Int.toNat (IntKind.wrap IntKind.i64 ((↑(ByteArray.size (s'_1 ++ s')) : Int) - Ty.q (Wh.t x)))) ++ ByteArray.mk #[46] ++ ByteArray.extract (s'_1 ++ s') (Int.toNat (IntKind.wrap IntKind.i64 ((↑(ByteArray.size (s'_1 ++ s')) : Int) - Ty.q (Wh.t x)))) (ByteArray.size (s'_1 ++ s')))))) else False else False else False else False else False else False else False else False else False else False else bif strFit (ByteArray.size sg + ByteArray.size s') then bif decide (0 ≤ Ty.p (Wh.t x) ∧ Ty.p (Wh.t x) ≤ 1000) then bif decide (0 ≤ imax (IntKind.wrap IntKind.i64 (wid (Wh.t x) - (↑(ByteArray.size (sg ++ s')) : Int))) 0 ∧ imax (IntKind.wrap IntKind.i64 (wid (Wh.t x) - (↑(ByteArray.size (sg ++ s')) : Int))) (0 : Int) ≤ 1000 ∧ ByteArray.size (ByteArray.mk #[32]) ≤ 1000) then ∀ (s'_1 : ByteArray), szO (repZ (bz (ByteArray.mk #[32])) (Int.toNat (imax (IntKind.wrap IntKind.i64 (wid (Wh.t x) - (↑(ByteArray.size (sg ++ s')) : Int))) 0))) = s'_1 → bif strFit (ByteArray.size s'_1 + ByteArray.size (sg ++ s')) then R (Value.string (s'_1 ++ (sg ++ s'))) else False else False else False else False
theorem ito_len {m : Int} (h : 0 ≤ m ∧ m ≤ 2147483648) : (itoZ m).length ≤ 10 := by
 obtain ⟨k, rfl⟩ : ∃ k : Nat, m = (k : Int) := ⟨m.toNat, by omega⟩
 rw [itoZ, Lib.itoa_nonneg, zl, List.length_map]
 exact decD_len 9 k (by omega)
theorem ito_isB (n : Int) : IsB (itoZ n) := zl_isB _
theorem rep32_isB (k : Nat) : IsB (List.replicate k 32) := fun c hc => by rw [List.eq_of_mem_replicate hc]; omega
theorem rep48_isB (k : Nat) : IsB (rep48 k) := fun c hc => by rw [List.eq_of_mem_replicate hc]; omega
theorem repZ_at (c : Int) : ∀ n, repZ [c] n = List.replicate n c
 | 0 => rfl
 | n + 1 => by rw [repZ, repZ_at c n]; rfl
theorem fitN {n : Nat} (h : n ≤ 100000) : strFit n = true := by simp only [strFit, Nat.ble_eq]; omega
theorem imax_eq (a b : Int) : imax a b = max a b := by unfold imax; split <;> omega
theorem k321f (sg D X : ByteArray) (t : Ty) (hp : 0 ≤ t.p ∧ t.p ≤ 31) (hw : 0 ≤ wid t ∧ wid t ≤ 100) (hs : sg.size ≤ 1) (hD : D.size ≤ 100) (hX : bz X = List.replicate (wid t - (bz sg ++ bz D).length).toNat 32 ++ (bz sg ++ bz D)) :
  bif strFit (ByteArray.size sg + ByteArray.size D) then bif decide (0 ≤ Ty.p t ∧ Ty.p t ≤ 1000) then
   bif decide (0 ≤ imax (IntKind.wrap IntKind.i64 (wid t - (↑(ByteArray.size (sg ++ D)) : Int))) 0 ∧ imax (IntKind.wrap IntKind.i64 (wid t - (↑(ByteArray.size (sg ++ D)) : Int))) (0 : Int) ≤ 1000 ∧ ByteArray.size (ByteArray.mk #[32]) ≤ 1000) then
    ∀ s2 : ByteArray, szO (repZ (bz (ByteArray.mk #[32])) (Int.toNat (imax (IntKind.wrap IntKind.i64 (wid t - (↑(ByteArray.size (sg ++ D)) : Int))) 0))) = s2 →
     bif strFit (ByteArray.size s2 + ByteArray.size (sg ++ D)) then Value.string (s2 ++ (sg ++ D)) = Value.string X else False
   else False else False else False := by
 have hz : (sg ++ D).size = sg.size + D.size := ByteArray.size_append
 rw [w64 (n := wid t - ((sg ++ D).size : Int)) (by omega), imax_eq]
 refine c_t (fitN (by omega)) (c_t (decide_eq_true (by omega)) (c_t (decide_eq_true ⟨by omega, by omega, by decide⟩) fun s2 e2 => ?_))
 have b2 : bz s2 = List.replicate (wid t - (bz sg ++ bz D).length).toNat 32 := by
  rw [← e2, show bz (ByteArray.mk #[32]) = [32] from rfl, repZ_at, bz_szO (rep32_isB _), List.length_append, bz_length, bz_length]
  congr 1
  omega
 have z2 : s2.size ≤ 100 := by rw [← bz_length, b2, List.length_replicate]; omega
 refine c_t (fitN (by omega)) ?_
 congr 1
 rw [← sz_bz (s2 ++ (sg ++ D)), ← sz_bz X, bz_append, bz_append, b2, hX]
theorem k321_ok (sg s' : ByteArray) (x : Wh) (m : Int) (h : szO (itoZ m) = s') (hm : 0 ≤ m ∧ m ≤ 2147483648) (hv : Valid x.t) (hs : sg.size ≤ 1) (hg : IsB (bz sg)) :
  k321 sg s' x (fun v => v = .string (szO (List.replicate (wid x.t - (bz sg ++ fixD m x.t.q).length).toNat 32 ++ (bz sg ++ fixD m x.t.q)))) := by
 unfold k321
 obtain ⟨n, t⟩ := x
 simp only at hv ⊢
 obtain ⟨v1, v2, v3, v4, v5⟩ := Fx.valid_r hv
 have hw : 0 ≤ wid t ∧ wid t ≤ 100 := by unfold wid; split <;> omega
 have b1 : bz s' = itoZ m := by rw [← h, bz_szO (ito_isB _)]
 have z1 : s'.size ≤ 10 := by rw [← bz_length, b1]; exact ito_len hm
 have hX : ∀ l, IsB l → bz (szO (List.replicate (wid t - (bz sg ++ l).length).toNat 32 ++ (bz sg ++ l))) = List.replicate (wid t - (bz sg ++ l).length).toNat 32 ++ (bz sg ++ l) := fun l hl => bz_szO ((rep32_isB _).append (hg.append hl))
 refine cond_intro (fun hq => ?_) (fun hq => ?_)
 ·have hq : t.q > 0 := of_decide_eq_true hq
  rw [w64 (n := t.q + 1) (by omega), w64 (n := t.q + 1 - (s'.size : Int)) (by omega), imax_eq]
  refine c_t (decide_eq_true ⟨by omega, by omega, by decide⟩) fun s1 e1 => ?_
  have c1 : bz s1 = rep48 (t.q + 1 - (itoZ m).length).toNat := by
   rw [← e1, show bz (ByteArray.mk #[48]) = [48] from rfl, repZ_at, bz_szO (l := List.replicate _ 48) (rep48_isB _), ← b1, bz_length]
   rw [rep48]
   congr 1
   omega
  have y1 : (s1.size : Int) = max (t.q + 1 - (s'.size : Int)) 0 := by rw [← bz_length, c1, rep48, List.length_replicate, ← b1, bz_length]; omega
  have hu : bz (s1 ++ s') = fixU m t.q := by rw [bz_append, c1, b1]; rfl
  have zu : (s1 ++ s').size = s1.size + s'.size := ByteArray.size_append
  generalize s1 ++ s' = u at *
  rw [w64 (n := (u.size : Int) - t.q) (by omega)]
  have e3 : bz (u.extract 0 ((u.size : Int) - t.q).toNat) = (fixU m t.q).take ((fixU m t.q).length - t.q.toNat) := by
   rw [bz_take, hu, ← hu, bz_length]; congr 1; omega
  have e4 : bz (u.extract ((u.size : Int) - t.q).toNat u.size) = (fixU m t.q).drop ((fixU m t.q).length - t.q.toNat) := by
   rw [bz_dropE, hu, ← hu, bz_length]; congr 1; omega
  have z3 : (u.extract 0 ((u.size : Int) - t.q).toNat).size = u.size - t.q.toNat := by rw [ex_size]; omega
  have z4 : (u.extract ((u.size : Int) - t.q).toNat u.size).size = t.q.toNat := by rw [ex_size]; omega
  generalize u.extract 0 ((u.size : Int) - t.q).toNat = a at *
  generalize u.extract ((u.size : Int) - t.q).toNat u.size = b at *
  have n46 : (ByteArray.mk #[46]).size = 1 := rfl
  have hD : bz (a ++ ByteArray.mk #[46] ++ b) = fixD m t.q := by
   rw [bz_append, bz_append, e3, e4, fixD, if_pos hq, show bz (ByteArray.mk #[46]) = [46] from rfl, List.append_assoc]
   rfl
  have zD : (a ++ ByteArray.mk #[46] ++ b).size = a.size + 1 + b.size := by rw [ByteArray.size_append, ByteArray.size_append, n46]
  refine c_t (fitN (by omega)) (c_t (decide_eq_true (by omega)) (c_t (fitN (by rw [n46]; omega)) (c_t (decide_eq_true (by omega)) (c_t (fitN (by rw [ByteArray.size_append, n46]; omega)) ?_))))
  rw [← hD]
  exact k321f sg _ _ t (by omega) hw hs (by omega) (hX _ (bz_isB _))
 ·have hq : ¬ t.q > 0 := of_decide_eq_false hq
  have hD : bz s' = fixD m t.q := by rw [b1, fixD, if_neg hq]
  rw [← hD]
  exact k321f sg _ _ t (by omega) hw hs (by omega) (hX _ (bz_isB _))
theorem v321 (x : Wh) (R : Value → Prop) : bodyQ Tryz.prog K6 noL Tryz.f321 [Enc.enc x] (fun _ => none) 0 (fun v _ _ => R v) = ( bif decide (Wh.n x < 0) then bif decide (-9223372036854775808 ≤ IntKind.wrap .i64 (0 - Wh.n x) ∧ IntKind.wrap .i64 (0 - Wh.n x) ≤ 9223372036854775807) then ∀ (s' : ByteArray), szO (itoZ (IntKind.wrap .i64 (0 - Wh.n x))) = s' → k321 ⟨#[45]⟩ s' x R else False else bif decide (-9223372036854775808 ≤ Wh.n x ∧ Wh.n x ≤ 9223372036854775807) then ∀ (s' : ByteArray), szO (itoZ (Wh.n x)) = s' → k321 ⟨#[]⟩ s' x R else False) := by kernel_rfl
theorem ok321 : PureOK Tryz.prog 321 (sp1 s321) := by
 refine qure1 ok_K6 hmix fn321 lokf_none (Nat.le_of_ble_eq_true (by kernel_rfl)) fun x hc => ?_
 rw [DoesQ, v321]
 have hc : (Valid x.t ∧ -2147483648 ≤ x.n ∧ x.n ≤ 2147483648) := of_decide_eq_true hc
 try dsimp only [s321]
 obtain ⟨hv, h1, h2⟩ := hc
 refine cond_intro (fun h => ?_) (fun h => ?_)
 ·have h : x.n < 0 := of_decide_eq_true h
  rw [w64 (n := 0 - x.n) (by omega)]
  refine c_t (decide_eq_true (by omega)) fun s' e => ?_
  have := k321_ok ⟨#[45]⟩ s' x (0 - x.n) e (by omega) hv (by decide) (bz_isB _)
  rw [txtZ, fixS, if_pos h, show -x.n = 0 - x.n by omega]
  exact this
 ·have h : ¬ x.n < 0 := of_decide_eq_false h
  refine c_t (decide_eq_true (by omega)) fun s' e => ?_
  have := k321_ok ⟨#[]⟩ s' x x.n e (by omega) hv (by decide) (bz_isB _)
  rw [txtZ, fixS, if_neg h]
  exact this
end Go.Cx
end
section
namespace Go.Cx
open Go Go.Proofs Go.RowKit Go.Extern.Stop Go.Stop Go.Extern
theorem as_nil (t : Value) (w : World) :
  Calls Tryz.prog 100 #[.nilIface, t] w fun e w' => e = .returned (.bool false) ∧ w' = w := by
 go_enter Tryz.func100, Tryz.ntmps100
 go_wp2
 go_ret
 exact ⟨rfl, rfl⟩
abbrev rt (t : Nat) : Value := .pointer (some ⟨10, t, none⟩)
theorem a_valueOf121 (t : Addr) (w : World) : (ReflectliteValue.unpack (.iface 121 (.pointer (some t)))).run Tryz.prog w
  = .ok (.agg #[.pointer (some ⟨10, 121, none⟩), .pointer (some ⟨w.heap.size, 0, none⟩), .int .u64 150]) (w.alloc (.cells #[.pointer (some t)] 121)) := by kernel_rfl
theorem a_type121 (a : Addr) (w : World) : (ReflectliteValue.methodAny (ReflectliteValue.valueError "reflectlite.Value.Type" 0) (fun t _ _ _ => ReflectliteType.toType t) #[.agg #[.pointer (some ⟨10, 121, none⟩), .pointer (some a), .int .u64 150]]).run Tryz.prog w
  = .ok (.iface 229 (.agg #[.pointer (some ⟨10, 121, none⟩)])) w := by kernel_rfl
theorem a_kind121 (w : World) : ((ReflectliteType.abiMethod fun t => (fun a : Nat => Value.int IntKind.u8 (a : Int)) <$> Rtype.kind t) #[.pointer (some ⟨10, 121, none⟩)]).run Tryz.prog w = .ok (.int .u8 22) w := by kernel_rfl
theorem a_kind119 (w : World) : ((ReflectliteType.abiMethod fun t => (fun a : Nat => Value.int IntKind.u8 (a : Int)) <$> Rtype.kind t) #[.pointer (some ⟨10, 119, none⟩)]).run Tryz.prog w = .ok (.int .u8 25) w := by kernel_rfl
theorem a_rlm (z : Sem Value) (f : TypeId → Addr → Nat → Nat → Sem Value) (v : Value) :
  ReflectliteValue.method z f #[v] = (do match ← ReflectliteValue.parts v with | none => z | some (t, a, fl) => f t a fl (fl % 32)) := rfl
theorem a_parts121 (a : Addr) (w : World) : (ReflectliteValue.parts (.agg #[.pointer (some ⟨10, 121, none⟩), .pointer (some a), .int .u64 150])).run Tryz.prog w = .ok (some (121, a, 150)) w := by kernel_rfl
theorem a_isNil121 (a p : Addr) (W : World) (ha : W.cell? a = some (.pointer (some p))) :
  (ReflectliteValue.method (ReflectliteValue.valueError "reflectlite.Value.IsNil" 0) ReflectliteValue.isNil #[.agg #[.pointer (some ⟨10, 121, none⟩), .pointer (some a), .int .u64 150]]).run Tryz.prog W = .ok (.bool false) W := by
 rw [a_rlm]
 simp only [Sem.run_bind, a_parts121, Result.andThen]
 simp [ReflectliteValue.isNil, loadVar, isAgg, underlying, Tryz.underlying121, ha, Result.andThen]
theorem a_methodKind (h : Value) (w : World) : (Go.method 421 229 (.agg #[h]) "Kind").run Tryz.prog w = .ok (316, h) w := by kernel_rfl
theorem a_methodElem (h : Value) (w : World) : (Go.method 421 229 (.agg #[h]) "Elem").run Tryz.prog w = .ok (331, .agg #[h]) w := by kernel_rfl
theorem a_methodImplements (h : Value) (w : World) : (Go.method 421 229 (.agg #[h]) "Implements").run Tryz.prog w = .ok (332, .agg #[h]) w := by kernel_rfl
theorem a_methodAssignableTo (h : Value) (w : World) : (Go.method 421 229 (.agg #[h]) "AssignableTo").run Tryz.prog w = .ok (329, .agg #[h]) w := by kernel_rfl
theorem a_elem121 (w : World) : (ReflectliteType.method ReflectliteType.elem #[.agg #[.pointer (some ⟨10, 121, none⟩)]]).run Tryz.prog w = .ok (.iface 229 (.agg #[.pointer (some ⟨10, 119, none⟩)])) w := by kernel_rfl
theorem a_implements119 (w : World) : (ReflectliteType.relation "Implements" ReflectliteType.implements_ #[.agg #[.pointer (some ⟨10, 119, none⟩)], .iface 229 (.agg #[.pointer (some ⟨10, 105, none⟩)])]).run Tryz.prog w = .ok (.bool true) w := by kernel_rfl
theorem a_typeOf119 (v : Value) (w : World) : (ReflectliteType.typeOf #[.iface 119 v]).run Tryz.prog w = .ok (.iface 229 (.agg #[.pointer (some ⟨10, 119, none⟩)])) w := by kernel_rfl
theorem a_assignable119 (w : World) : (ReflectliteType.relation "AssignableTo" ReflectliteType.assignableTo #[.agg #[.pointer (some ⟨10, 119, none⟩)], .iface 229 (.agg #[.pointer (some ⟨10, 119, none⟩)])]).run Tryz.prog w = .ok (.bool true) w := by kernel_rfl
theorem a_valueOf119 (s : ByteArray) (w : World) : (ReflectliteValue.unpack (.iface 119 (.agg #[.string s]))).run Tryz.prog w
  = .ok (.agg #[.pointer (some ⟨10, 119, none⟩), .pointer (some ⟨w.heap.size, 0, none⟩), .int .u64 153]) (w.alloc (.cells #[.string s] 119)) := by kernel_rfl
theorem a_elemOf121 (w : World) : (Rtype.elem? 121).run Tryz.prog w = .ok (some 119) w := by kernel_rfl
theorem a_mk119 (p : Addr) (w : World) : (ReflectliteValue.mk 119 p ReflectliteValue.flagAddr).run Tryz.prog w = .ok (.agg #[.pointer (some ⟨10, 119, none⟩), .pointer (some p), .int .u64 409]) w := by kernel_rfl
theorem a_elemV121 (a p : Addr) (W : World) (ha : W.cell? a = some (.pointer (some p))) :
  (ReflectliteValue.method (ReflectliteValue.valueError "reflectlite.Value.Elem" 0) ReflectliteValue.elem #[.agg #[.pointer (some ⟨10, 121, none⟩), .pointer (some a), .int .u64 150]]).run Tryz.prog W
   = .ok (.agg #[.pointer (some ⟨10, 119, none⟩), .pointer (some p), .int .u64 409]) W := by
 rw [a_rlm]
 simp only [Sem.run_bind, a_parts121, Result.andThen]
 simp [ReflectliteValue.elem, loadVar, isAgg, underlying, Tryz.underlying121, ha, Result.andThen, a_elemOf121, a_mk119]
theorem a_rls (v x : Value) : ReflectliteValue.set #[v, x] = (do
  let (some (dst, a, fl), some (src, b, _)) := (← ReflectliteValue.parts v, ← ReflectliteValue.parts x)
   | unsupported (.noEntry "extern/(internal/reflectlite.Value).Set.zeroValue")
  if fl / ReflectliteValue.flagAddr % 2 == 0 then unsupported (.noEntry "extern/(internal/reflectlite.Value).Set.unaddressable")
  let val ← loadVar src b
  if ← Rtype.directlyAssignable dst src then storeVar dst a val
  else if ← Rtype.implements dst src then
   if (← Rtype.kind src) == 20 then
    match val with
    | .nilIface => unsupported (.noEntry "extern/reflectlite: a nil value of one interface type handed on as a value of another")
    | _ => storeVar dst a val
   else storeVar dst a (.iface src val)
  else panicString ("reflectlite.Set: value of type " ++ (← Rtype.spelt src) ++ " is not assignable to type " ++ (← Rtype.spelt dst))
  pure (.tuple #[])) := rfl
theorem a_parts119a (a : Addr) (w : World) : (ReflectliteValue.parts (.agg #[.pointer (some ⟨10, 119, none⟩), .pointer (some a), .int .u64 409])).run Tryz.prog w = .ok (some (119, a, 409)) w := by kernel_rfl
theorem a_parts119 (a : Addr) (w : World) : (ReflectliteValue.parts (.agg #[.pointer (some ⟨10, 119, none⟩), .pointer (some a), .int .u64 153])).run Tryz.prog w = .ok (some (119, a, 153)) w := by kernel_rfl
theorem a_direct119 (w : World) : (Rtype.directlyAssignable 119 119).run Tryz.prog w = .ok true w := by kernel_rfl
theorem a_size119 (w : World) : (sizeOf 119).run Tryz.prog w = .ok 1 w := by kernel_rfl
theorem a_load119 (b : Addr) (s : ByteArray) (W : World) (hb : W.cell? b = some (.string s)) (hs : b.spot = none) : (loadVar 119 b).run Tryz.prog W = .ok (.agg #[.string s]) W := by
 obtain ⟨bb, bo, bs⟩ := b
 subst hs
 simp [loadVar, isAgg, underlying, Tryz.underlying119, a_size119, loadCells, loadCellsFrom, Addr.add, hb, Result.andThen]
theorem a_set119 (ta b : Addr) (s : ByteArray) (old : Value) (W : World) (hb : W.cell? b = some (.string s)) (hs : b.spot = none) (ht : W.cell? ta = some old) (hts : ta.spot = none) (hf : W.frozen? ta = false) :
  (ReflectliteValue.set #[.agg #[.pointer (some ⟨10, 119, none⟩), .pointer (some ta), .int .u64 409], .agg #[.pointer (some ⟨10, 119, none⟩), .pointer (some b), .int .u64 153]]).run Tryz.prog W
   = .ok (.tuple #[]) (W.setCell ta (.string s)) := by
 obtain ⟨tb, tq, ts⟩ := ta
 subst hts
 rw [a_rls]
 simp only [Sem.run_bind, a_parts119a, a_parts119, Result.andThen]
 have hl := a_load119 b s W hb hs
 have hd := a_direct119 W
 simp [ReflectliteValue.flagAddr, hl, hd, storeVar, Value.cells, storeCells, Addr.add, a_size119, Result.andThen]
 rw [run_store Tryz.prog W ⟨tb, tq, none⟩ _ _ (by rfl)]
 simp [ht, hf]
end Go.Cx
end
section
namespace Go.Cx
open Go Go.Proofs Go.RowKit Go.Extern.Stop Go.Stop Go.Extern Go.Shelf
set_option maxRecDepth 100000 in
set_option maxHeartbeats 4000000 in
theorem as_hit (s : ByteArray) (t : Addr) (old : Value) (w : World) (hg : w.cell? ⟨0, 0, none⟩ = some (.iface 229 (.agg #[.pointer (some ⟨10, 105, none⟩)]))) (hts : t.spot = none) (ht0 : w.cell? t = some old) (hf0 : w.frozen? t = false) :
  Calls Tryz.prog 100 #[.iface 119 (.agg #[.string s]), .iface 121 (.pointer (some t))] w fun ev w' => ev = .returned (.bool true) ∧ w' = ((((w.alloc (.cells #[.pointer (some t)] 121)).alloc (.cells #[.pointer (some ⟨10, 121, none⟩), .pointer (some ⟨w.heap.size, 0, none⟩), .int .u64 150] 187)).alloc (.cells #[.pointer (some ⟨10, 121, none⟩), .pointer (some ⟨w.heap.size, 0, none⟩), .int .u64 150] 187)).alloc (.cells #[.string s] 119)).setCell t (.string s) := by
 have h6 := @run_callFunc_extern Tryz.prog 172 _ (fun args => ReflectliteValue.unpack (args.getD 0 (.tuple #[]))) Tryz.func172 (by kernel_rfl) (by kernel_rfl) (by kernel_rfl) (by kernel_rfl)
 have h7 := @run_callFunc_extern Tryz.prog 173 _ (ReflectliteValue.methodAny (ReflectliteValue.valueError "reflectlite.Value.Type" 0) (fun t _ _ _ => ReflectliteType.toType t)) Tryz.func173 (by kernel_rfl) (by kernel_rfl) (by kernel_rfl) (by kernel_rfl)
 have h8 := @run_callFunc_extern Tryz.prog 174 _ (ReflectliteValue.method (ReflectliteValue.valueError "reflectlite.Value.IsNil" 0) ReflectliteValue.isNil) Tryz.func174 (by kernel_rfl) (by kernel_rfl) (by kernel_rfl) (by kernel_rfl)
 have h27 := @run_callFunc_extern Tryz.prog 316 _ (ReflectliteType.abiMethod fun t => do pure (.int .u8 (← Rtype.kind t))) Tryz.func316 (by kernel_rfl) (by kernel_rfl) (by kernel_rfl) (by kernel_rfl)
 have h37 := @run_callFunc_extern Tryz.prog 331 _ (ReflectliteType.method ReflectliteType.elem) Tryz.func331 (by kernel_rfl) (by kernel_rfl) (by kernel_rfl) (by kernel_rfl)
 have h38 := @run_callFunc_extern Tryz.prog 332 _ (ReflectliteType.relation "Implements" ReflectliteType.implements_) Tryz.func332 (by kernel_rfl) (by kernel_rfl) (by kernel_rfl) (by kernel_rfl)
 have h10 := @run_callFunc_extern Tryz.prog 226 _ ReflectliteType.typeOf Tryz.func226 (by kernel_rfl) (by kernel_rfl) (by kernel_rfl) (by kernel_rfl)
 have h35 := @run_callFunc_extern Tryz.prog 329 _ (ReflectliteType.relation "AssignableTo" ReflectliteType.assignableTo) Tryz.func329 (by kernel_rfl) (by kernel_rfl) (by kernel_rfl) (by kernel_rfl)
 have h11 := @run_callFunc_extern Tryz.prog 227 _ (ReflectliteValue.method (ReflectliteValue.valueError "reflectlite.Value.Elem" 0) ReflectliteValue.elem) Tryz.func227 (by kernel_rfl) (by kernel_rfl) (by kernel_rfl) (by kernel_rfl)
 have h12 := @run_callFunc_extern Tryz.prog 228 _ ReflectliteValue.set Tryz.func228 (by kernel_rfl) (by kernel_rfl) (by kernel_rfl) (by kernel_rfl)
 have tO := a_typeOf119
 have mA := a_methodAssignableTo
 have a25 := a_assignable119
 have v25 := a_valueOf119
 have f6 := a_valueOf121
 have f7 := a_type121
 have mK := a_methodKind
 have mE := a_methodElem
 have mI := a_methodImplements
 have k27 := a_kind121
 have k25 := a_kind119
 have e27 := a_elem121
 have i25 := a_implements119
 have n8 := a_isNil121 ⟨w.heap.size, 0, none⟩ t ((w.alloc (.cells #[.pointer (some t)] 121)).alloc (.cells #[.pointer (some ⟨10, 121, none⟩), .pointer (some ⟨w.heap.size, 0, none⟩), .int .u64 150] 187)) (by simp)
 have hlt : 0 < w.heap.size := by
  rcases Nat.eq_zero_or_pos w.heap.size with h0 | h
  ·simp [World.cell?, h0] at hg
  ·exact h
 have hg2 : ((w.alloc (.cells #[.pointer (some t)] 121)).alloc (.cells #[.pointer (some ⟨10, 121, none⟩), .pointer (some ⟨w.heap.size, 0, none⟩), .int .u64 150] 187)).cell? ⟨0, 0, none⟩ = some (.iface 229 (.agg #[.pointer (some ⟨10, 105, none⟩)])) := by
  rw [World.cell?_alloc_lt _ _ ⟨0, 0, none⟩ (by simp), World.cell?_alloc_lt _ _ ⟨0, 0, none⟩ hlt]; exact hg
 have htl : t.block < w.heap.size := by
  rcases Nat.lt_or_ge t.block w.heap.size with h | h
  ·exact h
  ·simp [World.cell?, Array.getElem?_eq_none h] at ht0
 have el := a_elemV121 ⟨w.heap.size, 0, none⟩ t (((w.alloc (.cells #[.pointer (some t)] 121)).alloc (.cells #[.pointer (some ⟨10, 121, none⟩), .pointer (some ⟨w.heap.size, 0, none⟩), .int .u64 150] 187)).alloc (.cells #[.pointer (some ⟨10, 121, none⟩), .pointer (some ⟨w.heap.size, 0, none⟩), .int .u64 150] 187)) (by rw [World.cell?_alloc_lt _ _ ⟨w.heap.size, 0, none⟩ (by simp; omega)]; simp)
 have st := a_set119 t ⟨w.heap.size + 1 + 1 + 1, 0, none⟩ s old ((((w.alloc (.cells #[.pointer (some t)] 121)).alloc (.cells #[.pointer (some ⟨10, 121, none⟩), .pointer (some ⟨w.heap.size, 0, none⟩), .int .u64 150] 187)).alloc (.cells #[.pointer (some ⟨10, 121, none⟩), .pointer (some ⟨w.heap.size, 0, none⟩), .int .u64 150] 187)).alloc (.cells #[.string s] 119))
  (by rw [World.cell?_alloc_at _ _ _ _ (by simp)]; rfl) rfl
  (by rw [World.cell?_alloc_lt _ _ t (by simp; omega), World.cell?_alloc_lt _ _ t (by simp; omega), World.cell?_alloc_lt _ _ t (by simp; omega), World.cell?_alloc_lt _ _ t htl]; exact ht0) hts
  (by rw [World.frozen?_alloc_old _ _ t (by simp; omega), World.frozen?_alloc_old _ _ t (by simp; omega), World.frozen?_alloc_old _ _ t (by simp; omega), World.frozen?_alloc_old _ _ t (Nat.ne_of_lt htl)]; exact hf0)
 have e175 : ∀ args w, (callFunc 175 args).run Tryz.prog w = .ok (.enter 175 args) w := enters_of Tryz.func175 (by kernel_rfl) rfl
 go_enter Tryz.func100, Tryz.ntmps100
 go_wp2
 refine wp_loop_rounds 1 ?_
 rw [rounds_succ]
 go_wp2
 go_ret
 exact ⟨rfl, rfl⟩
end Go.Cx
end
noncomputable section
namespace Go.Cx
open Go Go.Ab Go.Proofs Go.RowKit
def h100 : List Value → Lk → Nat → (Value → Lk → Nat → Prop) → Prop := fun args m n K => match args with
 | [.nilIface, _] => K (.bool false) m n
 | [.iface t (.agg ⟨[.string s]⟩), .iface t' (.pointer (some ⟨k, 0, some _⟩))] => match Nat.beq t 119, Nat.beq t' 121, m k with
  | true, true, some ⟨[.string _], ty, true⟩ => match Nat.ble itTy ty with
   | false => K (.bool true) (m.upd k ⟨[.string s], ty, true⟩) n
   | true => False
  | _, _, _ => False
 | _ => False
theorem c100 : Callable Tryz.prog 100 := ⟨_, Tryz.func100, by kernel_rfl, rfl⟩
theorem tab_as {w : World} (h : TabsIn w.heap.size w) : w.cell? ⟨0, 0, none⟩ = some (.iface 229 (.agg #[.pointer (some ⟨10, 105, none⟩)])) :=
 h.cell (b := 0) rfl (i := 0) rfl
theorem gen100 : GenOK Tryz.prog 100 h100 := by
 refine ⟨c100, fun args m n K hh N w0 ι w hrel hwf hargs => ?_⟩
 unfold h100 at hh
 split at hh
 ·rename_i t
  refine (as_nil (ren ι t) w).mono fun e w' ⟨h1, h2⟩ => ?_
  subst h2
  exact ⟨.bool false, m, n, ι, by rw [h1]; rfl, hh, Nat.le_refl _, fun _ _ => rfl, hrel, hwf, by simp [ids]⟩
 ·rename_i t s t' k sp
  split at hh
  case h_2 => exact hh.elim
  rename_i old ty ht ht' hk
  split at hh
  case h_2 => exact hh.elim
  rename_i hty
  have ht := Nat.eq_of_beq_eq_true ht
  have ht' := Nat.eq_of_beq_eq_true ht'
  subst ht ht'
  obtain ⟨h1, h2, h3⟩ := hrel.blk k _ hk rfl
  rw [objOf_cells hty] at h3
  have e1 : ([.iface 119 (.agg ⟨[.string s]⟩), .iface 121 (.pointer (some ⟨k, 0, some sp⟩))] : List Value).map (ren ι) = [.iface 119 (.agg ⟨[.string s]⟩), .iface 121 (.pointer (some ⟨(ι k).1, 0, none⟩))] := by
   simp [ren, renL, ren1, h1]
  rw [e1]
  have hc : w.cell? ⟨(ι k).1, 0, none⟩ = some (.string old) := by
   simp only [World.cell?, h3]
   rfl
  have hf : w.frozen? ⟨(ι k).1, 0, none⟩ = false := by
   simp [World.frozen?, h3]
  refine (as_hit s ⟨(ι k).1, 0, none⟩ (.string old) w (tab_as hrel.tabs) rfl hc hf).mono fun e w' ⟨g1, g2⟩ => ?_
  have hb : Below w.heap.size w ((((w.alloc (.cells #[.pointer (some ⟨(ι k).1, 0, none⟩)] 121)).alloc (.cells #[.pointer (some ⟨10, 121, none⟩), .pointer (some ⟨w.heap.size, 0, none⟩), .int .u64 150] 187)).alloc (.cells #[.pointer (some ⟨10, 121, none⟩), .pointer (some ⟨w.heap.size, 0, none⟩), .int .u64 150] 187)).alloc (.cells #[.string s] 119)) :=
   ((((Below.refl _ _).alloc (Nat.le_refl _) _).alloc (by simp) _).alloc (by simp; omega) _).alloc (by simp; omega) _
  have hr := hrel.grow hb
  obtain ⟨_, _, h4⟩ := hr.blk k _ hk rfl
  rw [objOf_cells hty] at h4
  have hw := hr.write hk rfl (b' := ⟨[.string s], ty, true⟩) rfl rfl rfl (it_ble hty)
  refine ⟨.bool true, _, n, ι, by rw [g1]; rfl, hh, Nat.le_refl _, fun _ _ => rfl, ?_, fun j b hj => ?_, by simp [ids]⟩
  ·rw [g2, setCell_eq_setRow _ _ _ _ _ _ _ h4]
   exact hw
  ·by_cases e : j = k
   ·subst e
    rw [Lk.upd_same] at hj
    cases hj
    exact ⟨(hwf j _ hk).1, by simp [idsL, ids]⟩
   ·rw [Lk.upd_other _ _ e] at hj
    exact hwf j b hj
 ·exact hh.elim
end Go.Cx
end
noncomputable section
namespace Go.Cx
open Go Go.Ab Go.Proofs Go.Shelf Go.Px Go.Cv
def RdN (s : ByteArray) (b g : Bool) (d : ByteArray) (c : Int) : Prop := rdN (bz s) = none ∧ b = false ∧ g = false ∧ d = ⟨#[]⟩ ∧ c = 0 ∨ ∃ l, rdN (bz s) = some (g, l, c) ∧ d = szO l ∧ b = true
def hidN : List Value → Lk → Nat → (Value → Lk → Nat → Prop) → Prop := fun args m n K => match args with
 | [.string s] => match cnd (decide (s.size ≤ 9223372036854775807)) with
  | true => ∀ (b g : Bool) (d : ByteArray) (c : Int), RdN s b g d c → K (.tuple ⟨[.agg ⟨[.bool g, .string d, .int .i64 c]⟩, .bool b]⟩) m n
  | false => False
 | _ => False
theorem gen_hidN : GenOK Tryz.prog 24 hidN := by
 obtain ⟨hc, hp⟩ := ok24
 refine ⟨hc, fun args m n K hh N w0 ι w hrel hwf hargs => ?_⟩
 unfold hidN at hh
 split at hh
 case h_2 => exact hh.elim
 rename_i s
 split at hh
 case h_2 => exact hh.elim
 rename_i hcc
 have hs : (sp1 s24) [.string s] ([Value.string s].map (blkOf m)) = some (true, onV (rdN (bz s))) := congrArg some (Prod.ext (show (s24 s).1 = true from hcc) rfl)
 refine (hp [.string s] _ N w0 m ι w hrel hs rfl).mono fun e' w' ⟨h1, h2⟩ => ?_
 refine ⟨onV (rdN (bz s)), m, n, ι, by rw [h1]; rfl, ?_, Nat.le_refl _, fun _ _ => rfl, hrel.grow h2, hwf, by simp [ids, idsL, onV]⟩
 cases hr : rdN (bz s) with
 | none =>
  have := hh false false ⟨#[]⟩ 0 (.inl ⟨hr, rfl, rfl, rfl, rfl⟩)
  rw [← szO_nil] at this
  exact this
 | some x => exact hh true x.1 (szO x.2.1) x.2.2 (.inr ⟨x.2.1, by rw [hr], rfl, rfl⟩)
end Go.Cx
end
noncomputable section
set_option maxHeartbeats 3200000
namespace Go.Cx
open Go Go.Ab Go.Proofs Go.Shelf Go.Px Go.Cv
open Go.Fx (Ty Vl check Valid most base pw bnd Fit fits tv vv tup V0 T0 pw_zero pw_succ wrap_mul pw_w64 str0)
def s322 (s : ByteArray) : Bool × Value := (true, S s)
theorem fn322 : Fn1 Tryz.prog 322 Tryz.f322 := ⟨Tryz.func322, by kernel_rfl, by kernel_rfl, by kernel_rfl⟩
theorem v322 (s : ByteArray) (R : Value → Prop) : bodyQ Tryz.prog K6 noL Tryz.f322 [Enc.enc s] (fun _ => none) 0 (fun v _ _ => R v) = ( R (S s)) := by kernel_rfl
theorem ok322 : PureOK Tryz.prog 322 (sp1 s322) := by
 refine qure1 ok_K6 hmix fn322 lokf_none (Nat.le_of_ble_eq_true (by kernel_rfl)) fun s hc => ?_
 rw [DoesQ, v322]
 try dsimp only [s322]
def s324 (s : ByteArray) : Bool × Value := (true, S s)
theorem fn324 : Fn1 Tryz.prog 324 Tryz.f324 := ⟨Tryz.func324, by kernel_rfl, by kernel_rfl, by kernel_rfl⟩
theorem v324 (s : ByteArray) (R : Value → Prop) : bodyQ Tryz.prog K6 noL Tryz.f324 [Enc.enc s] (fun _ => none) 0 (fun v _ _ => R v) = ( R (S s)) := by kernel_rfl
theorem ok324 : PureOK Tryz.prog 324 (sp1 s324) := by
 refine qure1 ok_K6 hmix fn324 lokf_none (Nat.le_of_ble_eq_true (by kernel_rfl)) fun s hc => ?_
 rw [DoesQ, v324]
 try dsimp only [s324]
def K7 : Env := ((((((K6.addG 321 (hideS (sp1 s321))).add 322 (sp1 s322)).add 324 (sp1 s324)).addG 24 hidN).add 26 (sp2 s26)).add 77 (sp3 s77)).addG 78 (hideS (sp1 s78))
theorem ok_K7 : EnvOK Tryz.prog K7 := env_addG (env_add (env_add (env_addG (env_add (env_add (env_addG ok_K6 (gen_hideS ok321)) ok322) ok324) gen_hidN) ok26) ok77) (gen_hideS ok78)
def s115 (t : Ty) : Bool × Value := (decide (t.q ≤ t.p ∧ t.p ≤ 1000 ∧ 0 ≤ t.q), I (if t.k = 2 then t.p else (332 * (t.p - t.q) + 99) / 100))
theorem fn115 : Fn1 Tryz.prog 115 Tryz.f115 := ⟨Tryz.func115, by kernel_rfl, by kernel_rfl, by kernel_rfl⟩
theorem v115 (t : Ty) (R : Value → Prop) : bodyQ Tryz.prog K7 noL Tryz.f115 [Enc.enc t] (fun _ => none) 0 (fun v _ _ => R v) = ( bif Ty.k t == 2 then R (I (Ty.p t)) else R (I (IntKind.wrap .i64 (Int.tdiv (IntKind.wrap .i64 (IntKind.wrap .i64 (332 * IntKind.wrap .i64 (Ty.p t - Ty.q t)) + 99)) 100)))) := by kernel_rfl
theorem ok115 : PureOK Tryz.prog 115 (sp1 s115) := by
 refine qure1 ok_K7 hmix fn115 lokf_none (Nat.le_of_ble_eq_true (by kernel_rfl)) fun t hc => ?_
 rw [DoesQ, v115]
 have hc : (t.q ≤ t.p ∧ t.p ≤ 1000 ∧ 0 ≤ t.q) := of_decide_eq_true hc
 try dsimp only [s115]
 refine cond_intro (fun h => ?_) (fun h => ?_)
 ·have h : t.k = 2 := eq_of_beq h
  rw [if_pos h]
 ·have h : ¬ t.k = 2 := by simpa using h
  rw [if_neg h, w64 (n := t.p - t.q) (by omega), w64 (n := 332 * (t.p - t.q)) (by omega), w64 (n := 332 * (t.p - t.q) + 99) (by omega)]
  by_cases hn : 0 ≤ 332 * (t.p - t.q) + 99
  ·rw [Int.tdiv_eq_ediv_of_nonneg hn, w64 (by omega)]
  ·exfalso
   omega
def K8 : Env := (K7.add 115 (sp1 s115))
theorem ok_K8 : EnvOK Tryz.prog K8 := env_add (ok_K7) ok115
def inB : Nat → Int → List Int
 | 0, _ => []
 | k + 1, n => inB k (n / 2) ++ [48 + n % 2]
theorem zrow8 (k : Nat) : zrow (.int .u8 0) k = cz (List.replicate k 0) := by
 rw [cz, List.map_replicate]
 refine List.eq_replicate_iff.2 ⟨by rw [zrow_len]; simp [Value.cells], fun v hv => ?_⟩
 have := zrow_mem hv
 simpa [Value.cells] using this
theorem row_zero (k : Nat) (hk : k ≤ 1000) : RowP (zrow (.int .u8 0) k) k k := by
 rw [zrow8]
 have := (row_mk (List.replicate k 0) (tail := []) (cap := k) rfl (by simp) (by omega)).1
 rw [List.append_nil, List.length_replicate] at this
 exact this
theorem row_set {d : List Value} {n cap : Nat} (h : RowP d n cap) {k : Nat} (hk : k < n) (x : Int) : RowP (setL d (0 + k * 1) [.int .u8 x]) n cap ∧ zc (setL d (0 + k * 1) [.int .u8 x]) n = (zc d n).set k x := by
 have e : setL d (0 + k * 1) [.int .u8 x] = d.set k (.int .u8 x) := by rw [Nat.zero_add, Nat.mul_one]; rfl
 have ht : (d.set k (.int .u8 x)).take n = cz ((zc d n).set k x) := by
  rw [List.take_set, h.take, cz, cz, List.map_set]
 rw [e]
 refine ⟨⟨by rw [ht]; exact cz_isBytes _, ?_, by rw [List.length_set]; exact h.len, h.le, h.cap⟩, ?_⟩
 ·refine plainL_iff.2 fun v hv => ?_
  rcases List.mem_or_eq_of_mem_set hv with hv | hv
  ·exact plainL_iff.1 h.plain v hv
  ·rw [hv]; rfl
 ·show List.map iv ((d.set k (.int .u8 x)).take n) = _
  rw [ht]
  simp [cz, Function.comp_def, iv]
theorem inB_len : ∀ (k : Nat) (n : Int), (inB k n).length = k
 | 0, _ => rfl
 | k + 1, n => by rw [inB, List.length_append, inB_len k]; rfl
theorem inB_isB : ∀ (k : Nat) (n : Int), IsB (inB k n)
 | 0, _ => IsB.nil
 | k + 1, n => by
  rw [inB]
  refine (inB_isB k _).append fun c hc => ?_
  rw [List.mem_singleton.1 hc]
  omega
def V223_0 : Int × Int × ByteArray × Nat × Nat × Int × Int × List Value → List Value := fun (n, m, r, a, b, L, i, d) => [I n, I m, S r, .slice (some ⟨200, 0, some 1⟩) a b, I L, I i]
def B223_0 : Int × Int × ByteArray × Nat × Nat × Int × Int × List Value → List (Option Blk) := fun (n, m, r, a, b, L, i, d) => [some ⟨d, 5, true⟩]
def S223_0 : LSpecA (Int × Int × ByteArray × Nat × Nat × Int × Int × List Value) where
 live := [0, 1, 4, 5, 10, 11]
 mid := [200]
 n := 210
 ap := [(.tmp 5, 200)]
 dec vs bs := match vs, bs with
  | [.int .i64 n, .int .i64 m, .string r, .slice (some ⟨200, 0, some 1⟩) a b, .int .i64 L, .int .i64 i], [some ⟨d, 5, true⟩] => some (n, m, r, a, b, L, i, d)
  | _, _ => none
 pre := fun (n, m, r, a, b, L, i, d) => rowOK d a b && decide (0 ≤ n ∧ n ≤ 2147483648 ∧ 0 ≤ i ∧ i ≤ L ∧ L = m ∧ m ≤ 1000 ∧ (a : Int) = m)
 fin := fun (n, m, r, a, b, L, i, d) Z => ∀ (n' : Int) (d' : List Value), rowOK d' a b = true → zc d' a = inB (m - i).toNat n ++ (zc d a).drop (m - i).toNat → Z (.exit 0) [I n', I m, S r, .slice (some ⟨200, 0, some 1⟩) a b, I L, I L] [some ⟨d', 5, true⟩]
theorem r223_0 (n : Int) (m : Int) (r : ByteArray) (a : Nat) (b : Nat) (L : Int) (i : Int) (d : List Value) (jk : Tmps) (R : Exit → List Value → List (Option Blk) → Prop) : (codeQ Tryz.prog K8 noL Tryz.f223.ntmps (loopOf Tryz.f223 0) (tl S223_0.live (V223_0 (n, m, r, a, b, L, i, d)) jk) (ml S223_0.mid (B223_0 (n, m, r, a, b, L, i, d))) S223_0.n fun e t' m' _ => S223_0.out R e t' m') = ( bif decide (i < L) then bif decide (0 ≤ IntKind.wrap .i64 (IntKind.wrap .i64 (m - 1) - i) ∧ IntKind.wrap .i64 (IntKind.wrap .i64 (m - 1) - i) < (↑a : Int)) then bif Nat.ble (0 + Int.toNat (IntKind.wrap .i64 (IntKind.wrap .i64 (m - 1) - i)) * 1 + 1) (List.length d) then bif goodL [(200, 200)] (setL d (0 + Int.toNat (IntKind.wrap .i64 (IntKind.wrap .i64 (m - 1) - i)) * 1) [.int .u8 (IntKind.wrap .u8 (IntKind.wrap .i64 (48 + Int.tmod n 2)))]) && true && true then R Exit.normal [I (IntKind.wrap .i64 (Int.tdiv n 2)), I m, S r, .slice (some (.mk 200 0 (some 1))) a b, I L, I (IntKind.wrap .i64 (i + 1))] [some (.mk (rlbL [(200, 200)] (setL d (0 + Int.toNat (IntKind.wrap .i64 (IntKind.wrap .i64 (m - 1) - i)) * 1) [.int .u8 (IntKind.wrap .u8 (IntKind.wrap .i64 (48 + Int.tmod n 2)))])) 5 true)] else False else False else False else bif goodL [(200, 200)] d && true && true then R (Exit.exit 0) [I n, I m, S r, .slice (some (.mk 200 0 (some 1))) a b, I L, I i] [some (.mk (rlbL [(200, 200)] d) 5 true)] else False) := by kernel_rfl
theorem l223_0 : LOKf Tryz.prog (oneL 0 S223_0.hA) Tryz.f223 := by
 refine lokf_one (h := S223_0.hA) (by kernel_rfl) (loop_specA ok_K8 hmix (by kernel_rfl) (lok_none _) S223_0 V223_0 B223_0 (fun (n, m, r, a, b, L, i, d) => (L - i).toNat) ?_ ?_ ?_)
 ·intro vs bs s h
  simp only [S223_0] at h
  split at h
  all_goals first | (cases h; exact ⟨rfl, rfl⟩) | cases h | (split at h <;> first | (rename_i hq; cases h; have hq := Nat.eq_of_beq_eq_true hq; subst hq; exact ⟨rfl, rfl⟩) | cases h)
 ·exact fun ⟨n, m, r, a, b, L, i, d⟩ hp => by
   simp only [S223_0, Bool.and_eq_true] at hp
   simp [V223_0, B223_0, S223_0, idsLt, idsLtB, idsL, ids, ids_plainL (rowOK_iff.1 hp.1).plain]
 ·intro ⟨n, m, r, a, b, L, i, d⟩ jk Z hp hf
  rw [r223_0]
  simp only [S223_0] at hp hf
  simp only [Bool.and_eq_true, decide_eq_true_eq] at hp
  obtain ⟨hr, hn0, hn1, hi0, hiL, hLm, hm, ham⟩ := hp
  have hr := rowOK_iff.1 hr
  have hzl := zc_length hr
  refine cond_intro (fun h => ?_) (fun h => ?_)
  ·have h := of_decide_eq_true h
   have hk : (IntKind.wrap .i64 (IntKind.wrap .i64 (m - 1) - i)) = ((m - i).toNat - 1 : Nat) := by
    rw [w64 (n := m - 1) (by omega), w64 (by omega)]; omega
   rw [hk, Int.toNat_natCast]
   generalize hkk : (m - i).toNat - 1 = k
   have hka : k < a := by omega
   obtain ⟨g1, g2⟩ := row_set hr hka (48 + n % 2)
   have hw : IntKind.u8.wrap (IntKind.i64.wrap (48 + n.tmod 2)) = 48 + n % 2 := by
    rw [Int.tmod_eq_emod_of_nonneg hn0, w64 (by omega), w8 (by omega)]
   have hq : IntKind.i64.wrap (n.tdiv 2) = n / 2 := by rw [Int.tdiv_eq_ediv_of_nonneg hn0, w64 (by omega)]
   rw [hw, hq, w64 (n := i + 1) (by omega), g1.good, g1.rlb]
   have hl := hr.len
   have hle := hr.le
   refine c_t (decide_eq_true (by omega)) (c_t (by rw [Nat.ble_eq]; omega) (c_t rfl ⟨(n / 2, m, r, a, b, L, i + 1, _), rfl, rfl, ?_, by simp only; omega, fun n' d' h1 h2 => hf n' d' h1 ?_⟩))
   ·simp only [S223_0, Bool.and_eq_true, decide_eq_true_eq]
    exact ⟨rowOK_iff.2 g1, by omega⟩
   ·have e1 : (m - i).toNat = k + 1 := by omega
    have e2 : (m - (i + 1)).toNat = k := by omega
    rw [h2, e1, e2, g2, inB, List.append_assoc]
    congr 1
    rw [List.drop_set, if_neg (by omega), Nat.sub_self]
    have : (zc d a).drop k = (zc d a)[k]'(by omega) :: (zc d a).drop (k + 1) := List.drop_eq_getElem_cons (by omega)
    rw [this]
    rfl
  ·have h := of_decide_eq_false h
   rw [hr.good, hr.rlb]
   obtain rfl : i = L := by omega
   refine c_t rfl (hf n d (rowOK_iff.2 hr) ?_)
   rw [show (m - i).toNat = 0 by omega]
   rfl
def s223 (n : Int) (m : Int) : Bool × Value := (decide (0 ≤ n ∧ n ≤ 2147483648 ∧ 0 ≤ m ∧ m ≤ 1000), S (szO (inB m.toNat n)))
theorem fn223 : Fn1 Tryz.prog 223 Tryz.f223 := ⟨Tryz.func223, by kernel_rfl, by kernel_rfl, by kernel_rfl⟩
theorem v223 (n : Int) (m : Int) (R : Value → Prop) : bodyQ Tryz.prog K8 (oneL 0 S223_0.hA) Tryz.f223 [Enc.enc n, Enc.enc m] (fun _ => none) 0 (fun v _ _ => R v) = ( bif decide (0 ≤ m ∧ m ≤ m) && fitsA (Int.toNat m) 1 then bif goodL [(2, 200)] (zrow (.int .u8 0) (Int.toNat m)) && true && true && (idsLt 210 (rlbL [(2, 200)] (zrow (.int .u8 0) (Int.toNat m))) && true) then bif LSpec.pre (LSpecA.toLSpec S223_0) (n, m, ByteArray.mk #[], Int.toNat m, Int.toNat m, natO (Int.toNat m), 0, rlbL [(2, 200)] (zrow (.int .u8 0) (Int.toNat m))) then ∀ (n' : Int) (d' : List Value), rowOK d' (Int.toNat m) (Int.toNat m) = true → zc d' (Int.toNat m) = inB (Int.toNat (m - 0)) n ++ List.drop (Int.toNat (m - 0)) (zc (rlbL [(2, 200)] (zrow (.int .u8 0) (Int.toNat m))) (Int.toNat m)) → bif idsLt 210 d' && true then ∀ (x : Tmps), bif bytesOK d' 0 (Int.toNat m) then R (S (bytesOf d' 0 (Int.toNat m))) else False else False else False else False else False) := by kernel_rfl
theorem ok223 : PureOK Tryz.prog 223 (sp2 s223) := by
 refine qure2 ok_K8 hmix fn223 l223_0 (Nat.le_of_ble_eq_true (by kernel_rfl)) fun n m hc => ?_
 rw [DoesQ, v223]
 have hc : (0 ≤ n ∧ n ≤ 2147483648 ∧ 0 ≤ m ∧ m ≤ 1000) := of_decide_eq_true hc
 try dsimp only [s223]
 obtain ⟨h1, h2, h3, h4⟩ := hc
 have hr := row_zero m.toNat (by omega)
 rw [hr.good, hr.rlb]
 refine c_t (by rw [decide_eq_true (show 0 ≤ m ∧ m ≤ m by omega)]; simp only [Bool.true_and, fitsA, Bool.and_eq_true, Nat.ble_eq]; omega) (c_t (by rw [ids_plainB hr.plain]; rfl) (c_t ?_ fun n' d' g1 g2 => ?_))
 ·simp only [S223_0, Bool.and_eq_true, decide_eq_true_eq]
  rw [natO_eq]
  exact ⟨rowOK_iff.2 hr, by omega⟩
 ·have g1 := rowOK_iff.1 g1
  rw [Int.sub_zero] at g2
  have hzl := zc_length hr
  rw [List.drop_eq_nil_of_le (by omega), List.append_nil] at g2
  refine c_t (by rw [ids_plainB g1.plain]; rfl) fun _ => c_t g1.str.1 ?_
  rw [g1.str.2, g2, szO_eq]
end Go.Cx
end
noncomputable section
namespace Go.Cx
open Go Go.Ab Go.Px Go.Cv
theorem drop_all {p : Int → Bool} : ∀ {l r : List Int}, l.all p = true → (l ++ r).dropWhile p = r.dropWhile p
 | [], _, _ => rfl
 | c :: l, r, h => by
  simp only [List.all_cons, Bool.and_eq_true] at h
  rw [List.cons_append, List.dropWhile_cons_of_pos h.1, drop_all h.2]
theorem drop_not {p : Int → Bool} {l : List Int} (h : ∀ c, l.head? = some c → p c = false) : l.dropWhile p = l := by
 cases l with
 | nil => rfl
 | cons c r => rw [List.dropWhile_cons_of_neg (by simp [h c rfl])]
theorem trim_core {bl m br : List Int} (hbl : bl.all (· == 32) = true) (hbr : br.all (· == 32) = true) (h : (32 : Int) ∉ m) (h0 : m ≠ []) : trR (trL (bl ++ m ++ br)) = m := by
 have e1 : trL (bl ++ m ++ br) = m ++ br := by
  rw [trL, List.append_assoc, drop_all hbl]
  refine drop_not fun c hc => ?_
  cases m with
  | nil => exact absurd rfl h0
  | cons a r =>
   simp only [List.cons_append, List.head?_cons, Option.some.injEq] at hc
   subst hc
   simp only [List.mem_cons, not_or] at h
   simpa using Ne.symm h.1
 rw [e1, trR, List.reverse_append, drop_all (by rw [List.all_reverse]; exact hbr)]
 rw [drop_not, List.reverse_reverse]
 intro c hc
 rw [List.head?_reverse] at hc
 have := List.mem_of_getLast? hc
 simp only [beq_eq_false_iff_ne]
 exact fun q => h (q ▸ this)
theorem sgnR_other {u : List Int} {c : Int} (h : u.head? = some c) (h1 : c ≠ 45) (h2 : c ≠ 43) (nz : Bool → List Int → Int → Num) (bd : List Int → List Int) : sgnR nz bd u = bodR nz bd false u := by
 unfold sgnR
 split
 ·cases h
 ·cases h; exact absurd rfl h1
 ·cases h; exact absurd rfl h2
 ·rfl
theorem norm_ahead {z d : List Int} (hz : z.all (· == 48) = true) (g : Bool) (q : Int) : normZ g (z ++ d) q = normZ g d q := by
 have e : tlZ (z ++ d) 48 = tlZ d 48 := drop_all hz
 unfold normZ nz
 rw [e]
theorem u8n {n : Nat} (h : n < 10) : ((UInt8.ofNat (48 + n)).toNat : Int) = 48 + n := by
 rw [UInt8.toNat_ofNat']
 omega
end Go.Cx
end
noncomputable section
namespace Go.Cx
open Go Go.Ab Go.Px Go.Cv
open Go.Fx (Ty Vl check Valid most base pw bnd Fit fits)
theorem rd_plain {sg w p bl br pt : List Int} {g : Bool}
  (hbl : bl.all (· == 32) = true) (hbr : br.all (· == 32) = true)
  (hsg : (sg = [45] ∧ g = true) ∨ (sg = [43] ∧ g = false) ∨ (sg = [] ∧ g = false))
  (hw : digsZ w = true) (hp : digsZ p = true) (hne : w ++ p ≠ []) (hpt : pt = [46] ∨ (pt = [] ∧ p = []))
  (hlen : (bl ++ (sg ++ (w ++ (pt ++ p))) ++ br).length ≤ 255) :
  rdN (bl ++ (sg ++ (w ++ (pt ++ p))) ++ br) = some (normZ g (w ++ p) p.length) := by
 have nw : ∀ c, dig c = false → c ∉ w := fun c h => digs_no hw h
 have np : ∀ c, dig c = false → c ∉ p := fun c h => digs_no hp h
 have npt : ∀ c, c ≠ 46 → c ∉ pt := fun c h => by
  rcases hpt with q | ⟨q, _⟩
  ·rw [q]; simpa using h
  ·rw [q]; simp
 have nsg : (32 : Int) ∉ sg := by rcases hsg with ⟨q, _⟩ | ⟨q, _⟩ | ⟨q, _⟩ <;> rw [q] <;> simp
 have h69 : (69 : Int) ∉ w ++ (pt ++ p) := by
  simp only [List.mem_append, not_or]
  exact ⟨nw _ rfl, npt _ (by decide), np _ rfl⟩
 have h66 : (66 : Int) ∉ w ++ (pt ++ p) := by
  simp only [List.mem_append, not_or]
  exact ⟨nw _ rfl, npt _ (by decide), np _ rfl⟩
 have hcore : w ++ (pt ++ p) ≠ [] := by
  intro q
  simp only [List.append_eq_nil_iff] at q
  exact hne (by rw [q.1, q.2.2]; rfl)
 rw [rdN, if_neg (by omega), numR, trim_core hbl hbr]
 ·have hb : ∀ g, bodR normZ binD g (w ++ (pt ++ p)) = some (normZ g (w ++ p) p.length) := fun g => by
   rw [bodR, if_neg, decR, (ahead_no h69).1, (ahead_no h69).2]
   ·simp only [Int.sub_zero]
    rcases hpt with q | ⟨q, q2⟩
    ·subst q
     rw [show ([46] : List Int) ++ p = 46 :: p from rfl, (ahead_at (nw 46 rfl)).1, (ahead_at (nw 46 rfl)).2, Option.getD_some, if_pos ⟨hne, hw, hp⟩]
    ·subst q q2
     rw [List.append_nil, List.append_nil] at *
     rw [(ahead_no (nw 46 rfl)).1, (ahead_no (nw 46 rfl)).2, Option.getD_none, if_pos ⟨by simpa using hne, hw, rfl⟩]
     simp
   ·rintro ⟨_, q⟩
    exact h66 (List.mem_of_getLast? q)
  rcases hsg with ⟨q, rfl⟩ | ⟨q, rfl⟩ | ⟨q, rfl⟩
  ·rw [q]; exact hb true
  ·rw [q]; exact hb false
  ·rw [q, List.nil_append]
   refine Eq.trans ?_ (hb false)
   cases w with
   | cons a w' =>
    have ha : dig a = true := by simp only [digsZ, List.all_cons, Bool.and_eq_true] at hw; exact hw.1
    refine sgnR_other (c := a) rfl (fun q => ?_) (fun q => ?_) _ _ <;> (subst q; exact absurd ha (by decide))
   | nil =>
    rcases hpt with q | ⟨_, q2⟩
    ·rw [q]
     exact sgnR_other (c := 46) rfl (by decide) (by decide) _ _
    ·exact absurd q2 (by simpa using hne)
 ·simp only [List.mem_append, not_or]
  exact ⟨nsg, nw _ rfl, npt _ (by decide), np _ rfl⟩
 ·intro q
  have := (List.append_eq_nil_iff.1 q).2
  exact hcore this
theorem dec_digs : ∀ (k n : Nat), n < 10 ^ (k + 1) → digsZ (zl (Lib.decDigits n)) = true ∧ zl (Lib.decDigits n) ≠ []
 | k, n, h => by
  have one : ∀ j, j < 10 → dig ((UInt8.ofNat (48 + j)).toNat : Int) = true := fun j hj => by
   rw [u8n hj]; unfold dig; exact decide_eq_true (by omega)
  rw [Lib.decDigits]
  by_cases h10 : n < 10
  ·rw [dif_pos h10]
   exact ⟨by simp only [zl, List.map_cons, List.map_nil, digsZ, List.all_cons, List.all_nil, one n h10, Bool.and_self], by simp [zl]⟩
  ·rw [dif_neg h10]
   cases k with
   | zero => omega
   | succ k =>
    have ih := dec_digs k (n / 10) (by rw [Nat.pow_succ] at h; omega)
    refine ⟨?_, by simp [zl]⟩
    rw [zl, List.map_append]
    rw [digs_app]
    have e : digsZ (List.map (fun b : UInt8 => (b.toNat : Int)) (Lib.decDigits (n / 10))) = true := ih.1
    rw [e]
    simp only [List.map_cons, List.map_nil, digsZ, List.all_cons, List.all_nil, one (n % 10) (by omega), Bool.and_self]
theorem ito_digs {m : Int} (h : 0 ≤ m ∧ m ≤ 2147483648) : digsZ (itoZ m) = true ∧ itoZ m ≠ [] := by
 obtain ⟨k, rfl⟩ : ∃ k : Nat, m = (k : Int) := ⟨m.toNat, by omega⟩
 rw [itoZ, Lib.itoa_nonneg]
 exact dec_digs 9 k (by omega)
theorem rep48_all (n : Nat) : (rep48 n).all (· == 48) = true := by rw [rep48]; simp
theorem rep48_digs (n : Nat) : digsZ (rep48 n) = true := List.all_eq_true.2 fun c hc => by rw [List.eq_of_mem_replicate hc]; rfl
def numA (n q : Int) : Num := normZ (decide (n < 0)) (itoZ (if n < 0 then -n else n)) q
theorem fix_read {sg bl : List Int} {g : Bool} {m q : Int} (hm : 0 ≤ m ∧ m ≤ 2147483648) (hq : 0 ≤ q ∧ q ≤ 9) (hbl : bl.all (· == 32) = true) (hl : bl.length ≤ 100) (hsg : (sg = [45] ∧ g = true) ∨ (sg = [43] ∧ g = false) ∨ (sg = [] ∧ g = false)) :
  rdN (bl ++ (sg ++ fixD m q)) = some (normZ g (itoZ m) q) := by
 obtain ⟨d1, d2⟩ := ito_digs hm
 have hlen := ito_len hm
 have hs1 : sg.length ≤ 1 := by rcases hsg with ⟨h, _⟩ | ⟨h, _⟩ | ⟨h, _⟩ <;> rw [h] <;> simp
 unfold fixD
 by_cases h : q > 0
 ·rw [if_pos h]
  have hU : digsZ (fixU m q) = true := by rw [fixU, digs_app, rep48_digs, d1]; rfl
  have hUl : (fixU m q).length ≥ q.toNat + 1 ∧ (fixU m q).length ≤ 20 := by
   rw [fixU, List.length_append, rep48, List.length_replicate]
   omega
  have hU2 : (fixU m q).take ((fixU m q).length - q.toNat) ++ (fixU m q).drop ((fixU m q).length - q.toNat) = fixU m q := List.take_append_drop _ _
  have hUd := hU
  rw [← hU2, digs_app, Bool.and_eq_true] at hUd
  have hpl : ((fixU m q).drop ((fixU m q).length - q.toNat)).length = q.toNat := by rw [List.length_drop]; omega
  have hwl : ((fixU m q).take ((fixU m q).length - q.toNat)).length ≤ 20 := by rw [List.length_take]; omega
  have key := rd_plain (bl := bl) (br := []) (sg := sg) (w := (fixU m q).take ((fixU m q).length - q.toNat)) (pt := [46]) (p := (fixU m q).drop ((fixU m q).length - q.toNat)) (g := g) hbl rfl hsg hUd.1 hUd.2
   (by rw [hU2]; intro z; rw [z] at hUl; simp at hUl) (.inl rfl) (by simp only [List.length_append, List.length_cons, List.length_nil, hpl]; omega)
  rw [List.append_nil] at key
  rw [show (46 :: (fixU m q).drop ((fixU m q).length - q.toNat)) = [46] ++ (fixU m q).drop ((fixU m q).length - q.toNat) from rfl, key, hU2, hpl, fixU, norm_ahead (rep48_all _)]
  congr 2
  omega
 ·rw [if_neg h]
  have key := rd_plain (bl := bl) (br := []) (sg := sg) (w := itoZ m) (pt := []) (p := []) (g := g) hbl rfl hsg d1 rfl (by simpa using d2) (.inr ⟨rfl, rfl⟩) (by simp only [List.length_append, List.length_nil]; omega)
  simp only [List.append_nil] at key
  rw [key, show q = 0 by omega]
  rfl
theorem txt_read {n : Int} {t : Ty} (hv : Valid t) (hn : -2147483648 ≤ n ∧ n ≤ 2147483648) : rdN (txtZ n t) = some (numA n t.q) := by
 obtain ⟨v1, v2, v3, v4, v5⟩ := Fx.valid_r hv
 have hw : wid t ≤ 100 := by unfold wid; split <;> omega
 unfold txtZ fixS numA
 by_cases h : n < 0
 ·rw [if_pos h, if_pos h, decide_eq_true h, show (45 : Int) :: fixD (-n) t.q = [45] ++ fixD (-n) t.q from rfl]
  exact fix_read (by omega) (by omega) (by simp) (by rw [List.length_replicate]; omega) (.inl ⟨rfl, rfl⟩)
 ·rw [if_neg h, if_neg h, decide_eq_false h]
  have := fix_read (sg := []) (bl := List.replicate (wid t - (fixD n t.q).length).toNat 32) (g := false) (m := n) (q := t.q) (by omega) (by omega) (by simp) (by rw [List.length_replicate]; omega) (.inr (.inr ⟨rfl, rfl⟩))
  rw [List.nil_append] at this
  exact this
end Go.Cx
end
noncomputable section
namespace Go.Ab
open Go Go.RowKit
def eqI (a b : Int) : Bool := match a, b with
 | .ofNat m, .ofNat n => Nat.beq m n
 | .negSucc m, .negSucc n => Nat.beq m n
 | _, _ => false
def eqU : List UInt8 → List UInt8 → Bool
 | [], [] => true
 | a :: l, b :: r => match Nat.beq a.toNat b.toNat with | true => eqU l r | false => false
 | _, _ => false
def eqK (a b : IntKind) : Bool := match decEq a b with | .isTrue _ => true | .isFalse _ => false
mutual
def eqV : Value → Value → Bool
 | .int k a, .int k' b => match eqK k k' with | true => eqI a b | false => false
 | .bool a, .bool b => match a, b with | true, true => true | false, false => true | _, _ => false
 | .string ⟨⟨a⟩⟩, .string ⟨⟨b⟩⟩ => eqU a b
 | .agg ⟨l⟩, .agg ⟨r⟩ => eqVL l r
 | .iface t a, .iface t' b => match Nat.beq t t' with | true => eqV a b | false => false
 | .nilIface, .nilIface => true
 | _, _ => false
def eqVL : List Value → List Value → Bool
 | [], [] => true
 | a :: l, b :: r => match eqV a b with | true => eqVL l r | false => false
 | _, _ => false
end
theorem eqI_spec {a b : Int} (h : eqI a b = true) : a = b := by
 unfold eqI at h
 split at h
 ·rw [Nat.eq_of_beq_eq_true h]
 ·rw [Nat.eq_of_beq_eq_true h]
 ·cases h
theorem eqU_spec : ∀ {a b : List UInt8}, eqU a b = true → a = b
 | [], [], _ => rfl
 | a :: l, b :: r, h => by
  simp only [eqU] at h
  split at h
  ·rename_i hb
   rw [UInt8.toNat_inj.1 (Nat.eq_of_beq_eq_true hb), eqU_spec h]
  ·cases h
 | [], _ :: _, h => by cases h
 | _ :: _, [], h => by cases h
theorem eqK_spec {a b : IntKind} (h : eqK a b = true) : a = b := by
 unfold eqK at h
 split at h
 ·assumption
 ·cases h
mutual
theorem eqV_spec : ∀ {a b : Value}, eqV a b = true → a = b
 | .int k a, .int k' b, h => by
  simp only [eqV] at h
  split at h
  ·rename_i hk
   rw [eqK_spec hk, eqI_spec h]
  ·cases h
 | .bool a, .bool b, h => by cases a <;> cases b <;> first | rfl | cases h
 | .string ⟨⟨a⟩⟩, .string ⟨⟨b⟩⟩, h => by
  simp only [eqV] at h
  rw [eqU_spec h]
 | .agg ⟨l⟩, .agg ⟨r⟩, h => by
  simp only [eqV] at h
  rw [eqVL_spec h]
 | .iface t a, .iface t' b, h => by
  simp only [eqV] at h
  split at h
  ·rename_i ht
   rw [Nat.eq_of_beq_eq_true ht, eqV_spec h]
  ·cases h
 | .nilIface, .nilIface, _ => rfl
theorem eqVL_spec : ∀ {a b : List Value}, eqVL a b = true → a = b
 | [], [], _ => rfl
 | a :: l, b :: r, h => by
  simp only [eqVL] at h
  split at h
  ·rename_i hb
   rw [eqV_spec hb, eqVL_spec h]
  ·cases h
 | [], _ :: _, h => by cases h
 | _ :: _, [], h => by cases h
end
def memo : List (List Value × Value) → Spec
 | [] => fun _ _ => none
 | (a, v) :: r => fun args bs => match eqVL args a with | true => some (true, v) | false => memo r args bs
theorem memo_spec {args : List Value} {bs : List (Option Blk)} {b : Bool} {v : Value} : ∀ {l : List (List Value × Value)}, memo l args bs = some (b, v) → b = true ∧ (args, v) ∈ l
 | [], h => by cases h
 | (a, u) :: r, h => by
  simp only [memo] at h
  split at h
  ·rename_i ha
   simp only [Option.some.injEq, Prod.mk.injEq] at h
   exact ⟨h.1.symm, by rw [eqVL_spec ha, h.2]; exact List.mem_cons_self ..⟩
  ·obtain ⟨h1, h2⟩ := memo_spec h
   exact ⟨h1, List.mem_cons_of_mem _ h2⟩
variable [Tabs]
def AllD (P : Program) (G : Env) (L : Nat → Option LoopH) (fn : Func) : List (List Value × Value) → Prop
 | [] => True
 | (a, v) :: r => DoesQ P G L fn a v ∧ AllD P G L fn r
theorem AllD_mem {P : Program} {G : Env} {L : Nat → Option LoopH} {fn : Func} {a : List Value} {v : Value} : ∀ {l : List (List Value × Value)}, AllD P G L fn l → (a, v) ∈ l → DoesQ P G L fn a v
 | (a', v') :: r, h, hm => by
  rcases List.mem_cons.1 hm with e | hm
  ·cases e; exact h.1
  ·exact AllD_mem h.2 hm
theorem pure_memo {P : Program} {G : Env} {L : Nat → Option LoopH} {f : FuncId} {fn : Func} (hG : EnvOK P G) (hm : P.follows .mixedOrders = true) (hf : Fn1 P f fn) (hL : LOKf P L fn) {l : List (List Value × Value)}
  (hp : (l.all fun x => plainL x.1 && Nat.ble x.1.length fn.ntmps) = true) (h : AllD P G L fn l) : PureOK P f (memo l) := by
 refine pure_ofQ hG hm hf hL fun args bs v hs => ?_
 obtain ⟨_, hmem⟩ := memo_spec hs
 have := List.all_eq_true.1 hp _ hmem
 simp only [Bool.and_eq_true] at this
 exact ⟨this.1, Nat.le_of_ble_eq_true this.2, AllD_mem h hmem⟩
end Go.Ab
end
noncomputable section
set_option maxHeartbeats 3200000
namespace Go.Cx
open Go Go.Ab Go.Proofs Go.Shelf Go.Px Go.Cv
open Go.Fx (Ty Vl check Valid most base pw bnd Fit fits tv vv tup V0 T0 pw_zero pw_succ wrap_mul pw_w64 str0)
def K9p : Env := (((K8.add 29 (sp1 s29)).add 321 (sp1 s321)).add 78 (sp1 s78)).add 223 (sp2 s223)
theorem ok_K9p : EnvOK Tryz.prog K9p := env_add (env_add (env_add (env_add ok_K8 ok29) ok321) ok78) ok223
theorem fn222 : Fn1 Tryz.prog 222 Tryz.f222 := ⟨Tryz.func222, by kernel_rfl, by kernel_rfl, by kernel_rfl⟩
theorem fn170 : Fn1 Tryz.prog 170 Tryz.f170 := ⟨Tryz.func170, by kernel_rfl, by kernel_rfl, by kernel_rfl⟩
theorem fn97 : Fn1 Tryz.prog 97 Tryz.f97 := ⟨Tryz.func97, by kernel_rfl, by kernel_rfl, by kernel_rfl⟩
theorem fn169 : Fn1 Tryz.prog 169 Tryz.f169 := ⟨Tryz.func169, by kernel_rfl, by kernel_rfl, by kernel_rfl⟩
theorem fn101 : Fn1 Tryz.prog 101 Tryz.f101 := ⟨Tryz.func101, by kernel_rfl, by kernel_rfl, by kernel_rfl⟩
theorem fn168 : Fn1 Tryz.prog 168 Tryz.f168 := ⟨Tryz.func168, by kernel_rfl, by kernel_rfl, by kernel_rfl⟩
theorem fn99 : Fn1 Tryz.prog 99 Tryz.f99 := ⟨Tryz.func99, by kernel_rfl, by kernel_rfl, by kernel_rfl⟩
theorem fn34 : Fn1 Tryz.prog 34 Tryz.f34 := ⟨Tryz.func34, by kernel_rfl, by kernel_rfl, by kernel_rfl⟩
theorem x222w (n : Int) (k : Int) (p : Int) (q : Int) (w : Bool) (u : ByteArray) (R : Value → Prop) : (bodyQ Tryz.prog K9p noL Tryz.f222 [.iface 174 (.agg ⟨[I n, I k, I p, I q, B w, S u]⟩)] (fun _ => none) 0 (fun v _ _ => R v)) = ( bif decide (n < 0) then bif decide (-9223372036854775808 ≤ IntKind.wrap .i64 (0 - n) ∧ IntKind.wrap .i64 (0 - n) ≤ 9223372036854775807) then bif decide (ByteArray.size (szO (itoZ (IntKind.wrap .i64 (0 - n)))) ≤ 100000 ∧ -100000 ≤ q ∧ q ≤ 100000) then R (.tuple (.mk [.agg (.mk [B (Prod.fst (normZ (decide (n < 0)) (bz (szO (itoZ (IntKind.wrap .i64 (0 - n))))) q)), S (szO (Prod.fst (Prod.snd (normZ (decide (n < 0)) (bz (szO (itoZ (IntKind.wrap .i64 (0 - n))))) q)))), I (Prod.snd (Prod.snd (normZ (decide (n < 0)) (bz (szO (itoZ (IntKind.wrap .i64 (0 - n))))) q)))]), Value.nilIface])) else False else False else bif decide (-9223372036854775808 ≤ n ∧ n ≤ 9223372036854775807) then bif decide (ByteArray.size (szO (itoZ n)) ≤ 100000 ∧ -100000 ≤ q ∧ q ≤ 100000) then R (.tuple (.mk [.agg (.mk [B (Prod.fst (normZ (decide (n < 0)) (bz (szO (itoZ n))) q)), S (szO (Prod.fst (Prod.snd (normZ (decide (n < 0)) (bz (szO (itoZ n))) q)))), I (Prod.snd (Prod.snd (normZ (decide (n < 0)) (bz (szO (itoZ n))) q)))]), Value.nilIface])) else False else False) := by kernel_rfl
theorem x222b (s : ByteArray) (R : Value → Prop) : (bodyQ Tryz.prog K9p noL Tryz.f222 [.iface 175 (S s)] (fun _ => none) 0 (fun v _ _ => R v)) = ( bif bitsZ (bz s) && decide (ByteArray.size s ≤ 64) then bif decide (ByteArray.size (szO (dz (binG (bz s) 0))) ≤ 100000 ∧ -100000 ≤ 0 ∧ (0 : Int) ≤ 100000) then R (.tuple (.mk [.agg (.mk [B (Prod.fst (normZ false (bz (szO (dz (binG (bz s) 0)))) 0)), S (szO (Prod.fst (Prod.snd (normZ false (bz (szO (dz (binG (bz s) 0)))) 0)))), I (Prod.snd (Prod.snd (normZ false (bz (szO (dz (binG (bz s) 0)))) 0)))]), Value.nilIface])) else False else False) := by kernel_rfl
theorem x222c (s : ByteArray) (R : Value → Prop) : (bodyQ Tryz.prog K9p noL Tryz.f222 [.iface 178 (S s)] (fun _ => none) 0 (fun v _ _ => R v)) = ( bif decide (ByteArray.size s ≤ 9223372036854775807) then ∀ (b g : Bool) (d : ByteArray) (c : Int), RdN s b g d c → bif !b then R (.tuple (.mk [.agg (.mk [B false, S (ByteArray.mk #[]), I 0]), Value.iface 119 (.agg (.mk [S s]))])) else R (.tuple (.mk [.agg (.mk [B g, S d, I c]), Value.nilIface])) else False) := by kernel_rfl
theorem x97_1 (v : Vl) (p : Int) (q : Int) (w : Bool) (u : ByteArray) (R : Value → Prop) : (bodyQ Tryz.prog K9p noL Tryz.f97 [Enc.enc v, .agg ⟨[I 1, I p, I q, B w, S u]⟩] (fun _ => none) 0 (fun v _ _ => R v)) = ( R (Value.iface 174 (.agg (.mk [I (Vl.n v), I 1, I p, I q, B w, S u])))) := by kernel_rfl
theorem x101_1 (p : Int) (q : Int) (w : Bool) (u : ByteArray) (R : Value → Prop) : (bodyQ Tryz.prog K9p noL Tryz.f101 [.agg ⟨[I 1, I p, I q, B w, S u]⟩] (fun _ => none) 0 (fun v _ _ => R v)) = ( R (.agg (.mk [I 0, S (ByteArray.mk #[])]))) := by kernel_rfl
theorem x97_2 (v : Vl) (p : Int) (q : Int) (w : Bool) (u : ByteArray) (R : Value → Prop) : (bodyQ Tryz.prog K9p noL Tryz.f97 [Enc.enc v, .agg ⟨[I 2, I p, I q, B w, S u]⟩] (fun _ => none) 0 (fun v _ _ => R v)) = ( R (Value.iface 174 (.agg (.mk [I (Vl.n v), I 2, I p, I q, B w, S u])))) := by kernel_rfl
theorem x101_2 (p : Int) (q : Int) (w : Bool) (u : ByteArray) (R : Value → Prop) : (bodyQ Tryz.prog K9p noL Tryz.f101 [.agg ⟨[I 2, I p, I q, B w, S u]⟩] (fun _ => none) 0 (fun v _ _ => R v)) = ( R (.agg (.mk [I 0, S (ByteArray.mk #[])]))) := by kernel_rfl
theorem x97_3 (v : Vl) (p : Int) (q : Int) (w : Bool) (u : ByteArray) (R : Value → Prop) : (bodyQ Tryz.prog K9p noL Tryz.f97 [Enc.enc v, .agg ⟨[I 3, I p, I q, B w, S u]⟩] (fun _ => none) 0 (fun v _ _ => R v)) = ( R (Value.iface 178 (S (Vl.s v)))) := by kernel_rfl
theorem x101_3 (p : Int) (q : Int) (w : Bool) (u : ByteArray) (R : Value → Prop) : (bodyQ Tryz.prog K9p noL Tryz.f101 [.agg ⟨[I 3, I p, I q, B w, S u]⟩] (fun _ => none) 0 (fun v _ _ => R v)) = ( R (.agg (.mk [I 0, S (ByteArray.mk #[])]))) := by kernel_rfl
theorem x97_4 (v : Vl) (p : Int) (q : Int) (w : Bool) (u : ByteArray) (R : Value → Prop) : (bodyQ Tryz.prog K9p noL Tryz.f97 [Enc.enc v, .agg ⟨[I 4, I p, I q, B w, S u]⟩] (fun _ => none) 0 (fun v _ _ => R v)) = ( R (Value.iface 175 (S (Vl.s v)))) := by kernel_rfl
theorem x101_4 (p : Int) (q : Int) (w : Bool) (u : ByteArray) (R : Value → Prop) : (bodyQ Tryz.prog K9p noL Tryz.f101 [.agg ⟨[I 4, I p, I q, B w, S u]⟩] (fun _ => none) 0 (fun v _ _ => R v)) = ( bif decide (0 ≤ p ∧ p ≤ 1000 ∧ ByteArray.size (ByteArray.mk #[48]) ≤ 1000) then ∀ (s' : ByteArray), szO (repZ (bz (ByteArray.mk #[48])) (Int.toNat p)) = s' → R (.agg (.mk [I 0, S s'])) else False) := by kernel_rfl
theorem x169 (s : ByteArray) (n : Int) (c : ByteArray) (R : Value → Prop) : (bodyQ Tryz.prog K9p noL Tryz.f169 [S s, I n, S c] (fun _ => none) 0 (fun v _ _ => R v)) = ( bif decide ((↑(ByteArray.size s) : Int) ≥ n) then bif decide ((0 : Int) ≤ 0 ∧ 0 ≤ n ∧ n ≤ (↑(ByteArray.size s) : Int)) then R (S (ByteArray.extract s 0 (Int.toNat n))) else False else bif decide (0 ≤ IntKind.wrap .i64 (n - (↑(ByteArray.size s) : Int)) ∧ IntKind.wrap .i64 (n - (↑(ByteArray.size s) : Int)) ≤ 1000 ∧ ByteArray.size c ≤ 1000) then ∀ (s' : ByteArray), szO (repZ (bz c) (Int.toNat (IntKind.wrap .i64 (n - (↑(ByteArray.size s) : Int))))) = s' → bif strFit (ByteArray.size s + ByteArray.size s') then R (S (s ++ s')) else False else False) := by kernel_rfl
def divT : Nat → Int → Int
 | 0, n => n
 | k + 1, n => divT k (n / 10)
theorem divT_rng : ∀ (k : Nat) (n : Int), 0 ≤ n → 0 ≤ divT k n ∧ divT k n ≤ n
 | 0, n, h => ⟨h, Int.le_refl _⟩
 | k + 1, n, h => by
  have := divT_rng k (n / 10) (by omega)
  rw [divT]
  omega
def V170_1 : Int × Int × Int × Int × Bool × ByteArray × Int × Int × Int → List Value := fun (m, k, p, q, w, u, n, Q, i) => [.pointer (some ⟨6, 0, some 0⟩), I n, I Q, I i]
def B170_1 : Int × Int × Int × Int × Bool × ByteArray × Int × Int × Int → List (Option Blk) := fun (m, k, p, q, w, u, n, Q, i) => [some ⟨[I m, I k, I p, I q, B w, S u], 174, true⟩]
def S170_1 : LSpec (Int × Int × Int × Int × Bool × ByteArray × Int × Int × Int) where
 live := [4, 5, 21, 22]
 mid := [6]
 n := 60
 dec vs bs := match vs, bs with | [.pointer (some ⟨6, 0, some 0⟩), .int .i64 n, .int .i64 Q, .int .i64 i], [some ⟨[.int .i64 m, .int .i64 k, .int .i64 p, .int .i64 q, .bool w, .string u], 174, true⟩] => some (m, k, p, q, w, u, n, Q, i) | _, _ => none
 pre := fun (m, k, p, q, w, u, n, Q, i) => decide (0 ≤ n ∧ n ≤ 2147483648 ∧ 0 ≤ i ∧ i ≤ Q ∧ Q ≤ 1000)
 fin := fun (m, k, p, q, w, u, n, Q, i) Z => Z (.exit 1) [.pointer (some ⟨6, 0, some 0⟩), I (divT (Q - i).toNat n), I Q, I Q] [some ⟨[I m, I k, I p, I q, B w, S u], 174, true⟩]
theorem r170_1 (m : Int) (k : Int) (p : Int) (q : Int) (w : Bool) (u : ByteArray) (n : Int) (Q : Int) (i : Int) (jk : Tmps) (R : Exit → List Value → List (Option Blk) → Prop) : (codeQ Tryz.prog K9p noL Tryz.f170.ntmps (loopOf Tryz.f170 1) (tl S170_1.live (V170_1 (m, k, p, q, w, u, n, Q, i)) jk) (ml S170_1.mid (B170_1 (m, k, p, q, w, u, n, Q, i))) S170_1.n fun e t' m' _ => R e (List.map t' S170_1.live) (List.map m' S170_1.mid)) = ( bif decide (i < Q) then R Exit.normal [.pointer (some (.mk 6 0 (some 0))), I (IntKind.wrap .i64 (Int.tdiv n 10)), I Q, I (IntKind.wrap .i64 (i + 1))] [some (.mk [I m, I k, I p, I q, B w, S u] 174 true)] else R (Exit.exit 1) [.pointer (some (.mk 6 0 (some 0))), I n, I Q, I i] [some (.mk [I m, I k, I p, I q, B w, S u] 174 true)]) := by kernel_rfl
theorem l170_1 : LOKf Tryz.prog (oneL 1 S170_1.h) Tryz.f170 := by
 refine lokf_one (h := S170_1.h) (by kernel_rfl) (loop_specQ ok_K9p hmix (by kernel_rfl) (lok_none _) S170_1 V170_1 B170_1 (fun (m, k, p, q, w, u, n, Q, i) => (Q - i).toNat) ?_ ?_ ?_)
 ·intro vs bs s h
  simp only [S170_1] at h
  split at h
  all_goals first | (cases h; exact ⟨rfl, rfl⟩) | cases h | (split at h <;> first | (rename_i hq; cases h; have hq := Nat.eq_of_beq_eq_true hq; subst hq; exact ⟨rfl, rfl⟩) | cases h)
 ·exact fun _ _ _ h => h
 ·intro ⟨m, k, p, q, w, u, n, Q, i⟩ jk Z hp hf
  rw [r170_1]
  simp only [S170_1] at hp hf
  have hp := of_decide_eq_true hp
  refine cond_intro (fun h => ?_) (fun h => ?_)
  ·have h := of_decide_eq_true h
   rw [show (Q - i).toNat = (Q - (i + 1)).toNat + 1 by omega, divT] at hf
   rw [Int.tdiv_eq_ediv_of_nonneg hp.1, w64 (n := n / 10) (by omega), w64 (n := i + 1) (by omega)]
   exact ⟨(m, k, p, q, w, u, n / 10, Q, i + 1), rfl, rfl, by simp only [S170_1, decide_eq_true_eq]; omega, by simp only; omega, hf⟩
  ·have h := of_decide_eq_false h
   obtain rfl : i = Q := by omega
   rw [Int.sub_self] at hf
   exact hf
theorem x170w (n : Int) (k : Int) (p : Int) (q : Int) (w : Bool) (u : ByteArray) (R : Value → Prop) : (bodyQ Tryz.prog K9p (oneL 1 S170_1.h) Tryz.f170 [.iface 174 (.agg ⟨[I n, I k, I p, I q, B w, S u]⟩)] (fun _ => none) 0 (fun v _ _ => R v)) = ( bif decide (n < 0) then bif LSpec.pre S170_1 (n, k, p, q, w, u, IntKind.wrap .i64 (0 - n), q, 0) then ∀ (x : Tmps), bif decide (q ≤ p ∧ p ≤ 1000 ∧ 0 ≤ q) then bif decide (0 ≤ divT (Int.toNat (q - 0)) (IntKind.wrap .i64 (0 - n)) ∧ divT (Int.toNat (q - 0)) (IntKind.wrap .i64 (0 - n)) ≤ 2147483648 ∧ (0 ≤ if k = 2 then p else (332 * (p - q) + 99) / 100) ∧ (if k = 2 then p else (332 * (p - q) + 99) / 100) ≤ 1000) then R (.tuple (.mk [S (szO (inB (Int.toNat (if k = 2 then p else (332 * (p - q) + 99) / 100)) (divT (Int.toNat (q - 0)) (IntKind.wrap .i64 (0 - n))))), Value.nilIface])) else False else False else False else bif LSpec.pre S170_1 (n, k, p, q, w, u, n, q, 0) then ∀ (x : Tmps), bif decide (q ≤ p ∧ p ≤ 1000 ∧ 0 ≤ q) then bif decide (0 ≤ divT (Int.toNat (q - 0)) n ∧ divT (Int.toNat (q - 0)) n ≤ 2147483648 ∧ (0 ≤ if k = 2 then p else (332 * (p - q) + 99) / 100) ∧ (if k = 2 then p else (332 * (p - q) + 99) / 100) ≤ 1000) then R (.tuple (.mk [S (szO (inB (Int.toNat (if k = 2 then p else (332 * (p - q) + 99) / 100)) (divT (Int.toNat (q - 0)) n))), Value.nilIface])) else False else False else False) := by kernel_rfl
theorem x170b (s : ByteArray) (R : Value → Prop) : (bodyQ Tryz.prog K9p (oneL 1 S170_1.h) Tryz.f170 [.iface 175 (S s)] (fun _ => none) 0 (fun v _ _ => R v)) = ( R (.tuple (.mk [S s, Value.nilIface]))) := by kernel_rfl
theorem x170c (s : ByteArray) (R : Value → Prop) : (bodyQ Tryz.prog K9p (oneL 1 S170_1.h) Tryz.f170 [.iface 178 (S s)] (fun _ => none) 0 (fun v _ _ => R v)) = ( bif decide (ByteArray.size s ≤ 9223372036854775807) then bif bitsZ (bz s) then R (.tuple (.mk [S s, Value.nilIface])) else R (.tuple (.mk [S (ByteArray.mk #[]), Value.iface 119 (.agg (.mk [S s]))])) else False) := by kernel_rfl
def fillZ (l : List Int) (n : Nat) (c : Int) : List Int := l.take n ++ List.replicate (n - l.length) c
def bitWd (t : Ty) : Int := if t.k = 2 then t.p else (332 * (t.p - t.q) + 99) / 100
def absI (n : Int) : Int := if n < 0 then -n else n
def s222 : Ab.Spec := fun args _ => match args with
 | [.iface 174 (.agg ⟨[.int .i64 n, .int .i64 _, .int .i64 _, .int .i64 q, .bool _, .string _]⟩)] => some (decide (-2147483648 ≤ n ∧ n ≤ 2147483648 ∧ 0 ≤ q ∧ q ≤ 9), .tuple ⟨[numV (numA n q), .nilIface]⟩)
 | [.iface 175 (.string s)] => some (bitsZ (bz s) && decide (s.size ≤ 64), .tuple ⟨[numV (normZ false (binD (bz s)) 0), .nilIface]⟩)
 | [.iface 178 (.string s)] => some (decide (s.size ≤ 9223372036854775807), .tuple ⟨[numV ((rdN (bz s)).getD num0), if (rdN (bz s)).isSome = true then .nilIface else .iface 119 (.agg ⟨[.string s]⟩)]⟩)
 | _ => none
def s170 : Ab.Spec := fun args _ => match args with
 | [.iface 174 (.agg ⟨[.int .i64 n, .int .i64 k, .int .i64 p, .int .i64 q, .bool w, .string u]⟩)] => some (decide (Valid ⟨k, p, q, w, u⟩ ∧ -2147483648 ≤ n ∧ n ≤ 2147483648), .tuple ⟨[S (szO (inB (bitWd ⟨k, p, q, w, u⟩).toNat (divT q.toNat (absI n)))), .nilIface]⟩)
 | [.iface 175 (.string s)] => some (true, .tuple ⟨[S s, .nilIface]⟩)
 | [.iface 178 (.string s)] => some (decide (s.size ≤ 9223372036854775807), .tuple ⟨[if bitsZ (bz s) = true then S s else S ⟨#[]⟩, if bitsZ (bz s) = true then .nilIface else .iface 119 (.agg ⟨[.string s]⟩)]⟩)
 | _ => none
def s97 : Ab.Spec := fun args _ => match args with
 | [.agg ⟨[.int .i64 n, .string s]⟩, .agg ⟨[.int .i64 k, .int .i64 p, .int .i64 q, .bool w, .string u]⟩] => match eqI k 1, eqI k 2, eqI k 3, eqI k 4 with
  | true, _, _, _ => some (true, .iface 174 (.agg ⟨[.int .i64 n, .int .i64 1, .int .i64 p, .int .i64 q, .bool w, .string u]⟩))
  | _, true, _, _ => some (true, .iface 174 (.agg ⟨[.int .i64 n, .int .i64 2, .int .i64 p, .int .i64 q, .bool w, .string u]⟩))
  | _, _, true, _ => some (true, .iface 178 (.string s))
  | _, _, _, true => some (true, .iface 175 (.string s))
  | _, _, _, _ => none
 | _ => none
def s101 : Ab.Spec := fun args _ => match args with
 | [.agg ⟨[.int .i64 k, .int .i64 p, .int .i64 _, .bool _, .string _]⟩] => match eqI k 1, eqI k 2, eqI k 3, eqI k 4 with
  | true, _, _, _ => some (true, vlv 0)
  | _, true, _, _ => some (true, vlv 0)
  | _, _, true, _ => some (true, vlv 0)
  | _, _, _, true => some (decide (0 ≤ p ∧ p ≤ 1000), .agg ⟨[.int .i64 0, S (szO (List.replicate p.toNat 48))]⟩)
  | _, _, _, _ => none
 | _ => none
def s169 (s : ByteArray) (n : Int) (c : ByteArray) : Bool × Value := (decide (0 ≤ n ∧ n ≤ 1000) && oneB c, S (szO (fillZ (bz s) n.toNat ((bz c).getD 0 0))))
theorem num_abs {n q : Int} (h : -2147483648 ≤ n ∧ n ≤ 2147483648) (hq : 0 ≤ q ∧ q ≤ 9) {x : Value} {m : Int} (hm : (if n < 0 then -n else n) = m)
  (hx : x = .tuple ⟨[numV (normZ (decide (n < 0)) (bz (szO (itoZ m))) q), .nilIface]⟩) : x = .tuple ⟨[numV (numA n q), .nilIface]⟩ := by
 rw [hx, bz_szO (ito_isB _), numA, hm]
theorem ok222 : PureOK Tryz.prog 222 s222 := by
 refine pure_ofQ ok_K9p hmix fn222 lokf_none fun args bs v hs => ?_
 unfold s222 at hs
 split at hs
 ·rename_i n k p q w u
  simp only [Option.some.injEq, Prod.mk.injEq, decide_eq_true_eq] at hs
  obtain ⟨⟨h1, h2, h3, h4⟩, rfl⟩ := hs
  refine ⟨rfl, Nat.le_of_ble_eq_true (by kernel_rfl), ?_⟩
  rw [DoesQ, x222w]
  refine cond_intro (fun h => ?_) (fun h => ?_)
  ·have h := of_decide_eq_true h
   have hl := ito_len (m := 0 - n) (by omega)
   rw [w64 (n := 0 - n) (by omega)]
   refine c_t (decide_eq_true (by omega)) (c_t (decide_eq_true ⟨by rw [szO_size]; omega, by omega, by omega⟩) ?_)
   exact num_abs ⟨h1, h2⟩ ⟨h3, h4⟩ (by rw [if_pos h]; omega) rfl
  ·have h := of_decide_eq_false h
   have hl := ito_len (m := n) (by omega)
   refine c_t (decide_eq_true (by omega)) (c_t (decide_eq_true ⟨by rw [szO_size]; omega, by omega, by omega⟩) ?_)
   exact num_abs ⟨h1, h2⟩ ⟨h3, h4⟩ (by rw [if_neg h]) rfl
 ·rename_i s
  simp only [Option.some.injEq, Prod.mk.injEq, Bool.and_eq_true, decide_eq_true_eq] at hs
  obtain ⟨⟨h1, h2⟩, rfl⟩ := hs
  refine ⟨rfl, Nat.le_of_ble_eq_true (by kernel_rfl), ?_⟩
  rw [DoesQ, x222b]
  have hb := bin_64 h1 (by rw [bz_length]; exact h2)
  have hd := dz_len 20 (binG (bz s) 0) hb.1 (Int.lt_of_lt_of_le hb.2 (by decide))
  refine c_t (by rw [h1, decide_eq_true h2]; rfl) (c_t (decide_eq_true ⟨by rw [szO_size]; omega, by omega, by omega⟩) ?_)
  rw [bz_szO (dz_isB _), norm_dz]
 ·rename_i s
  simp only [Option.some.injEq, Prod.mk.injEq, decide_eq_true_eq] at hs
  obtain ⟨h1, rfl⟩ := hs
  refine ⟨rfl, Nat.le_of_ble_eq_true (by kernel_rfl), ?_⟩
  rw [DoesQ, x222c]
  refine c_t (decide_eq_true h1) fun b g d c hR => ?_
  rcases hR with ⟨r, rfl, rfl, rfl, rfl⟩ | ⟨l, r, rfl, rfl⟩
  ·refine c_t rfl ?_
   rw [r]
   show _ = Value.tuple ⟨[.agg ⟨[.bool false, .string (szO []), .int .i64 0]⟩, .iface 119 (.agg ⟨[.string s]⟩)]⟩
   rw [szO_nil]
  ·refine c_f rfl ?_
   rw [r]
   rfl
 ·cases hs
theorem ok170 : PureOK Tryz.prog 170 s170 := by
 refine pure_ofQ ok_K9p hmix fn170 l170_1 fun args bs v hs => ?_
 unfold s170 at hs
 split at hs
 ·rename_i n k p q w u
  simp only [Option.some.injEq, Prod.mk.injEq, decide_eq_true_eq] at hs
  obtain ⟨⟨hv, h1, h2⟩, rfl⟩ := hs
  obtain ⟨v1, v2, v3, v4, v5⟩ := Fx.valid_r hv
  simp only at v1 v2 v3 v4 v5
  refine ⟨rfl, Nat.le_of_ble_eq_true (by kernel_rfl), ?_⟩
  rw [DoesQ, x170w]
  have hbw : 0 ≤ bitWd ⟨k, p, q, w, u⟩ ∧ bitWd ⟨k, p, q, w, u⟩ ≤ 200 := by unfold bitWd; simp only; split <;> omega
  have key : ∀ m : Int, absI n = m → 0 ≤ m ∧ m ≤ 2147483648 → LSpec.pre S170_1 (n, k, p, q, w, u, m, q, 0) = true ∧ 0 ≤ divT (q - 0).toNat m ∧ divT (q - 0).toNat m ≤ 2147483648 ∧ divT (q - 0).toNat m = divT q.toNat (absI n) := fun m hm hr => by
   have := divT_rng (q - 0).toNat m hr.1
   refine ⟨by simp only [S170_1, decide_eq_true_eq]; omega, by omega, by omega, by rw [hm, Int.sub_zero]⟩
  refine cond_intro (fun h => ?_) (fun h => ?_)
  ·have h := of_decide_eq_true h
   rw [w64 (n := 0 - n) (by omega)]
   obtain ⟨k1, k2, k3, k4⟩ := key (0 - n) (by unfold absI; rw [if_pos h]; omega) (by omega)
   refine c_t k1 fun x => c_t (decide_eq_true ⟨v4, by omega, v3⟩) (c_t (decide_eq_true ⟨k2, k3, hbw.1, by have := hbw.2; show bitWd ⟨k, p, q, w, u⟩ ≤ 1000; omega⟩) ?_)
   rw [k4]
   rfl
  ·have h := of_decide_eq_false h
   obtain ⟨k1, k2, k3, k4⟩ := key n (by unfold absI; rw [if_neg h]) (by omega)
   refine c_t k1 fun x => c_t (decide_eq_true ⟨v4, by omega, v3⟩) (c_t (decide_eq_true ⟨k2, k3, hbw.1, by have := hbw.2; show bitWd ⟨k, p, q, w, u⟩ ≤ 1000; omega⟩) ?_)
   rw [k4]
   rfl
 ·rename_i s
  simp only [Option.some.injEq, Prod.mk.injEq] at hs
  obtain ⟨-, rfl⟩ := hs
  refine ⟨rfl, Nat.le_of_ble_eq_true (by kernel_rfl), ?_⟩
  rw [DoesQ, x170b]
 ·rename_i s
  simp only [Option.some.injEq, Prod.mk.injEq, decide_eq_true_eq] at hs
  obtain ⟨h1, rfl⟩ := hs
  refine ⟨rfl, Nat.le_of_ble_eq_true (by kernel_rfl), ?_⟩
  rw [DoesQ, x170c]
  refine c_t (decide_eq_true h1) (cond_intro (fun h => ?_) (fun h => ?_))
  ·rw [if_pos h, if_pos h]
  ·rw [if_neg (by rw [h]; decide), if_neg (by rw [h]; decide)]
 ·cases hs
end Go.Cx
end
noncomputable section
set_option maxHeartbeats 3200000
namespace Go.Cx
open Go Go.Ab Go.Proofs Go.Shelf Go.Px Go.Cv
open Go.Fx (Ty Vl check Valid most base pw bnd Fit fits tv vv tup V0 T0 pw_zero pw_succ wrap_mul pw_w64 str0)
theorem ok97 : PureOK Tryz.prog 97 s97 := by
 refine pure_ofQ ok_K9p hmix fn97 lokf_none fun args bs v hs => ?_
 unfold s97 at hs
 split at hs
 case h_2 => cases hs
 rename_i n s k p q w u
 have key : ∀ j : Int, eqI k j = true → k = j := fun j h => eqI_spec h
 have en : (Enc.enc (⟨n, s⟩ : Vl) : Value) = .agg ⟨[.int .i64 n, .string s]⟩ := rfl
 split at hs
 ·obtain rfl := key 1 (by assumption)
  cases hs
  have hx := x97_1 ⟨n, s⟩ p q w u
  rw [en] at hx
  exact ⟨rfl, Nat.le_of_ble_eq_true (by kernel_rfl), by rw [DoesQ, hx]⟩
 ·obtain rfl := key 2 (by assumption)
  cases hs
  have hx := x97_2 ⟨n, s⟩ p q w u
  rw [en] at hx
  exact ⟨rfl, Nat.le_of_ble_eq_true (by kernel_rfl), by rw [DoesQ, hx]⟩
 ·obtain rfl := key 3 (by assumption)
  cases hs
  have hx := x97_3 ⟨n, s⟩ p q w u
  rw [en] at hx
  exact ⟨rfl, Nat.le_of_ble_eq_true (by kernel_rfl), by rw [DoesQ, hx]⟩
 ·obtain rfl := key 4 (by assumption)
  cases hs
  have hx := x97_4 ⟨n, s⟩ p q w u
  rw [en] at hx
  exact ⟨rfl, Nat.le_of_ble_eq_true (by kernel_rfl), by rw [DoesQ, hx]⟩
 ·cases hs
theorem ok101 : PureOK Tryz.prog 101 s101 := by
 refine pure_ofQ ok_K9p hmix fn101 lokf_none fun args bs v hs => ?_
 unfold s101 at hs
 split at hs
 case h_2 => cases hs
 rename_i k p q w u
 have key : ∀ j : Int, eqI k j = true → k = j := fun j h => eqI_spec h
 split at hs
 ·obtain rfl := key 1 (by assumption)
  cases hs
  exact ⟨rfl, Nat.le_of_ble_eq_true (by kernel_rfl), by rw [DoesQ, x101_1]⟩
 ·obtain rfl := key 2 (by assumption)
  cases hs
  exact ⟨rfl, Nat.le_of_ble_eq_true (by kernel_rfl), by rw [DoesQ, x101_2]⟩
 ·obtain rfl := key 3 (by assumption)
  cases hs
  exact ⟨rfl, Nat.le_of_ble_eq_true (by kernel_rfl), by rw [DoesQ, x101_3]⟩
 ·obtain rfl := key 4 (by assumption)
  simp only [Option.some.injEq, Prod.mk.injEq, decide_eq_true_eq] at hs
  obtain ⟨h1, rfl⟩ := hs
  refine ⟨rfl, Nat.le_of_ble_eq_true (by kernel_rfl), ?_⟩
  rw [DoesQ, x101_4]
  refine c_t (decide_eq_true ⟨h1.1, h1.2, by decide⟩) fun s' e => ?_
  rw [← e, show bz (ByteArray.mk #[48]) = [48] from rfl, repZ_at]
 ·cases hs
theorem ok169 : PureOK Tryz.prog 169 (sp3 s169) := by
 refine qure3 ok_K9p hmix fn169 lokf_none (Nat.le_of_ble_eq_true (by kernel_rfl)) fun s n c hc => ?_
 have hc : (decide (0 ≤ n ∧ n ≤ 1000) && oneB c) = true := hc
 simp only [Bool.and_eq_true, decide_eq_true_eq] at hc
 obtain ⟨⟨h0, h1⟩, ho⟩ := hc
 obtain ⟨ch, hc1, hc2⟩ := oneB_spec ho
 rw [DoesQ]
 have hx := x169 s n c (fun v => v = (s169 s n c).2)
 rw [show (Enc.enc s : Value) = .string s from rfl, show (Enc.enc n : Value) = .int .i64 n from rfl, show (Enc.enc c : Value) = .string c from rfl, hx]
 have hb : bz c = [(bz c).getD 0 0] := by
  have : c.size = 1 := by rw [hc1]; rfl
  have hl : (bz c).length = 1 := by rw [bz_length]; exact this
  match hq : bz c, hl with
  | [a], _ => rfl
 generalize hd : (bz c).getD 0 0 = d at hb
 have hcs : c.size = 1 := by rw [← bz_length, hb]; rfl
 show _
 unfold s169
 rw [hd]
 refine cond_intro (fun h => ?_) (fun h => ?_)
 ·have h := of_decide_eq_true h
  refine c_t (decide_eq_true (by omega)) ?_
  rw [fillZ, show n.toNat - (bz s).length = 0 by rw [bz_length]; omega, List.replicate_zero, List.append_nil, ← bz_take, szO_eq, sz_bz]
 ·have h := of_decide_eq_false h
  rw [w64 (n := n - (s.size : Int)) (by omega)]
  refine c_t (decide_eq_true ⟨by omega, by omega, by omega⟩) fun s' e => ?_
  rw [hb, repZ_at] at e
  have hdB : IsB [d] := by rw [← hb]; exact bz_isB c
  have hrB : IsB (List.replicate (n - (s.size : Int)).toNat d) := fun x hx => by rw [List.eq_of_mem_replicate hx]; exact hdB d (List.mem_singleton.2 rfl)
  have b' : bz s' = List.replicate (n - (s.size : Int)).toNat d := by rw [← e, bz_szO hrB]
  have z' : s'.size = (n - (s.size : Int)).toNat := by rw [← bz_length, b', List.length_replicate]
  refine c_t (fitN (by omega)) ?_
  rw [fillZ, List.take_of_length_le (by rw [bz_length]; omega), show n.toNat - (bz s).length = (n - (s.size : Int)).toNat by rw [bz_length]; omega, ← b', ← bz_append, szO_eq, sz_bz]
structure NumIs (x y : Num) : Prop where
 h : x = y
structure RdIs (s : ByteArray) (x : Option Num) : Prop where
 h : rdN (bz s) = x
structure StrIs (x : List Int) (s : ByteArray) : Prop where
 h : szO x = s
structure BitsIs (s : ByteArray) (b : Bool) : Prop where
 h : bitsZ (bz s) = b
theorem gen_of_pure {P : Program} {f : FuncId} {s : Ab.Spec} (h : PureOK P f s) {H : List Value → Lk → Nat → (Value → Lk → Nat → Prop) → Prop}
  (hH : ∀ args m n K, H args m n K → ∃ v, s args (args.map (blkOf m)) = some (true, v) ∧ plain v = true ∧ K v m n) : GenOK P f H := by
 obtain ⟨hc, hp⟩ := h
 refine ⟨hc, fun args m n K hh N w0 ι w hrel hwf hargs => ?_⟩
 obtain ⟨v, hs, hv, hk⟩ := hH args m n K hh
 refine (hp args v N w0 m ι w hrel hs hv).mono fun e' w' ⟨h1, h2⟩ => ?_
 exact ⟨v, m, n, ι, by rw [h1, ren_plain _ hv], hk, Nat.le_refl _, fun _ _ => rfl, hrel.grow h2, hwf, by simp [ids_plain hv]⟩
def hid222 : List Value → Lk → Nat → (Value → Lk → Nat → Prop) → Prop := fun args m n K => match args with
 | [.iface 174 (.agg ⟨[.int .i64 a, .int .i64 _, .int .i64 _, .int .i64 q, .bool _, .string _]⟩)] => match cnd (decide (-2147483648 ≤ a ∧ a ≤ 2147483648 ∧ 0 ≤ q ∧ q ≤ 9)) with
  | true => ∀ x : Num, NumIs (numA a q) x → K (.tuple ⟨[numV x, .nilIface]⟩) m n
  | false => False
 | [.iface 175 (.string s)] => match cnd (bitsZ (bz s) && decide (s.size ≤ 64)) with
  | true => ∀ x : Num, NumIs (normZ false (binD (bz s)) 0) x → K (.tuple ⟨[numV x, .nilIface]⟩) m n
  | false => False
 | [.iface 178 (.string s)] => match cnd (decide (s.size ≤ 9223372036854775807)) with
  | true => (∀ x : Num, RdIs s (some x) → K (.tuple ⟨[numV x, .nilIface]⟩) m n) ∧ (RdIs s none → K (.tuple ⟨[.agg ⟨[.bool false, .string ⟨#[]⟩, .int .i64 0]⟩, .iface 119 (.agg ⟨[.string s]⟩)]⟩) m n)
  | false => False
 | _ => False
theorem gen_hid222 : GenOK Tryz.prog 222 hid222 := by
 refine gen_of_pure ok222 fun args m n K hh => ?_
 unfold hid222 at hh
 split at hh
 ·split at hh
  case h_2 => exact hh.elim
  rename_i hcc
  exact ⟨_, congrArg some (Prod.ext hcc rfl), rfl, hh _ ⟨rfl⟩⟩
 ·split at hh
  case h_2 => exact hh.elim
  rename_i hcc
  exact ⟨_, congrArg some (Prod.ext hcc rfl), rfl, hh _ ⟨rfl⟩⟩
 ·split at hh
  case h_2 => exact hh.elim
  rename_i s _ hcc
  cases hr : rdN (bz s) with
  | some x =>
   refine ⟨_, congrArg some (Prod.ext hcc rfl), ?_, ?_⟩
   ·rw [hr]; rfl
   ·rw [hr]; exact hh.1 x ⟨hr⟩
  | none =>
   refine ⟨_, congrArg some (Prod.ext hcc rfl), ?_, ?_⟩
   ·rw [hr]; rfl
   ·rw [hr]
    have := hh.2 ⟨hr⟩
    rw [← szO_nil] at this
    exact this
 ·exact hh.elim
def hid170 : List Value → Lk → Nat → (Value → Lk → Nat → Prop) → Prop := fun args m n K => match args with
 | [.iface 174 (.agg ⟨[.int .i64 a, .int .i64 k, .int .i64 p, .int .i64 q, .bool w, .string u]⟩)] => match cnd (decide (Valid ⟨k, p, q, w, u⟩ ∧ -2147483648 ≤ a ∧ a ≤ 2147483648)) with
  | true => ∀ s : ByteArray, StrIs (inB (bitWd ⟨k, p, q, w, u⟩).toNat (divT q.toNat (absI a))) s → K (.tuple ⟨[S s, .nilIface]⟩) m n
  | false => False
 | [.iface 175 (.string s)] => K (.tuple ⟨[S s, .nilIface]⟩) m n
 | [.iface 178 (.string s)] => match cnd (decide (s.size ≤ 9223372036854775807)) with
  | true => (BitsIs s true → K (.tuple ⟨[S s, .nilIface]⟩) m n) ∧ (BitsIs s false → K (.tuple ⟨[S ⟨#[]⟩, .iface 119 (.agg ⟨[.string s]⟩)]⟩) m n)
  | false => False
 | _ => False
theorem gen_hid170 : GenOK Tryz.prog 170 hid170 := by
 refine gen_of_pure ok170 fun args m n K hh => ?_
 unfold hid170 at hh
 split at hh
 ·split at hh
  case h_2 => exact hh.elim
  rename_i hcc
  exact ⟨_, congrArg some (Prod.ext hcc rfl), rfl, hh _ ⟨rfl⟩⟩
 ·exact ⟨_, rfl, rfl, hh⟩
 ·split at hh
  case h_2 => exact hh.elim
  rename_i s _ hcc
  cases hr : bitsZ (bz s) with
  | true =>
   refine ⟨_, congrArg some (Prod.ext hcc rfl), ?_, ?_⟩
   ·rw [hr]; rfl
   ·rw [hr]; exact hh.1 ⟨hr⟩
  | false =>
   refine ⟨_, congrArg some (Prod.ext hcc rfl), ?_, ?_⟩
   ·rw [hr]; rfl
   ·rw [hr]; exact hh.2 ⟨hr⟩
 ·exact hh.elim
theorem fitO_ex : ∃ d : Vl → Ty → Bool, d = fun v t => decide (fit4 v t = 0 ∧ t.s.size ≤ 9223372036854775807 ∧ v.s.size ≤ 9223372036854775807 ∧ t.k ≠ 5) := ⟨_, rfl⟩
def fitO : Vl → Ty → Bool := Classical.choose fitO_ex
theorem fitO_eq : fitO = fun v t => decide (fit4 v t = 0 ∧ t.s.size ≤ 9223372036854775807 ∧ v.s.size ≤ 9223372036854775807 ∧ t.k ≠ 5) := Classical.choose_spec fitO_ex
theorem chkO_ex : ∃ d : Ty → Bool, d = fun t => decide (chk4 t = 0 ∧ t.s.size ≤ 9223372036854775807 ∧ t.k ≠ 5) := ⟨_, rfl⟩
def chkO : Ty → Bool := Classical.choose chkO_ex
theorem chkO_eq : chkO = fun t => decide (chk4 t = 0 ∧ t.s.size ≤ 9223372036854775807 ∧ t.k ≠ 5) := Classical.choose_spec chkO_ex
def hid22 : List Value → Lk → Nat → (Value → Lk → Nat → Prop) → Prop := fun args m n K => match args with
 | [.agg ⟨[.int .i64 a, .string b]⟩, .agg ⟨[.int .i64 k, .int .i64 p, .int .i64 q, .bool w, .string u]⟩] => match cnd (fitO ⟨a, b⟩ ⟨k, p, q, w, u⟩) with
  | true => K (I 0) m n
  | false => False
 | _ => False
theorem gen_hid22 : GenOK Tryz.prog 22 hid22 := by
 refine gen_of_pure ok22 fun args m n K hh => ?_
 unfold hid22 at hh
 split at hh
 case h_2 => exact hh.elim
 rename_i a b k p q w u
 split at hh
 case h_2 => exact hh.elim
 rename_i hcc
 have hcc : fitO ⟨a, b⟩ ⟨k, p, q, w, u⟩ = true := hcc
 rw [fitO_eq] at hcc
 obtain ⟨h1, h2, h3, h4⟩ := of_decide_eq_true hcc
 refine ⟨I (fit4 ⟨a, b⟩ ⟨k, p, q, w, u⟩), congrArg some (Prod.ext (show (s22 ⟨a, b⟩ ⟨k, p, q, w, u⟩).1 = true from decide_eq_true ⟨h2, h3, h4⟩) rfl), rfl, ?_⟩
 rw [h1]
 exact hh
def hid20 : List Value → Lk → Nat → (Value → Lk → Nat → Prop) → Prop := fun args m n K => match args with
 | [.agg ⟨[.int .i64 k, .int .i64 p, .int .i64 q, .bool w, .string u]⟩] => match cnd (chkO ⟨k, p, q, w, u⟩) with
  | true => K (I 0) m n
  | false => False
 | _ => False
theorem gen_hid20 : GenOK Tryz.prog 20 hid20 := by
 refine gen_of_pure ok20 fun args m n K hh => ?_
 unfold hid20 at hh
 split at hh
 case h_2 => exact hh.elim
 rename_i k p q w u
 split at hh
 case h_2 => exact hh.elim
 rename_i hcc
 have hcc : chkO ⟨k, p, q, w, u⟩ = true := hcc
 rw [chkO_eq] at hcc
 obtain ⟨h1, h2, h4⟩ := of_decide_eq_true hcc
 refine ⟨I (chk4 ⟨k, p, q, w, u⟩), congrArg some (Prod.ext (show (s20 ⟨k, p, q, w, u⟩).1 = true from decide_eq_true ⟨h2, h4⟩) rfl), rfl, ?_⟩
 rw [h1]
 exact hh
def K10 : Env := ((((((((K9p.addG 22 hid22).addG 20 hid20).addG 222 hid222).addG 170 hid170).add 97 s97).add 101 s101).addG 169 (hideS (sp3 s169))).addG 100 h100)
theorem ok_K10 : EnvOK Tryz.prog K10 := env_addG (env_addG (env_add (env_add (env_addG (env_addG (env_addG (env_addG ok_K9p gen_hid22) gen_hid20) gen_hid222) gen_hid170) ok97) ok101) (gen_hideS ok169)) gen100
noncomputable def K10_168 : Env := K10.addG 168 (inlQ Tryz.prog K10 noL Tryz.f168)
theorem ok_K10_168 : EnvOK Tryz.prog K10_168 := env_addG ok_K10 (gen_inlQ ok_K10 hmix fn168 lokf_none)
theorem x99_w1 (n : Int) (k : Int) (p : Int) (q : Int) (w : Bool) (u : ByteArray) (pt : Int) (qt : Int) (wt : Bool) (ut : ByteArray) (R : Value → Prop) : (bodyQ Tryz.prog K10_168 noL Tryz.f99 [.iface 174 (.agg ⟨[I n, I k, I p, I q, B w, S u]⟩), .agg ⟨[I 1, I pt, I qt, B wt, S ut]⟩] (fun _ => none) 0 (fun v _ _ => R v)) = ( bif decide (-2147483648 ≤ n ∧ n ≤ 2147483648 ∧ 0 ≤ q ∧ q ≤ 9) then ∀ (x : Num), NumIs (numA n q) x → bif decide (ByteArray.size (szO (Prod.fst (Prod.snd x))) ≤ 9223372036854775807) then R (.tuple (.mk [.agg (.mk [I (Prod.fst (tkV (Prod.fst x) (bz (szO (Prod.fst (Prod.snd x)))) (Prod.snd (Prod.snd x)) (Ty.mk 1 pt qt wt ut))), S (ByteArray.mk #[])]), I (Prod.fst (Prod.snd (tkV (Prod.fst x) (bz (szO (Prod.fst (Prod.snd x)))) (Prod.snd (Prod.snd x)) (Ty.mk 1 pt qt wt ut)))), Value.nilIface])) else False else False) := by kernel_rfl
theorem x99_w2 (n : Int) (k : Int) (p : Int) (q : Int) (w : Bool) (u : ByteArray) (pt : Int) (qt : Int) (wt : Bool) (ut : ByteArray) (R : Value → Prop) : (bodyQ Tryz.prog K10_168 noL Tryz.f99 [.iface 174 (.agg ⟨[I n, I k, I p, I q, B w, S u]⟩), .agg ⟨[I 2, I pt, I qt, B wt, S ut]⟩] (fun _ => none) 0 (fun v _ _ => R v)) = ( bif decide (-2147483648 ≤ n ∧ n ≤ 2147483648 ∧ 0 ≤ q ∧ q ≤ 9) then ∀ (x : Num), NumIs (numA n q) x → bif decide (ByteArray.size (szO (Prod.fst (Prod.snd x))) ≤ 9223372036854775807) then R (.tuple (.mk [.agg (.mk [I (Prod.fst (tkV (Prod.fst x) (bz (szO (Prod.fst (Prod.snd x)))) (Prod.snd (Prod.snd x)) (Ty.mk 2 pt qt wt ut))), S (ByteArray.mk #[])]), I (Prod.fst (Prod.snd (tkV (Prod.fst x) (bz (szO (Prod.fst (Prod.snd x)))) (Prod.snd (Prod.snd x)) (Ty.mk 2 pt qt wt ut)))), Value.nilIface])) else False else False) := by kernel_rfl
theorem x99_w3 (n : Int) (k : Int) (p : Int) (q : Int) (w : Bool) (u : ByteArray) (pt : Int) (qt : Int) (wt : Bool) (ut : ByteArray) (R : Value → Prop) : (bodyQ Tryz.prog K10_168 noL Tryz.f99 [.iface 174 (.agg ⟨[I n, I k, I p, I q, B w, S u]⟩), .agg ⟨[I 3, I pt, I qt, B wt, S ut]⟩] (fun _ => none) 0 (fun v _ _ => R v)) = ( bif decide (Valid (Ty.mk k p q w u) ∧ -2147483648 ≤ n ∧ n ≤ 2147483648) then bif !wt || true then bif !wt || decide ((↑(ByteArray.size (szO (txtZ n (Ty.mk k p q w u)))) : Int) > pt) then bif decide (0 ≤ pt ∧ pt ≤ 1000) && true then ∀ (s' : ByteArray), szO (fillZ (bz (szO (txtZ n (Ty.mk k p q w u)))) (Int.toNat pt) (List.getD (bz (ByteArray.mk #[32])) 0 0)) = s' → R (.tuple (.mk [.agg (.mk [I 0, S s']), I 0, Value.nilIface])) else False else R (.tuple (.mk [.agg (.mk [I 0, S (szO (txtZ n (Ty.mk k p q w u)))]), I 0, Value.nilIface])) else False else False) := by kernel_rfl
theorem x99_w4 (n : Int) (k : Int) (p : Int) (q : Int) (w : Bool) (u : ByteArray) (pt : Int) (qt : Int) (wt : Bool) (ut : ByteArray) (R : Value → Prop) : (bodyQ Tryz.prog K10_168 noL Tryz.f99 [.iface 174 (.agg ⟨[I n, I k, I p, I q, B w, S u]⟩), .agg ⟨[I 4, I pt, I qt, B wt, S ut]⟩] (fun _ => none) 0 (fun v _ _ => R v)) = ( bif decide (Valid (Ty.mk k p q w u) ∧ -2147483648 ≤ n ∧ n ≤ 2147483648) then ∀ (s : ByteArray), StrIs (inB (Int.toNat (bitWd (Ty.mk k p q w u))) (divT (Int.toNat q) (absI n))) s → bif decide (0 ≤ pt ∧ pt ≤ 1000) && true then ∀ (s' : ByteArray), szO (fillZ (bz s) (Int.toNat pt) (List.getD (bz (ByteArray.mk #[48])) 0 0)) = s' → R (.tuple (.mk [.agg (.mk [I 0, S s']), I 0, Value.nilIface])) else False else False) := by kernel_rfl
theorem x99_b1 (s : ByteArray) (pt : Int) (qt : Int) (wt : Bool) (ut : ByteArray) (R : Value → Prop) : (bodyQ Tryz.prog K10_168 noL Tryz.f99 [.iface 175 (S s), .agg ⟨[I 1, I pt, I qt, B wt, S ut]⟩] (fun _ => none) 0 (fun v _ _ => R v)) = ( bif bitsZ (bz s) && decide (ByteArray.size s ≤ 64) then ∀ (x : Num), NumIs (normZ false (binD (bz s)) 0) x → bif decide (ByteArray.size (szO (Prod.fst (Prod.snd x))) ≤ 9223372036854775807) then R (.tuple (.mk [.agg (.mk [I (Prod.fst (tkV (Prod.fst x) (bz (szO (Prod.fst (Prod.snd x)))) (Prod.snd (Prod.snd x)) (Ty.mk 1 pt qt wt ut))), S (ByteArray.mk #[])]), I (Prod.fst (Prod.snd (tkV (Prod.fst x) (bz (szO (Prod.fst (Prod.snd x)))) (Prod.snd (Prod.snd x)) (Ty.mk 1 pt qt wt ut)))), Value.nilIface])) else False else False) := by kernel_rfl
theorem x99_b2 (s : ByteArray) (pt : Int) (qt : Int) (wt : Bool) (ut : ByteArray) (R : Value → Prop) : (bodyQ Tryz.prog K10_168 noL Tryz.f99 [.iface 175 (S s), .agg ⟨[I 2, I pt, I qt, B wt, S ut]⟩] (fun _ => none) 0 (fun v _ _ => R v)) = ( bif bitsZ (bz s) && decide (ByteArray.size s ≤ 64) then ∀ (x : Num), NumIs (normZ false (binD (bz s)) 0) x → bif decide (ByteArray.size (szO (Prod.fst (Prod.snd x))) ≤ 9223372036854775807) then R (.tuple (.mk [.agg (.mk [I (Prod.fst (tkV (Prod.fst x) (bz (szO (Prod.fst (Prod.snd x)))) (Prod.snd (Prod.snd x)) (Ty.mk 2 pt qt wt ut))), S (ByteArray.mk #[])]), I (Prod.fst (Prod.snd (tkV (Prod.fst x) (bz (szO (Prod.fst (Prod.snd x)))) (Prod.snd (Prod.snd x)) (Ty.mk 2 pt qt wt ut)))), Value.nilIface])) else False else False) := by kernel_rfl
theorem x99_b3 (s : ByteArray) (pt : Int) (qt : Int) (wt : Bool) (ut : ByteArray) (R : Value → Prop) : (bodyQ Tryz.prog K10_168 noL Tryz.f99 [.iface 175 (S s), .agg ⟨[I 3, I pt, I qt, B wt, S ut]⟩] (fun _ => none) 0 (fun v _ _ => R v)) = ( bif !wt || true then bif !wt || decide ((↑(ByteArray.size s) : Int) > pt) then bif decide (0 ≤ pt ∧ pt ≤ 1000) && true then ∀ (s' : ByteArray), szO (fillZ (bz s) (Int.toNat pt) (List.getD (bz (ByteArray.mk #[32])) 0 0)) = s' → R (.tuple (.mk [.agg (.mk [I 0, S s']), I 0, Value.nilIface])) else False else R (.tuple (.mk [.agg (.mk [I 0, S s]), I 0, Value.nilIface])) else False) := by kernel_rfl
theorem x99_b4 (s : ByteArray) (pt : Int) (qt : Int) (wt : Bool) (ut : ByteArray) (R : Value → Prop) : (bodyQ Tryz.prog K10_168 noL Tryz.f99 [.iface 175 (S s), .agg ⟨[I 4, I pt, I qt, B wt, S ut]⟩] (fun _ => none) 0 (fun v _ _ => R v)) = ( bif decide (0 ≤ pt ∧ pt ≤ 1000) && true then ∀ (s' : ByteArray), szO (fillZ (bz s) (Int.toNat pt) (List.getD (bz (ByteArray.mk #[48])) 0 0)) = s' → R (.tuple (.mk [.agg (.mk [I 0, S s']), I 0, Value.nilIface])) else False) := by kernel_rfl
theorem x99_c1 (s : ByteArray) (pt : Int) (qt : Int) (wt : Bool) (ut : ByteArray) (R : Value → Prop) : (bodyQ Tryz.prog K10_168 noL Tryz.f99 [.iface 178 (S s), .agg ⟨[I 1, I pt, I qt, B wt, S ut]⟩] (fun _ => none) 0 (fun v _ _ => R v)) = ( bif decide (ByteArray.size s ≤ 9223372036854775807) then (∀ (x : Num), RdIs s (some x) → bif decide (ByteArray.size (szO (Prod.fst (Prod.snd x))) ≤ 9223372036854775807) then R (.tuple (.mk [.agg (.mk [I (Prod.fst (tkV (Prod.fst x) (bz (szO (Prod.fst (Prod.snd x)))) (Prod.snd (Prod.snd x)) (Ty.mk 1 pt qt wt ut))), S (ByteArray.mk #[])]), I (Prod.fst (Prod.snd (tkV (Prod.fst x) (bz (szO (Prod.fst (Prod.snd x)))) (Prod.snd (Prod.snd x)) (Ty.mk 1 pt qt wt ut)))), Value.nilIface])) else False) ∧ (RdIs s none → R (.tuple (.mk [.agg (.mk [I 0, S (ByteArray.mk #[])]), I 0, Value.iface 119 (.agg (.mk [S s]))]))) else False) := by kernel_rfl
theorem x99_c2 (s : ByteArray) (pt : Int) (qt : Int) (wt : Bool) (ut : ByteArray) (R : Value → Prop) : (bodyQ Tryz.prog K10_168 noL Tryz.f99 [.iface 178 (S s), .agg ⟨[I 2, I pt, I qt, B wt, S ut]⟩] (fun _ => none) 0 (fun v _ _ => R v)) = ( bif decide (ByteArray.size s ≤ 9223372036854775807) then (∀ (x : Num), RdIs s (some x) → bif decide (ByteArray.size (szO (Prod.fst (Prod.snd x))) ≤ 9223372036854775807) then R (.tuple (.mk [.agg (.mk [I (Prod.fst (tkV (Prod.fst x) (bz (szO (Prod.fst (Prod.snd x)))) (Prod.snd (Prod.snd x)) (Ty.mk 2 pt qt wt ut))), S (ByteArray.mk #[])]), I (Prod.fst (Prod.snd (tkV (Prod.fst x) (bz (szO (Prod.fst (Prod.snd x)))) (Prod.snd (Prod.snd x)) (Ty.mk 2 pt qt wt ut)))), Value.nilIface])) else False) ∧ (RdIs s none → R (.tuple (.mk [.agg (.mk [I 0, S (ByteArray.mk #[])]), I 0, Value.iface 119 (.agg (.mk [S s]))]))) else False) := by kernel_rfl
theorem x99_c3 (s : ByteArray) (pt : Int) (qt : Int) (wt : Bool) (ut : ByteArray) (R : Value → Prop) : (bodyQ Tryz.prog K10_168 noL Tryz.f99 [.iface 178 (S s), .agg ⟨[I 3, I pt, I qt, B wt, S ut]⟩] (fun _ => none) 0 (fun v _ _ => R v)) = ( bif !wt || true then bif !wt || decide ((↑(ByteArray.size s) : Int) > pt) then bif decide (0 ≤ pt ∧ pt ≤ 1000) && true then ∀ (s' : ByteArray), szO (fillZ (bz s) (Int.toNat pt) (List.getD (bz (ByteArray.mk #[32])) 0 0)) = s' → R (.tuple (.mk [.agg (.mk [I 0, S s']), I 0, Value.nilIface])) else False else R (.tuple (.mk [.agg (.mk [I 0, S s]), I 0, Value.nilIface])) else False) := by kernel_rfl
theorem x99_c4 (s : ByteArray) (pt : Int) (qt : Int) (wt : Bool) (ut : ByteArray) (R : Value → Prop) : (bodyQ Tryz.prog K10_168 noL Tryz.f99 [.iface 178 (S s), .agg ⟨[I 4, I pt, I qt, B wt, S ut]⟩] (fun _ => none) 0 (fun v _ _ => R v)) = ( bif decide (ByteArray.size s ≤ 9223372036854775807) then (BitsIs s true → bif decide (0 ≤ pt ∧ pt ≤ 1000) && true then ∀ (s' : ByteArray), szO (fillZ (bz s) (Int.toNat pt) (List.getD (bz (ByteArray.mk #[48])) 0 0)) = s' → R (.tuple (.mk [.agg (.mk [I 0, S s']), I 0, Value.nilIface])) else False) ∧ (BitsIs s false → bif decide (0 ≤ pt ∧ pt ≤ 1000) && true then ∀ (s' : ByteArray), szO (fillZ (bz (ByteArray.mk #[])) (Int.toNat pt) (List.getD (bz (ByteArray.mk #[48])) 0 0)) = s' → R (.tuple (.mk [.agg (.mk [I 0, S s']), I 0, Value.iface 119 (.agg (.mk [S s]))])) else False) else False) := by kernel_rfl
end Go.Cx
end
noncomputable section
namespace Go.Cx
open Go Go.Ab Go.Proofs Go.Shelf Go.Px Go.Cv
theorem nz_len (l : List Int) : (nz l).length ≤ l.length := Nat.le_trans (tr_len _ _) (tl_len _ _)
theorem norm_len (g : Bool) (l : List Int) (q : Int) : (normZ g l q).2.1.length ≤ l.length := by
 unfold normZ
 split
 ·simp
 ·exact nz_len l
theorem decR_len {g : Bool} {l : List Int} {x : Num} (h : decR normZ g l = some x) : x.2.1.length ≤ l.length + l.length := by
 rw [decR_eq] at h
 cases hd : decE l with
 | none => rw [hd] at h; cases h
 | some e =>
  rw [hd] at h
  have h : decB g (Cv.ahead 69 l) e = some x := h
  unfold decB at h
  split at h
  ·cases h
   refine Nat.le_trans (norm_len _ _ _) ?_
   have h1 := ahead_le 69 l
   have h2 := ahead_le 46 (Cv.ahead 69 l)
   have h3 : ((past 46 (Cv.ahead 69 l)).getD []).length ≤ l.length := by
    rw [past_drop]
    split
    ·rw [Option.getD_some, List.length_drop]; omega
    ·simp
   rw [List.length_append]
   omega
  ·cases h
theorem bodR_len {g : Bool} {l : List Int} {x : Num} (hl : l.length ≤ 255) (h : bodR normZ binD g l = some x) : x.2.1.length ≤ 600 := by
 unfold bodR at h
 split at h
 ·split at h
  ·rename_i q
   cases h
   refine Nat.le_trans (norm_len _ _ _) ?_
   have hr := bin_31 q.2 (by rw [List.length_dropLast]; exact q.1)
   rw [binD, decZ, zl, List.length_map]
   have := decD_len 9 (binG l.dropLast 0).toNat (by omega)
   omega
  ·cases h
 ·have := decR_len h
  omega
theorem rdN_len (l : List Int) : ((rdN l).getD num0).2.1.length ≤ 600 := by
 cases h : rdN l with
 | none => simp [num0]
 | some x =>
  rw [Option.getD_some]
  unfold rdN at h
  split at h
  ·cases h
  rename_i hl
  have h1 := tr_len (tlZ l 32) 32
  have h2 := tl_len l 32
  unfold numR at h
  rw [trL_eq, trR_eq] at h
  generalize trZ (tlZ l 32) 32 = u at h h1
  unfold sgnR at h
  split at h
  ·cases h; simp
  ·rename_i r _; exact bodR_len (by simp at h1; omega) h
  ·rename_i r _; exact bodR_len (by simp at h1; omega) h
  ·exact bodR_len (by omega) h
end Go.Cx
end
noncomputable section
set_option maxHeartbeats 3200000
namespace Go.Cx
open Go Go.Ab Go.Proofs Go.Shelf Go.Px Go.Cv
open Go.Fx (Ty Vl check Valid most base pw bnd Fit fits tv vv tup V0 T0 pw_zero pw_succ wrap_mul pw_w64 str0)
inductive Fm where
 | w (n : Int) (t : Ty)
 | b (s : ByteArray)
 | c (s : ByteArray)
def numF : Fm → Option Num
 | .w n t => some (numA n t.q)
 | .b s => some (normZ false (binD (bz s)) 0)
 | .c s => rdN (bz s)
def txtF : Fm → List Int
 | .w n t => txtZ n t
 | .b s => bz s
 | .c s => bz s
def bitF : Fm → Option (List Int)
 | .w n t => some (inB (bitWd t).toNat (divT t.q.toNat (absI n)))
 | .b s => some (bz s)
 | .c s => if bitsZ (bz s) = true then some (bz s) else none
def cvG (f : Fm) (t : Ty) : Bool := if t.k = 1 ∨ t.k = 2 then (numF f).isSome else if t.k = 4 then (bitF f).isSome else true
def cvV (f : Fm) (t : Ty) : Int × List Int × Int :=
 if t.k = 1 ∨ t.k = 2 then ((tkV ((numF f).getD num0).1 (bz (szO ((numF f).getD num0).2.1)) ((numF f).getD num0).2.2 t).1, [], (tkV ((numF f).getD num0).1 (bz (szO ((numF f).getD num0).2.1)) ((numF f).getD num0).2.2 t).2.1)
 else if t.k = 4 then (0, fillZ ((bitF f).getD []) t.p.toNat 48, 0)
 else (0, if t.v = true ∧ ¬ ((txtF f).length : Int) > t.p then txtF f else fillZ (txtF f) t.p.toNat 32, 0)
def cvA (f : Fm) (t : Ty) : Bool := (match f with
 | .w n u => decide (Valid u ∧ -2147483648 ≤ n ∧ n ≤ 2147483648)
 | .b s => bitsZ (bz s) && decide (s.size ≤ 64)
 | .c s => decide (s.size ≤ 9223372036854775807)) && decide ((t.k = 1 ∨ t.k = 2 ∨ t.k = 3 ∨ t.k = 4) ∧ 0 ≤ t.p ∧ t.p ≤ 1000)
theorem cvO_ex : ∃ d : (Fm → Ty → Bool) × (Fm → Ty → Bool) × (Fm → Ty → Int × ByteArray × Int), d = (fun f t => cvA f t && cvG f t, fun f t => cvA f t && !cvG f t, fun f t => ((cvV f t).1, szO (cvV f t).2.1, (cvV f t).2.2)) := ⟨_, rfl⟩
def cvO : (Fm → Ty → Bool) × (Fm → Ty → Bool) × (Fm → Ty → Int × ByteArray × Int) := Classical.choose cvO_ex
theorem cvO_eq : cvO = (fun f t => cvA f t && cvG f t, fun f t => cvA f t && !cvG f t, fun f t => ((cvV f t).1, szO (cvV f t).2.1, (cvV f t).2.2)) := Classical.choose_spec cvO_ex
def decF : Value → Option Fm
 | .iface 174 (.agg ⟨[.int .i64 n, .int .i64 k, .int .i64 p, .int .i64 q, .bool w, .string u]⟩) => some (.w n ⟨k, p, q, w, u⟩)
 | .iface 175 (.string s) => some (.b s)
 | .iface 178 (.string s) => some (.c s)
 | _ => none
def s99 : Ab.Spec := fun args _ => match args with
 | [a, .agg ⟨[.int .i64 k, .int .i64 p, .int .i64 q, .bool w, .string u]⟩] => match decF a with
  | some f => some (cvO.1 f ⟨k, p, q, w, u⟩, .tuple ⟨[.agg ⟨[I (cvO.2.2 f ⟨k, p, q, w, u⟩).1, S (cvO.2.2 f ⟨k, p, q, w, u⟩).2.1]⟩, I (cvO.2.2 f ⟨k, p, q, w, u⟩).2.2, .nilIface]⟩)
  | none => none
 | _ => none
theorem decF_spec {a : Value} {f : Fm} (h : decF a = some f) : (∃ n k p q w u, a = .iface 174 (.agg ⟨[.int .i64 n, .int .i64 k, .int .i64 p, .int .i64 q, .bool w, .string u]⟩) ∧ f = .w n ⟨k, p, q, w, u⟩) ∨ (∃ s, a = .iface 175 (.string s) ∧ f = .b s) ∨ (∃ s, a = .iface 178 (.string s) ∧ f = .c s) := by
 unfold decF at h
 split at h
 ·cases h; exact .inl ⟨_, _, _, _, _, _, rfl, rfl⟩
 ·cases h; exact .inr (.inl ⟨_, rfl, rfl⟩)
 ·cases h; exact .inr (.inr ⟨_, rfl, rfl⟩)
 ·cases h
theorem numF_len {f : Fm} {t : Ty} (h : cvA f t = true) : ((numF f).getD num0).2.1.length ≤ 600 := by
 unfold cvA at h
 cases f with
 | w n u =>
  simp only [Bool.and_eq_true, decide_eq_true_eq] at h
  obtain ⟨⟨hv, h1, h2⟩, -⟩ := h
  show (numA n u.q).2.1.length ≤ 600
  refine Nat.le_trans (norm_len _ _ _) ?_
  have := ito_len (m := if n < 0 then -n else n) (by split <;> omega)
  omega
 | b s =>
  simp only [Bool.and_eq_true, decide_eq_true_eq] at h
  have hb := bin_64 h.1.1 (by rw [bz_length]; exact h.1.2)
  have hd := dz_len 20 (binG (bz s) 0) hb.1 (Int.lt_of_lt_of_le hb.2 (by decide))
  show (normZ false (binD (bz s)) 0).2.1.length ≤ 600
  rw [← norm_dz]
  exact Nat.le_trans (norm_len _ _ _) (by omega)
 | c s => exact rdN_len (bz s)
theorem fixU_isB (n q : Int) : IsB (fixU n q) := (rep48_isB _).append (ito_isB _)
theorem fixD_isB (n q : Int) : IsB (fixD n q) := by
 unfold fixD
 split
 ·exact ((fixU_isB n q).take _).append (IsB.cons (by omega) ((fixU_isB n q).drop _))
 ·exact ito_isB _
theorem txt_isB (n : Int) (t : Ty) : IsB (txtZ n t) := by
 unfold txtZ fixS
 refine (rep32_isB _).append ?_
 split
 ·exact IsB.cons (by omega) (fixD_isB _ _)
 ·exact fixD_isB _ _
theorem wcond {n k p q : Int} {w : Bool} {u : ByteArray} (h : Valid ⟨k, p, q, w, u⟩ ∧ -2147483648 ≤ n ∧ n ≤ 2147483648) : -2147483648 ≤ n ∧ n ≤ 2147483648 ∧ 0 ≤ q ∧ q ≤ 9 := by
 obtain ⟨v1, v2, v3, v4, v5⟩ := Fx.valid_r h.1
 exact ⟨h.2.1, h.2.2, v3, v5⟩
theorem cv1 {f : Fm} {t : Ty} (h : t.k = 1) : cvV f t = ((tkV ((numF f).getD num0).1 (bz (szO ((numF f).getD num0).2.1)) ((numF f).getD num0).2.2 t).1, [], (tkV ((numF f).getD num0).1 (bz (szO ((numF f).getD num0).2.1)) ((numF f).getD num0).2.2 t).2.1) := if_pos (.inl h)
theorem cv2 {f : Fm} {t : Ty} (h : t.k = 2) : cvV f t = ((tkV ((numF f).getD num0).1 (bz (szO ((numF f).getD num0).2.1)) ((numF f).getD num0).2.2 t).1, [], (tkV ((numF f).getD num0).1 (bz (szO ((numF f).getD num0).2.1)) ((numF f).getD num0).2.2 t).2.1) := if_pos (.inr h)
theorem k3_ok (x : ByteArray) (w : Bool) (p q : Int) (u : ByteArray) (f : Fm) (hT : ((3 : Int) = 1 ∨ (3 : Int) = 2 ∨ (3 : Int) = 3 ∨ (3 : Int) = 4) ∧ 0 ≤ p ∧ p ≤ 1000) (hx : txtF f = bz x) :
  bif !w || true then bif !w || decide ((↑(ByteArray.size x) : Int) > p) then bif decide (0 ≤ p ∧ p ≤ 1000) && true then
   ∀ (s' : ByteArray), szO (fillZ (bz x) (Int.toNat p) (List.getD (bz (ByteArray.mk #[32])) 0 0)) = s' → (Value.tuple ⟨[.agg ⟨[I 0, S s']⟩, I 0, .nilIface]⟩ = .tuple ⟨[.agg ⟨[I (cvV f ⟨3, p, q, w, u⟩).1, S (szO (cvV f ⟨3, p, q, w, u⟩).2.1)]⟩, I (cvV f ⟨3, p, q, w, u⟩).2.2, .nilIface]⟩) else False
   else (Value.tuple ⟨[.agg ⟨[I 0, S x]⟩, I 0, .nilIface]⟩ = .tuple ⟨[.agg ⟨[I (cvV f ⟨3, p, q, w, u⟩).1, S (szO (cvV f ⟨3, p, q, w, u⟩).2.1)]⟩, I (cvV f ⟨3, p, q, w, u⟩).2.2, .nilIface]⟩) else False := by
 have e : cvV f ⟨3, p, q, w, u⟩ = (0, if w = true ∧ ¬ ((txtF f).length : Int) > p then txtF f else fillZ (txtF f) p.toNat 32, 0) := by
  unfold cvV
  rw [if_neg (by simp), if_neg (by simp)]
 rw [e, hx, bz_length]
 refine c_t (Bool.or_true _) (cond_intro (fun h => ?_) (fun h => ?_))
 ·refine c_t (by rw [decide_eq_true hT.2]; rfl) fun s' hs => ?_
  rw [if_neg, ← hs]
  ·rfl
  ·rintro ⟨h1, h2⟩
   rw [h1, decide_eq_false h2] at h
   cases h
 ·rw [if_pos, szO_eq, sz_bz]
  cases w <;> simp at h ⊢
  omega
theorem k4_ok (x : ByteArray) (w : Bool) (p q : Int) (u : ByteArray) (f : Fm) (hT : ((4 : Int) = 1 ∨ (4 : Int) = 2 ∨ (4 : Int) = 3 ∨ (4 : Int) = 4) ∧ 0 ≤ p ∧ p ≤ 1000) (hx : bitF f = some (bz x)) :
  bif decide (0 ≤ p ∧ p ≤ 1000) && true then
   ∀ (s' : ByteArray), szO (fillZ (bz x) (Int.toNat p) (List.getD (bz (ByteArray.mk #[48])) 0 0)) = s' → (Value.tuple ⟨[.agg ⟨[I 0, S s']⟩, I 0, .nilIface]⟩ = .tuple ⟨[.agg ⟨[I (cvV f ⟨4, p, q, w, u⟩).1, S (szO (cvV f ⟨4, p, q, w, u⟩).2.1)]⟩, I (cvV f ⟨4, p, q, w, u⟩).2.2, .nilIface]⟩) else False := by
 have e : cvV f ⟨4, p, q, w, u⟩ = (0, fillZ ((bitF f).getD []) p.toNat 48, 0) := by
  unfold cvV
  rw [if_neg (by simp), if_pos rfl]
 rw [e, hx]
 refine c_t (by rw [decide_eq_true hT.2]; rfl) fun s' hs => ?_
 rw [← hs]
 rfl
theorem ok99 : PureOK Tryz.prog 99 s99 := by
 refine pure_ofQ ok_K10_168 hmix fn99 lokf_none fun args bs v hs => ?_
 unfold s99 at hs
 split at hs
 case h_2 => cases hs
 rename_i a k p q w u
 split at hs
 case h_2 => cases hs
 rename_i f hf
 rw [cvO_eq] at hs
 simp only [Option.some.injEq, Prod.mk.injEq, Bool.and_eq_true] at hs
 obtain ⟨⟨hA, hG⟩, rfl⟩ := hs
 have hl := numF_len hA
 unfold cvA at hA
 simp only [Bool.and_eq_true, decide_eq_true_eq] at hA
 obtain ⟨hA, hT⟩ := hA
 rcases decF_spec hf with ⟨n, k', p', q', w', u', rfl, rfl⟩ | ⟨s, rfl, rfl⟩ | ⟨s, rfl, rfl⟩
 all_goals simp only [Bool.and_eq_true, decide_eq_true_eq] at hA
 ·rcases hT.1 with rfl | rfl | rfl | rfl
  ·-- w1
   refine ⟨rfl, Nat.le_of_ble_eq_true (by kernel_rfl), ?_⟩
   rw [DoesQ, x99_w1]
   refine c_t (decide_eq_true (wcond hA)) fun x hx => ?_
   have hx := hx.h
   subst hx; rw [cv1 rfl]
   rw [szO_nil]; exact c_t (decide_eq_true (by rw [szO_size]; exact Nat.le_trans hl (by decide))) rfl
  ·-- w2
   refine ⟨rfl, Nat.le_of_ble_eq_true (by kernel_rfl), ?_⟩
   rw [DoesQ, x99_w2]
   refine c_t (decide_eq_true (wcond hA)) fun x hx => ?_
   have hx := hx.h
   subst hx; rw [cv2 rfl]
   rw [szO_nil]; exact c_t (decide_eq_true (by rw [szO_size]; exact Nat.le_trans hl (by decide))) rfl
  ·-- w3
   refine ⟨rfl, Nat.le_of_ble_eq_true (by kernel_rfl), ?_⟩
   rw [DoesQ, x99_w3]
   refine c_t (decide_eq_true hA) ?_
   refine k3_ok (szO (txtZ n ⟨k', p', q', w', u'⟩)) w p q u _ hT ?_
   exact (bz_szO (txt_isB _ _)).symm
  ·-- w4
   refine ⟨rfl, Nat.le_of_ble_eq_true (by kernel_rfl), ?_⟩
   rw [DoesQ, x99_w4]
   refine c_t (decide_eq_true hA) fun s hs => ?_
   have hs := hs.h
   refine k4_ok s w p q u _ hT ?_
   rw [← hs, bz_szO (inB_isB _ _)]; rfl
 ·rcases hT.1 with rfl | rfl | rfl | rfl
  ·-- b1
   refine ⟨rfl, Nat.le_of_ble_eq_true (by kernel_rfl), ?_⟩
   rw [DoesQ, x99_b1]
   refine c_t (by rw [hA.1, decide_eq_true hA.2]; rfl) fun x hx => ?_
   have hx := hx.h
   subst hx; rw [cv1 rfl]
   rw [szO_nil]; exact c_t (decide_eq_true (by rw [szO_size]; exact Nat.le_trans hl (by decide))) rfl
  ·-- b2
   refine ⟨rfl, Nat.le_of_ble_eq_true (by kernel_rfl), ?_⟩
   rw [DoesQ, x99_b2]
   refine c_t (by rw [hA.1, decide_eq_true hA.2]; rfl) fun x hx => ?_
   have hx := hx.h
   subst hx; rw [cv2 rfl]
   rw [szO_nil]; exact c_t (decide_eq_true (by rw [szO_size]; exact Nat.le_trans hl (by decide))) rfl
  ·-- b3
   refine ⟨rfl, Nat.le_of_ble_eq_true (by kernel_rfl), ?_⟩
   rw [DoesQ, x99_b3]
   refine k3_ok (s) w p q u _ hT ?_
   exact rfl
  ·-- b4
   refine ⟨rfl, Nat.le_of_ble_eq_true (by kernel_rfl), ?_⟩
   rw [DoesQ, x99_b4]
   exact k4_ok s w p q u _ hT rfl
 ·rcases hT.1 with rfl | rfl | rfl | rfl
  ·-- c1
   refine ⟨rfl, Nat.le_of_ble_eq_true (by kernel_rfl), ?_⟩
   rw [DoesQ, x99_c1]
   refine c_t (decide_eq_true hA) ⟨fun x hx => ?_, fun hx => ?_⟩
   rotate_left
   ·exfalso; have := hx.h; simp [cvG, numF, this] at hG
   have hx := hx.h
   rw [cv1 rfl, show numF (.c s) = some x from hx] at *
   rw [szO_nil]; exact c_t (decide_eq_true (by rw [szO_size]; exact Nat.le_trans hl (by decide))) rfl
  ·-- c2
   refine ⟨rfl, Nat.le_of_ble_eq_true (by kernel_rfl), ?_⟩
   rw [DoesQ, x99_c2]
   refine c_t (decide_eq_true hA) ⟨fun x hx => ?_, fun hx => ?_⟩
   rotate_left
   ·exfalso; have := hx.h; simp [cvG, numF, this] at hG
   have hx := hx.h
   rw [cv2 rfl, show numF (.c s) = some x from hx] at *
   rw [szO_nil]; exact c_t (decide_eq_true (by rw [szO_size]; exact Nat.le_trans hl (by decide))) rfl
  ·-- c3
   refine ⟨rfl, Nat.le_of_ble_eq_true (by kernel_rfl), ?_⟩
   rw [DoesQ, x99_c3]
   refine k3_ok (s) w p q u _ hT ?_
   exact rfl
  ·-- c4
   refine ⟨rfl, Nat.le_of_ble_eq_true (by kernel_rfl), ?_⟩
   rw [DoesQ, x99_c4]
   refine c_t (decide_eq_true hA) ⟨fun hx => ?_, fun hx => ?_⟩
   ·refine k4_ok s w p q u _ hT ?_
    show (if bitsZ (bz s) = true then some (bz s) else none) = _
    rw [if_pos hx.h]
   ·exfalso; have := hx.h; simp [cvG, bitF, this] at hG
end Go.Cx
end
noncomputable section
set_option maxHeartbeats 3200000
namespace Go.Cx
open Go Go.Ab Go.Proofs Go.Shelf Go.Px Go.Cv
open Go.Fx (Ty Vl check Valid most base pw bnd Fit fits tv vv tup V0 T0 pw_zero pw_succ wrap_mul pw_w64 str0)
def K11 : Env := K10.add 99 s99
theorem ok_K11 : EnvOK Tryz.prog K11 := env_add ok_K10 ok99
theorem x34_11 (v : Vl) (pf : Int) (qf : Int) (wf : Bool) (uf : ByteArray) (pt : Int) (qt : Int) (wt : Bool) (ut : ByteArray) (R : Value → Prop) : (bodyQ Tryz.prog K11 noL Tryz.f34 [Enc.enc v, .agg ⟨[I 1, I pf, I qf, B wf, S uf]⟩, .agg ⟨[I 1, I pt, I qt, B wt, S ut]⟩] (fun _ => none) 0 (fun v _ _ => R v)) = ( bif fitO v (Ty.mk 1 pf qf wf uf) then bif chkO (Ty.mk 1 pt qt wt ut) then bif Prod.fst cvO (Fm.w (Vl.n v) (Ty.mk 1 pf qf wf uf)) (Ty.mk 1 pt qt wt ut) then R (.tuple (.mk [.agg (.mk [I (Prod.fst (Prod.snd (Prod.snd cvO) (Fm.w (Vl.n v) (Ty.mk 1 pf qf wf uf)) (Ty.mk 1 pt qt wt ut))), S (Prod.fst (Prod.snd (Prod.snd (Prod.snd cvO) (Fm.w (Vl.n v) (Ty.mk 1 pf qf wf uf)) (Ty.mk 1 pt qt wt ut))))]), I (Prod.snd (Prod.snd (Prod.snd (Prod.snd cvO) (Fm.w (Vl.n v) (Ty.mk 1 pf qf wf uf)) (Ty.mk 1 pt qt wt ut)))), I 0])) else False else False else False) := by kernel_rfl
theorem x34_12 (v : Vl) (pf : Int) (qf : Int) (wf : Bool) (uf : ByteArray) (pt : Int) (qt : Int) (wt : Bool) (ut : ByteArray) (R : Value → Prop) : (bodyQ Tryz.prog K11 noL Tryz.f34 [Enc.enc v, .agg ⟨[I 1, I pf, I qf, B wf, S uf]⟩, .agg ⟨[I 2, I pt, I qt, B wt, S ut]⟩] (fun _ => none) 0 (fun v _ _ => R v)) = ( bif fitO v (Ty.mk 1 pf qf wf uf) then bif chkO (Ty.mk 2 pt qt wt ut) then bif Prod.fst cvO (Fm.w (Vl.n v) (Ty.mk 1 pf qf wf uf)) (Ty.mk 2 pt qt wt ut) then R (.tuple (.mk [.agg (.mk [I (Prod.fst (Prod.snd (Prod.snd cvO) (Fm.w (Vl.n v) (Ty.mk 1 pf qf wf uf)) (Ty.mk 2 pt qt wt ut))), S (Prod.fst (Prod.snd (Prod.snd (Prod.snd cvO) (Fm.w (Vl.n v) (Ty.mk 1 pf qf wf uf)) (Ty.mk 2 pt qt wt ut))))]), I (Prod.snd (Prod.snd (Prod.snd (Prod.snd cvO) (Fm.w (Vl.n v) (Ty.mk 1 pf qf wf uf)) (Ty.mk 2 pt qt wt ut)))), I 0])) else False else False else False) := by kernel_rfl
theorem x34_13 (v : Vl) (pf : Int) (qf : Int) (wf : Bool) (uf : ByteArray) (pt : Int) (qt : Int) (wt : Bool) (ut : ByteArray) (R : Value → Prop) : (bodyQ Tryz.prog K11 noL Tryz.f34 [Enc.enc v, .agg ⟨[I 1, I pf, I qf, B wf, S uf]⟩, .agg ⟨[I 3, I pt, I qt, B wt, S ut]⟩] (fun _ => none) 0 (fun v _ _ => R v)) = ( bif fitO v (Ty.mk 1 pf qf wf uf) then bif chkO (Ty.mk 3 pt qt wt ut) then bif Prod.fst cvO (Fm.w (Vl.n v) (Ty.mk 1 pf qf wf uf)) (Ty.mk 3 pt qt wt ut) then R (.tuple (.mk [.agg (.mk [I (Prod.fst (Prod.snd (Prod.snd cvO) (Fm.w (Vl.n v) (Ty.mk 1 pf qf wf uf)) (Ty.mk 3 pt qt wt ut))), S (Prod.fst (Prod.snd (Prod.snd (Prod.snd cvO) (Fm.w (Vl.n v) (Ty.mk 1 pf qf wf uf)) (Ty.mk 3 pt qt wt ut))))]), I (Prod.snd (Prod.snd (Prod.snd (Prod.snd cvO) (Fm.w (Vl.n v) (Ty.mk 1 pf qf wf uf)) (Ty.mk 3 pt qt wt ut)))), I 0])) else False else False else False) := by kernel_rfl
theorem x34_14 (v : Vl) (pf : Int) (qf : Int) (wf : Bool) (uf : ByteArray) (pt : Int) (qt : Int) (wt : Bool) (ut : ByteArray) (R : Value → Prop) : (bodyQ Tryz.prog K11 noL Tryz.f34 [Enc.enc v, .agg ⟨[I 1, I pf, I qf, B wf, S uf]⟩, .agg ⟨[I 4, I pt, I qt, B wt, S ut]⟩] (fun _ => none) 0 (fun v _ _ => R v)) = ( bif fitO v (Ty.mk 1 pf qf wf uf) then bif chkO (Ty.mk 4 pt qt wt ut) then bif Prod.fst cvO (Fm.w (Vl.n v) (Ty.mk 1 pf qf wf uf)) (Ty.mk 4 pt qt wt ut) then R (.tuple (.mk [.agg (.mk [I (Prod.fst (Prod.snd (Prod.snd cvO) (Fm.w (Vl.n v) (Ty.mk 1 pf qf wf uf)) (Ty.mk 4 pt qt wt ut))), S (Prod.fst (Prod.snd (Prod.snd (Prod.snd cvO) (Fm.w (Vl.n v) (Ty.mk 1 pf qf wf uf)) (Ty.mk 4 pt qt wt ut))))]), I (Prod.snd (Prod.snd (Prod.snd (Prod.snd cvO) (Fm.w (Vl.n v) (Ty.mk 1 pf qf wf uf)) (Ty.mk 4 pt qt wt ut)))), I 0])) else False else False else False) := by kernel_rfl
theorem x34_21 (v : Vl) (pf : Int) (qf : Int) (wf : Bool) (uf : ByteArray) (pt : Int) (qt : Int) (wt : Bool) (ut : ByteArray) (R : Value → Prop) : (bodyQ Tryz.prog K11 noL Tryz.f34 [Enc.enc v, .agg ⟨[I 2, I pf, I qf, B wf, S uf]⟩, .agg ⟨[I 1, I pt, I qt, B wt, S ut]⟩] (fun _ => none) 0 (fun v _ _ => R v)) = ( bif fitO v (Ty.mk 2 pf qf wf uf) then bif chkO (Ty.mk 1 pt qt wt ut) then bif Prod.fst cvO (Fm.w (Vl.n v) (Ty.mk 2 pf qf wf uf)) (Ty.mk 1 pt qt wt ut) then R (.tuple (.mk [.agg (.mk [I (Prod.fst (Prod.snd (Prod.snd cvO) (Fm.w (Vl.n v) (Ty.mk 2 pf qf wf uf)) (Ty.mk 1 pt qt wt ut))), S (Prod.fst (Prod.snd (Prod.snd (Prod.snd cvO) (Fm.w (Vl.n v) (Ty.mk 2 pf qf wf uf)) (Ty.mk 1 pt qt wt ut))))]), I (Prod.snd (Prod.snd (Prod.snd (Prod.snd cvO) (Fm.w (Vl.n v) (Ty.mk 2 pf qf wf uf)) (Ty.mk 1 pt qt wt ut)))), I 0])) else False else False else False) := by kernel_rfl
theorem x34_22 (v : Vl) (pf : Int) (qf : Int) (wf : Bool) (uf : ByteArray) (pt : Int) (qt : Int) (wt : Bool) (ut : ByteArray) (R : Value → Prop) : (bodyQ Tryz.prog K11 noL Tryz.f34 [Enc.enc v, .agg ⟨[I 2, I pf, I qf, B wf, S uf]⟩, .agg ⟨[I 2, I pt, I qt, B wt, S ut]⟩] (fun _ => none) 0 (fun v _ _ => R v)) = ( bif fitO v (Ty.mk 2 pf qf wf uf) then bif chkO (Ty.mk 2 pt qt wt ut) then bif Prod.fst cvO (Fm.w (Vl.n v) (Ty.mk 2 pf qf wf uf)) (Ty.mk 2 pt qt wt ut) then R (.tuple (.mk [.agg (.mk [I (Prod.fst (Prod.snd (Prod.snd cvO) (Fm.w (Vl.n v) (Ty.mk 2 pf qf wf uf)) (Ty.mk 2 pt qt wt ut))), S (Prod.fst (Prod.snd (Prod.snd (Prod.snd cvO) (Fm.w (Vl.n v) (Ty.mk 2 pf qf wf uf)) (Ty.mk 2 pt qt wt ut))))]), I (Prod.snd (Prod.snd (Prod.snd (Prod.snd cvO) (Fm.w (Vl.n v) (Ty.mk 2 pf qf wf uf)) (Ty.mk 2 pt qt wt ut)))), I 0])) else False else False else False) := by kernel_rfl
theorem x34_23 (v : Vl) (pf : Int) (qf : Int) (wf : Bool) (uf : ByteArray) (pt : Int) (qt : Int) (wt : Bool) (ut : ByteArray) (R : Value → Prop) : (bodyQ Tryz.prog K11 noL Tryz.f34 [Enc.enc v, .agg ⟨[I 2, I pf, I qf, B wf, S uf]⟩, .agg ⟨[I 3, I pt, I qt, B wt, S ut]⟩] (fun _ => none) 0 (fun v _ _ => R v)) = ( bif fitO v (Ty.mk 2 pf qf wf uf) then bif chkO (Ty.mk 3 pt qt wt ut) then bif Prod.fst cvO (Fm.w (Vl.n v) (Ty.mk 2 pf qf wf uf)) (Ty.mk 3 pt qt wt ut) then R (.tuple (.mk [.agg (.mk [I (Prod.fst (Prod.snd (Prod.snd cvO) (Fm.w (Vl.n v) (Ty.mk 2 pf qf wf uf)) (Ty.mk 3 pt qt wt ut))), S (Prod.fst (Prod.snd (Prod.snd (Prod.snd cvO) (Fm.w (Vl.n v) (Ty.mk 2 pf qf wf uf)) (Ty.mk 3 pt qt wt ut))))]), I (Prod.snd (Prod.snd (Prod.snd (Prod.snd cvO) (Fm.w (Vl.n v) (Ty.mk 2 pf qf wf uf)) (Ty.mk 3 pt qt wt ut)))), I 0])) else False else False else False) := by kernel_rfl
theorem x34_24 (v : Vl) (pf : Int) (qf : Int) (wf : Bool) (uf : ByteArray) (pt : Int) (qt : Int) (wt : Bool) (ut : ByteArray) (R : Value → Prop) : (bodyQ Tryz.prog K11 noL Tryz.f34 [Enc.enc v, .agg ⟨[I 2, I pf, I qf, B wf, S uf]⟩, .agg ⟨[I 4, I pt, I qt, B wt, S ut]⟩] (fun _ => none) 0 (fun v _ _ => R v)) = ( bif fitO v (Ty.mk 2 pf qf wf uf) then bif chkO (Ty.mk 4 pt qt wt ut) then bif Prod.fst cvO (Fm.w (Vl.n v) (Ty.mk 2 pf qf wf uf)) (Ty.mk 4 pt qt wt ut) then R (.tuple (.mk [.agg (.mk [I (Prod.fst (Prod.snd (Prod.snd cvO) (Fm.w (Vl.n v) (Ty.mk 2 pf qf wf uf)) (Ty.mk 4 pt qt wt ut))), S (Prod.fst (Prod.snd (Prod.snd (Prod.snd cvO) (Fm.w (Vl.n v) (Ty.mk 2 pf qf wf uf)) (Ty.mk 4 pt qt wt ut))))]), I (Prod.snd (Prod.snd (Prod.snd (Prod.snd cvO) (Fm.w (Vl.n v) (Ty.mk 2 pf qf wf uf)) (Ty.mk 4 pt qt wt ut)))), I 0])) else False else False else False) := by kernel_rfl
theorem x34_31 (v : Vl) (pf : Int) (qf : Int) (wf : Bool) (uf : ByteArray) (pt : Int) (qt : Int) (wt : Bool) (ut : ByteArray) (R : Value → Prop) : (bodyQ Tryz.prog K11 noL Tryz.f34 [Enc.enc v, .agg ⟨[I 3, I pf, I qf, B wf, S uf]⟩, .agg ⟨[I 1, I pt, I qt, B wt, S ut]⟩] (fun _ => none) 0 (fun v _ _ => R v)) = ( bif fitO v (Ty.mk 3 pf qf wf uf) then bif chkO (Ty.mk 1 pt qt wt ut) then bif Prod.fst cvO (Fm.c (Vl.s v)) (Ty.mk 1 pt qt wt ut) then R (.tuple (.mk [.agg (.mk [I (Prod.fst (Prod.snd (Prod.snd cvO) (Fm.c (Vl.s v)) (Ty.mk 1 pt qt wt ut))), S (Prod.fst (Prod.snd (Prod.snd (Prod.snd cvO) (Fm.c (Vl.s v)) (Ty.mk 1 pt qt wt ut))))]), I (Prod.snd (Prod.snd (Prod.snd (Prod.snd cvO) (Fm.c (Vl.s v)) (Ty.mk 1 pt qt wt ut)))), I 0])) else False else False else False) := by kernel_rfl
theorem x34_32 (v : Vl) (pf : Int) (qf : Int) (wf : Bool) (uf : ByteArray) (pt : Int) (qt : Int) (wt : Bool) (ut : ByteArray) (R : Value → Prop) : (bodyQ Tryz.prog K11 noL Tryz.f34 [Enc.enc v, .agg ⟨[I 3, I pf, I qf, B wf, S uf]⟩, .agg ⟨[I 2, I pt, I qt, B wt, S ut]⟩] (fun _ => none) 0 (fun v _ _ => R v)) = ( bif fitO v (Ty.mk 3 pf qf wf uf) then bif chkO (Ty.mk 2 pt qt wt ut) then bif Prod.fst cvO (Fm.c (Vl.s v)) (Ty.mk 2 pt qt wt ut) then R (.tuple (.mk [.agg (.mk [I (Prod.fst (Prod.snd (Prod.snd cvO) (Fm.c (Vl.s v)) (Ty.mk 2 pt qt wt ut))), S (Prod.fst (Prod.snd (Prod.snd (Prod.snd cvO) (Fm.c (Vl.s v)) (Ty.mk 2 pt qt wt ut))))]), I (Prod.snd (Prod.snd (Prod.snd (Prod.snd cvO) (Fm.c (Vl.s v)) (Ty.mk 2 pt qt wt ut)))), I 0])) else False else False else False) := by kernel_rfl
theorem x34_33 (v : Vl) (pf : Int) (qf : Int) (wf : Bool) (uf : ByteArray) (pt : Int) (qt : Int) (wt : Bool) (ut : ByteArray) (R : Value → Prop) : (bodyQ Tryz.prog K11 noL Tryz.f34 [Enc.enc v, .agg ⟨[I 3, I pf, I qf, B wf, S uf]⟩, .agg ⟨[I 3, I pt, I qt, B wt, S ut]⟩] (fun _ => none) 0 (fun v _ _ => R v)) = ( bif fitO v (Ty.mk 3 pf qf wf uf) then bif chkO (Ty.mk 3 pt qt wt ut) then bif Prod.fst cvO (Fm.c (Vl.s v)) (Ty.mk 3 pt qt wt ut) then R (.tuple (.mk [.agg (.mk [I (Prod.fst (Prod.snd (Prod.snd cvO) (Fm.c (Vl.s v)) (Ty.mk 3 pt qt wt ut))), S (Prod.fst (Prod.snd (Prod.snd (Prod.snd cvO) (Fm.c (Vl.s v)) (Ty.mk 3 pt qt wt ut))))]), I (Prod.snd (Prod.snd (Prod.snd (Prod.snd cvO) (Fm.c (Vl.s v)) (Ty.mk 3 pt qt wt ut)))), I 0])) else False else False else False) := by kernel_rfl
theorem x34_34 (v : Vl) (pf : Int) (qf : Int) (wf : Bool) (uf : ByteArray) (pt : Int) (qt : Int) (wt : Bool) (ut : ByteArray) (R : Value → Prop) : (bodyQ Tryz.prog K11 noL Tryz.f34 [Enc.enc v, .agg ⟨[I 3, I pf, I qf, B wf, S uf]⟩, .agg ⟨[I 4, I pt, I qt, B wt, S ut]⟩] (fun _ => none) 0 (fun v _ _ => R v)) = ( bif fitO v (Ty.mk 3 pf qf wf uf) then bif chkO (Ty.mk 4 pt qt wt ut) then bif Prod.fst cvO (Fm.c (Vl.s v)) (Ty.mk 4 pt qt wt ut) then R (.tuple (.mk [.agg (.mk [I (Prod.fst (Prod.snd (Prod.snd cvO) (Fm.c (Vl.s v)) (Ty.mk 4 pt qt wt ut))), S (Prod.fst (Prod.snd (Prod.snd (Prod.snd cvO) (Fm.c (Vl.s v)) (Ty.mk 4 pt qt wt ut))))]), I (Prod.snd (Prod.snd (Prod.snd (Prod.snd cvO) (Fm.c (Vl.s v)) (Ty.mk 4 pt qt wt ut)))), I 0])) else False else False else False) := by kernel_rfl
theorem x34_41 (v : Vl) (pf : Int) (qf : Int) (wf : Bool) (uf : ByteArray) (pt : Int) (qt : Int) (wt : Bool) (ut : ByteArray) (R : Value → Prop) : (bodyQ Tryz.prog K11 noL Tryz.f34 [Enc.enc v, .agg ⟨[I 4, I pf, I qf, B wf, S uf]⟩, .agg ⟨[I 1, I pt, I qt, B wt, S ut]⟩] (fun _ => none) 0 (fun v _ _ => R v)) = ( bif fitO v (Ty.mk 4 pf qf wf uf) then bif chkO (Ty.mk 1 pt qt wt ut) then bif Prod.fst cvO (Fm.b (Vl.s v)) (Ty.mk 1 pt qt wt ut) then R (.tuple (.mk [.agg (.mk [I (Prod.fst (Prod.snd (Prod.snd cvO) (Fm.b (Vl.s v)) (Ty.mk 1 pt qt wt ut))), S (Prod.fst (Prod.snd (Prod.snd (Prod.snd cvO) (Fm.b (Vl.s v)) (Ty.mk 1 pt qt wt ut))))]), I (Prod.snd (Prod.snd (Prod.snd (Prod.snd cvO) (Fm.b (Vl.s v)) (Ty.mk 1 pt qt wt ut)))), I 0])) else False else False else False) := by kernel_rfl
theorem x34_42 (v : Vl) (pf : Int) (qf : Int) (wf : Bool) (uf : ByteArray) (pt : Int) (qt : Int) (wt : Bool) (ut : ByteArray) (R : Value → Prop) : (bodyQ Tryz.prog K11 noL Tryz.f34 [Enc.enc v, .agg ⟨[I 4, I pf, I qf, B wf, S uf]⟩, .agg ⟨[I 2, I pt, I qt, B wt, S ut]⟩] (fun _ => none) 0 (fun v _ _ => R v)) = ( bif fitO v (Ty.mk 4 pf qf wf uf) then bif chkO (Ty.mk 2 pt qt wt ut) then bif Prod.fst cvO (Fm.b (Vl.s v)) (Ty.mk 2 pt qt wt ut) then R (.tuple (.mk [.agg (.mk [I (Prod.fst (Prod.snd (Prod.snd cvO) (Fm.b (Vl.s v)) (Ty.mk 2 pt qt wt ut))), S (Prod.fst (Prod.snd (Prod.snd (Prod.snd cvO) (Fm.b (Vl.s v)) (Ty.mk 2 pt qt wt ut))))]), I (Prod.snd (Prod.snd (Prod.snd (Prod.snd cvO) (Fm.b (Vl.s v)) (Ty.mk 2 pt qt wt ut)))), I 0])) else False else False else False) := by kernel_rfl
theorem x34_43 (v : Vl) (pf : Int) (qf : Int) (wf : Bool) (uf : ByteArray) (pt : Int) (qt : Int) (wt : Bool) (ut : ByteArray) (R : Value → Prop) : (bodyQ Tryz.prog K11 noL Tryz.f34 [Enc.enc v, .agg ⟨[I 4, I pf, I qf, B wf, S uf]⟩, .agg ⟨[I 3, I pt, I qt, B wt, S ut]⟩] (fun _ => none) 0 (fun v _ _ => R v)) = ( bif fitO v (Ty.mk 4 pf qf wf uf) then bif chkO (Ty.mk 3 pt qt wt ut) then bif Prod.fst cvO (Fm.b (Vl.s v)) (Ty.mk 3 pt qt wt ut) then R (.tuple (.mk [.agg (.mk [I (Prod.fst (Prod.snd (Prod.snd cvO) (Fm.b (Vl.s v)) (Ty.mk 3 pt qt wt ut))), S (Prod.fst (Prod.snd (Prod.snd (Prod.snd cvO) (Fm.b (Vl.s v)) (Ty.mk 3 pt qt wt ut))))]), I (Prod.snd (Prod.snd (Prod.snd (Prod.snd cvO) (Fm.b (Vl.s v)) (Ty.mk 3 pt qt wt ut)))), I 0])) else False else False else False) := by kernel_rfl
theorem x34_44 (v : Vl) (pf : Int) (qf : Int) (wf : Bool) (uf : ByteArray) (pt : Int) (qt : Int) (wt : Bool) (ut : ByteArray) (R : Value → Prop) : (bodyQ Tryz.prog K11 noL Tryz.f34 [Enc.enc v, .agg ⟨[I 4, I pf, I qf, B wf, S uf]⟩, .agg ⟨[I 4, I pt, I qt, B wt, S ut]⟩] (fun _ => none) 0 (fun v _ _ => R v)) = ( bif fitO v (Ty.mk 4 pf qf wf uf) then bif chkO (Ty.mk 4 pt qt wt ut) then bif Prod.fst cvO (Fm.b (Vl.s v)) (Ty.mk 4 pt qt wt ut) then R (.tuple (.mk [.agg (.mk [I (Prod.fst (Prod.snd (Prod.snd cvO) (Fm.b (Vl.s v)) (Ty.mk 4 pt qt wt ut))), S (Prod.fst (Prod.snd (Prod.snd (Prod.snd cvO) (Fm.b (Vl.s v)) (Ty.mk 4 pt qt wt ut))))]), I (Prod.snd (Prod.snd (Prod.snd (Prod.snd cvO) (Fm.b (Vl.s v)) (Ty.mk 4 pt qt wt ut)))), I 0])) else False else False else False) := by kernel_rfl
def formT (v : Vl) (f : Ty) : Fm := if f.k = 1 ∨ f.k = 2 then .w v.n f else if f.k = 4 then .b v.s else .c v.s
def okAA (v : Vl) (f t : Ty) : Prop := fit4 v f = 0 ∧ chk4 t = 0 ∧ f.s.size ≤ 9223372036854775807 ∧ t.s.size ≤ 9223372036854775807 ∧ v.s.size ≤ 9223372036854775807 ∧ (f.k = 1 ∨ f.k = 2 ∨ f.k = 3 ∨ f.k = 4) ∧ (t.k = 1 ∨ t.k = 2 ∨ t.k = 3 ∨ t.k = 4)
instance (v : Vl) (f t : Ty) : Decidable (okAA v f t) := by unfold okAA; infer_instance
def s34 (v : Vl) (f t : Ty) : Bool × Value := (decide (okAA v f t) && cvG (formT v f) t, .tuple ⟨[.agg ⟨[I (cvV (formT v f) t).1, S (szO (cvV (formT v f) t).2.1)]⟩, I (cvV (formT v f) t).2.2, I 0]⟩)
theorem chk4_facts {t : Ty} (h : chk4 t = 0) : ((t.k = 1 ∨ t.k = 2) → Valid t) ∧ (t.k = 3 → 0 ≤ t.p ∧ t.p ≤ 255) ∧ (t.k = 4 → 0 ≤ t.p ∧ t.p ≤ 64) := by
 unfold chk4 at h
 have hv : Valid t → t.k = 1 ∨ t.k = 2 := fun h => h.1
 grind
theorem fit4_facts {v : Vl} {t : Ty} (h : fit4 v t = 0) : chk4 t = 0 ∧ is4 v t = true := by
 unfold fit4 at h
 split at h
 ·rename_i q; exact absurd h q
 ·rename_i q
  split at h
  ·rename_i r; exact ⟨by simpa using q, r⟩
  ·cases h
theorem cvA_of {v : Vl} {f t : Ty} (h : okAA v f t) : cvA (formT v f) t = true := by
 obtain ⟨h1, h2, h3, h4, h5, hf, ht⟩ := h
 obtain ⟨c1, i1⟩ := fit4_facts h1
 obtain ⟨f1, f2, f3⟩ := chk4_facts c1
 obtain ⟨t1, t2, t3⟩ := chk4_facts h2
 have hp : 0 ≤ t.p ∧ t.p ≤ 1000 := by
  rcases ht with q | q | q | q
  ·have := Fx.valid_r (t1 (.inl q)); omega
  ·have := Fx.valid_r (t1 (.inr q)); omega
  ·have := t2 q; omega
  ·have := t3 q; omega
 unfold cvA formT
 rw [Bool.and_eq_true]
 refine ⟨?_, decide_eq_true ⟨ht, hp⟩⟩
 unfold is4 at i1
 by_cases k12 : f.k = 1 ∨ f.k = 2
 ·rw [if_pos k12] at i1 ⊢
  have hv := f1 k12
  have hb := Fx.bnd_range hv
  have i1 : Fx.fits v f = 0 := by simpa using i1
  unfold Fx.fits at i1
  rw [if_pos hv] at i1
  split at i1
  ·rename_i hF
   obtain ⟨-, g1, g2⟩ := hF
   exact decide_eq_true ⟨hv, by omega, by omega⟩
  ·cases i1
 ·rw [if_neg k12] at i1 ⊢
  by_cases k4 : f.k = 4
  ·rw [if_pos k4]
   rw [if_neg (by omega), if_pos k4] at i1
   simp only [Bool.and_eq_true, decide_eq_true_eq] at i1
   have := f3 k4
   show (bitsZ (bz v.s) && decide (v.s.size ≤ 64)) = true
   rw [i1.2, decide_eq_true (show v.s.size ≤ 64 by omega)]
   rfl
  ·rw [if_neg k4]
   exact decide_eq_true h5
theorem ok34 : PureOK Tryz.prog 34 (sp3 s34) := by
 refine qure3 ok_K11 hmix fn34 lokf_none (Nat.le_of_ble_eq_true (by kernel_rfl)) fun v f t hc => ?_
 have hc : (decide (okAA v f t) && cvG (formT v f) t) = true := hc
 rw [Bool.and_eq_true] at hc
 have ha := of_decide_eq_true hc.1
 have h3 : cvO.1 (formT v f) t = true := by rw [cvO_eq]; show (cvA _ _ && cvG _ _) = true; rw [cvA_of ha, hc.2]; rfl
 obtain ⟨e1, e2, e3, e4, e5, hf, ht⟩ := ha
 have h1 : fitO v f = true := by rw [fitO_eq]; exact decide_eq_true ⟨e1, e3, e5, by omega⟩
 have h2 : chkO t = true := by rw [chkO_eq]; exact decide_eq_true ⟨e2, e4, by omega⟩
 obtain ⟨fk, fp, fq, fw, fu⟩ := f
 obtain ⟨tk, tp, tq, tw, tu⟩ := t
 simp only at hf ht
 clear hc e1 e2 e3 e4 e5
 have en : ∀ (k p q : Int) (w : Bool) (u : ByteArray), (Enc.enc (⟨k, p, q, w, u⟩ : Ty) : Value) = .agg ⟨[.int .i64 k, .int .i64 p, .int .i64 q, .bool w, .string u]⟩ := fun _ _ _ _ _ => rfl
 rcases hf with rfl | rfl | rfl | rfl <;> rcases ht with rfl | rfl | rfl | rfl
 ·have hx := x34_11 v fp fq fw fu tp tq tw tu (fun v' => v' = (s34 v ⟨1, fp, fq, fw, fu⟩ ⟨1, tp, tq, tw, tu⟩).2)
  rw [DoesQ, en, en, hx]
  refine c_t h1 (c_t h2 (c_t h3 ?_))
  rw [cvO_eq]
  rfl
 ·have hx := x34_12 v fp fq fw fu tp tq tw tu (fun v' => v' = (s34 v ⟨1, fp, fq, fw, fu⟩ ⟨2, tp, tq, tw, tu⟩).2)
  rw [DoesQ, en, en, hx]
  refine c_t h1 (c_t h2 (c_t h3 ?_))
  rw [cvO_eq]
  rfl
 ·have hx := x34_13 v fp fq fw fu tp tq tw tu (fun v' => v' = (s34 v ⟨1, fp, fq, fw, fu⟩ ⟨3, tp, tq, tw, tu⟩).2)
  rw [DoesQ, en, en, hx]
  refine c_t h1 (c_t h2 (c_t h3 ?_))
  rw [cvO_eq]
  rfl
 ·have hx := x34_14 v fp fq fw fu tp tq tw tu (fun v' => v' = (s34 v ⟨1, fp, fq, fw, fu⟩ ⟨4, tp, tq, tw, tu⟩).2)
  rw [DoesQ, en, en, hx]
  refine c_t h1 (c_t h2 (c_t h3 ?_))
  rw [cvO_eq]
  rfl
 ·have hx := x34_21 v fp fq fw fu tp tq tw tu (fun v' => v' = (s34 v ⟨2, fp, fq, fw, fu⟩ ⟨1, tp, tq, tw, tu⟩).2)
  rw [DoesQ, en, en, hx]
  refine c_t h1 (c_t h2 (c_t h3 ?_))
  rw [cvO_eq]
  rfl
 ·have hx := x34_22 v fp fq fw fu tp tq tw tu (fun v' => v' = (s34 v ⟨2, fp, fq, fw, fu⟩ ⟨2, tp, tq, tw, tu⟩).2)
  rw [DoesQ, en, en, hx]
  refine c_t h1 (c_t h2 (c_t h3 ?_))
  rw [cvO_eq]
  rfl
 ·have hx := x34_23 v fp fq fw fu tp tq tw tu (fun v' => v' = (s34 v ⟨2, fp, fq, fw, fu⟩ ⟨3, tp, tq, tw, tu⟩).2)
  rw [DoesQ, en, en, hx]
  refine c_t h1 (c_t h2 (c_t h3 ?_))
  rw [cvO_eq]
  rfl
 ·have hx := x34_24 v fp fq fw fu tp tq tw tu (fun v' => v' = (s34 v ⟨2, fp, fq, fw, fu⟩ ⟨4, tp, tq, tw, tu⟩).2)
  rw [DoesQ, en, en, hx]
  refine c_t h1 (c_t h2 (c_t h3 ?_))
  rw [cvO_eq]
  rfl
 ·have hx := x34_31 v fp fq fw fu tp tq tw tu (fun v' => v' = (s34 v ⟨3, fp, fq, fw, fu⟩ ⟨1, tp, tq, tw, tu⟩).2)
  rw [DoesQ, en, en, hx]
  refine c_t h1 (c_t h2 (c_t h3 ?_))
  rw [cvO_eq]
  rfl
 ·have hx := x34_32 v fp fq fw fu tp tq tw tu (fun v' => v' = (s34 v ⟨3, fp, fq, fw, fu⟩ ⟨2, tp, tq, tw, tu⟩).2)
  rw [DoesQ, en, en, hx]
  refine c_t h1 (c_t h2 (c_t h3 ?_))
  rw [cvO_eq]
  rfl
 ·have hx := x34_33 v fp fq fw fu tp tq tw tu (fun v' => v' = (s34 v ⟨3, fp, fq, fw, fu⟩ ⟨3, tp, tq, tw, tu⟩).2)
  rw [DoesQ, en, en, hx]
  refine c_t h1 (c_t h2 (c_t h3 ?_))
  rw [cvO_eq]
  rfl
 ·have hx := x34_34 v fp fq fw fu tp tq tw tu (fun v' => v' = (s34 v ⟨3, fp, fq, fw, fu⟩ ⟨4, tp, tq, tw, tu⟩).2)
  rw [DoesQ, en, en, hx]
  refine c_t h1 (c_t h2 (c_t h3 ?_))
  rw [cvO_eq]
  rfl
 ·have hx := x34_41 v fp fq fw fu tp tq tw tu (fun v' => v' = (s34 v ⟨4, fp, fq, fw, fu⟩ ⟨1, tp, tq, tw, tu⟩).2)
  rw [DoesQ, en, en, hx]
  refine c_t h1 (c_t h2 (c_t h3 ?_))
  rw [cvO_eq]
  rfl
 ·have hx := x34_42 v fp fq fw fu tp tq tw tu (fun v' => v' = (s34 v ⟨4, fp, fq, fw, fu⟩ ⟨2, tp, tq, tw, tu⟩).2)
  rw [DoesQ, en, en, hx]
  refine c_t h1 (c_t h2 (c_t h3 ?_))
  rw [cvO_eq]
  rfl
 ·have hx := x34_43 v fp fq fw fu tp tq tw tu (fun v' => v' = (s34 v ⟨4, fp, fq, fw, fu⟩ ⟨3, tp, tq, tw, tu⟩).2)
  rw [DoesQ, en, en, hx]
  refine c_t h1 (c_t h2 (c_t h3 ?_))
  rw [cvO_eq]
  rfl
 ·have hx := x34_44 v fp fq fw fu tp tq tw tu (fun v' => v' = (s34 v ⟨4, fp, fq, fw, fu⟩ ⟨4, tp, tq, tw, tu⟩).2)
  rw [DoesQ, en, en, hx]
  refine c_t h1 (c_t h2 (c_t h3 ?_))
  rw [cvO_eq]
  rfl
end Go.Cx
end
noncomputable section
namespace Go.Px
open Go Go.Ab Go.Proofs Go.Shelf
theorem c280 : Callable Tryz.prog 280 := cal Tryz.func280 (by kernel_rfl) (by kernel_rfl)
def lastZ : List Int → Int → Int
 | [], _ => -1
 | b :: l, c => if lastZ l c = -1 then (if b = c then 0 else -1) else lastZ l c + 1
theorem lastZ_spec (c : Int) : ∀ l : List Int, (lastZ l c = -1 ∧ ∀ j, j < l.length → l.getD j 0 ≠ c) ∨ (∃ i : Nat, i < l.length ∧ lastZ l c = i ∧ l.getD i 0 = c ∧ ∀ j, i < j → j < l.length → l.getD j 0 ≠ c)
 | [] => .inl ⟨rfl, fun j h => by simp at h⟩
 | b :: l => by
  rcases lastZ_spec c l with ⟨e, h⟩ | ⟨i, hi, e, hc, h⟩
  ·simp only [lastZ, e, if_true]
   by_cases hb : b = c
   ·rw [if_pos hb]
    refine .inr ⟨0, by simp, rfl, by simpa using hb, fun j h1 h2 => ?_⟩
    obtain ⟨j, rfl⟩ : ∃ k, j = k + 1 := ⟨j - 1, by omega⟩
    simpa using h j (by simpa using h2)
   ·rw [if_neg hb]
    refine .inl ⟨rfl, fun j h1 => ?_⟩
    cases j with
    | zero => simpa using hb
    | succ j => simpa using h j (by simpa using h1)
  ·simp only [lastZ]
   rw [if_neg (by omega), e]
   refine .inr ⟨i + 1, by simpa using hi, by omega, by simpa using hc, fun j h1 h2 => ?_⟩
   obtain ⟨j, rfl⟩ : ∃ k, j = k + 1 := ⟨j - 1, by omega⟩
   simpa using h j (by omega) (by simpa using h2)
theorem last_zl (s : ByteArray) (c : Int) : Lib.lastIndexByte s c = lastZ (bz s) c := by
 have hd : ∀ j, j < s.size → ((s.data[j]!).toNat : Int) = (bz s).getD j 0 := fun j hj => by
  have hj' : j < s.data.size := hj
  rw [getElem!_pos s.data j hj']
  simp only [bz, List.getD_eq_getElem?_getD, List.getElem?_map, Array.getElem?_toList]
  rw [Array.getElem?_eq_getElem hj']
  rfl
 rcases Lib.lastIndexByte_spec s c with ⟨e, h⟩ | ⟨i, hi, e, hc, h⟩ <;> rcases lastZ_spec c (bz s) with ⟨e', h'⟩ | ⟨i', hi', e', hc', h'⟩
 ·rw [e, e']
 ·rw [bz_length] at hi'
  exact absurd hc' (by rw [← hd i' hi']; exact h i' hi')
 ·rw [hd i hi] at hc
  exact absurd hc (h' i (by rw [bz_length]; exact hi))
 ·rw [bz_length] at hi' h'
  rw [hd i hi] at hc
  rw [e, e']
  rcases Nat.lt_trichotomy i i' with q | q | q
  ·exact absurd hc' (by rw [← hd i' hi']; exact h i' q hi')
  ·rw [q]
  ·exact absurd hc (h' i q hi)
def s280 (s : ByteArray) (c : U8) : Bool × Value := (decide (s.size ≤ 1000), .int .i64 (lastZ (bz s) c.n))
theorem ok280 : PureOK Tryz.prog 280 (sp2 s280) := shelf2 c280 fun s c hc w _ => by
 refine (Any.strings_LastIndexByte Tryz.lays149 s c.n (by have : s.size ≤ 1000 := of_decide_eq_true hc; omega) w).mono fun e w' ⟨h1, h2⟩ => ⟨?_, below_of_eq h2⟩
 rw [h1, last_zl]
 rfl
end Go.Px
end
noncomputable section
namespace Go.Cs
open Go Go.Ab Go.Proofs Go.Shelf Go.Px Go.Cx Go.RowKit
/-- The tables; lengths and characters are computed. -/
instance tabsC : Tabs := { row := rowsT, plain := tabs.plain, conc := true }
theorem RelM.toT {N : Nat} {w0 : World} {m : Lk} {ι : Nm} {w : World} (h : @RelM tabsC N w0 m ι w) : @RelM tabs N w0 m ι w :=
 @RelM.mk tabs N w0 m ι w h.below h.base h.blk h.view h.inj
theorem RelM.toC {N : Nat} {w0 : World} {m : Lk} {ι : Nm} {w : World} (h : @RelM tabs N w0 m ι w) : @RelM tabsC N w0 m ι w :=
 @RelM.mk tabsC N w0 m ι w (@RelM.below tabs N w0 m ι w h) (@RelM.base tabs N w0 m ι w h) (@RelM.blk tabs N w0 m ι w h) (@RelM.view tabs N w0 m ι w h) (@RelM.inj tabs N w0 m ι w h)
theorem pureC {f : FuncId} {s : Ab.Spec} (h : @PureOK tabs Tryz.prog f s) : @PureOK tabsC Tryz.prog f s :=
 ⟨h.1, fun args v N w0 lk ι w hr hs hv => h.2 args v N w0 lk ι w (RelM.toT hr) hs hv⟩
theorem pureT {f : FuncId} {s : Ab.Spec} (h : @PureOK tabsC Tryz.prog f s) : @PureOK tabs Tryz.prog f s :=
 ⟨h.1, fun args v N w0 lk ι w hr hs hv => h.2 args v N w0 lk ι w (RelM.toC hr) hs hv⟩
theorem pure_at {f : FuncId} {s : Ab.Spec} (h : PureOK Tryz.prog f s) {l : List (List Value × Value)} (hl : ∀ a v, (a, v) ∈ l → ∀ bs, s a bs = some (true, v)) : PureOK Tryz.prog f (memo l) :=
 ⟨h.1, fun args v N w0 lk ι w hr hs hv => h.2 args v N w0 lk ι w hr (hl _ _ (memo_spec hs).2 _) hv⟩
def s154 (s t : ByteArray) : Bool × Value := (oneB t && asc (bz t), .string (sz (tlZ (bz s) ((bz t).getD 0 0))))
theorem ok154 : PureOK Tryz.prog 154 (sp2 s154) := by
 have e : s154 = Cx.s154 := by funext s t; simp only [s154, Cx.s154, szO_eq]
 rw [e]; exact pureC Cx.ok154
def s131 (s t : ByteArray) : Bool × Value := (decide (s.size ≤ 9223372036854775807) && (oneB t && asc (bz t)), .string (sz (trZ (bz s) ((bz t).getD 0 0))))
theorem ok131 : PureOK Tryz.prog 131 (sp2 s131) := by
 have e : s131 = Cx.s131 := by funext s t; simp only [s131, Cx.s131, szO_eq]
 rw [e]; exact pureC Cx.ok131
def s55 (s t : ByteArray) : Bool × Value := (decide (s.size ≤ 9223372036854775807) && (decide (t.size ≤ 1000) && asc (bz t)), .string (sz (trimZ (bz s) (bz t))))
theorem ok55 : PureOK Tryz.prog 55 (sp2 s55) := by
 have e : s55 = Cx.s55 := by funext s t; simp only [s55, Cx.s55, szO_eq]
 rw [e]; exact pureC Cx.ok55
def s30 (s : ByteArray) (n : Int) : Bool × Value := (decide (0 ≤ n ∧ n ≤ 1000 ∧ s.size ≤ 1000), .string (sz (repZ (bz s) n.toNat)))
theorem ok30 : PureOK Tryz.prog 30 (sp2 s30) := by
 have e : s30 = Cx.s30 := by funext s n; simp only [s30, Cx.s30, szO_eq]
 rw [e]; exact pureC Cx.ok30
theorem dec1234 : Lib.decDigits 1234 = [49, 50, 51, 52] := by
 rw [Lib.decDigits, dif_neg (by decide), Lib.decDigits, dif_neg (by decide), Lib.decDigits_two (by decide) (by decide)]; rfl
theorem dec1230 : Lib.decDigits 1230 = [49, 50, 51, 48] := by
 rw [Lib.decDigits, dif_neg (by decide), Lib.decDigits, dif_neg (by decide), Lib.decDigits_two (by decide) (by decide)]; rfl
theorem dec150 : Lib.decDigits 150 = [49, 53, 48] := by
 rw [Lib.decDigits, dif_neg (by decide), Lib.decDigits_two (by decide) (by decide)]; rfl
theorem dec123 : Lib.decDigits 123 = [49, 50, 51] := by
 rw [Lib.decDigits, dif_neg (by decide), Lib.decDigits_two (by decide) (by decide)]; rfl
theorem dec234 : Lib.decDigits 234 = [50, 51, 52] := by
 rw [Lib.decDigits, dif_neg (by decide), Lib.decDigits_two (by decide) (by decide)]; rfl
theorem ito {n : Nat} {l : List UInt8} (h : Lib.decDigits n = l) : Cx.s29 (n : Int) = (decide (-9223372036854775808 ≤ (n : Int) ∧ (n : Int) ≤ 9223372036854775807), .string ⟨l.toArray⟩) := by
 rw [Cx.s29, szO_eq, itoZ, Lib.itoa_nonneg, h, sz_zl]
theorem fmt {n : Nat} {l : List UInt8} (h : Lib.decDigits n = l) : Px.s87 ⟨(n : Int)⟩ 10 = (decide (0 ≤ (n : Int) ∧ (n : Int) < 18446744073709551616) && isTen 10, .string ⟨l.toArray⟩) := by
 show (_, Value.string (sz (zl (Lib.decDigits (n : Int).toNat)))) = _
 rw [Int.toNat_natCast, h, sz_zl]
def m29 : List (List Value × Value) := [([.int .i64 150], .string ⟨#[49, 53, 48]⟩), ([.int .i64 123], .string ⟨#[49, 50, 51]⟩), ([.int .i64 1234], .string ⟨#[49, 50, 51, 52]⟩)]
theorem mem_all {α : Type} {p : α → Prop} : ∀ {l : List α}, (l.foldr (fun a q => p a ∧ q) True) → ∀ a ∈ l, p a
 | _ :: _, h, _, ha => by
  rcases List.mem_cons.1 ha with rfl | ha
  ·exact h.1
  ·exact mem_all h.2 _ ha
theorem pk29 : PureOK Tryz.prog 29 (memo m29) := pure_at (pureC Cx.ok29) fun a v h bs => by
 have := mem_all (p := fun x : List Value × Value => sp1 Cx.s29 x.1 bs = some (true, x.2)) (l := m29) ⟨congrArg some (ito dec150), congrArg some (ito dec123), congrArg some (ito dec1234), trivial⟩ _ h
 exact this
def m81 : List (List Value × Value) := [([.int .u64 1230, .int .i64 10], .string ⟨#[49, 50, 51, 48]⟩), ([.int .u64 234, .int .i64 10], .string ⟨#[50, 51, 52]⟩)]
theorem pk81 : PureOK Tryz.prog 81 (memo m81) := pure_at (pureC Px.ok87) fun a v h bs => by
 have := mem_all (p := fun x : List Value × Value => sp2 Px.s87 x.1 bs = some (true, x.2)) (l := m81) ⟨congrArg some (fmt dec1230), congrArg some (fmt dec234), trivial⟩ _ h
 exact this
theorem genC : @GenOK tabsC Tryz.prog 100 h100 := by
 obtain ⟨h1, h2⟩ := @gen100
 refine ⟨h1, fun args m n K hh N w0 ι w hrel hwf hargs => ?_⟩
 refine (h2 args m n K hh N w0 ι w (RelM.toT hrel) hwf hargs).mono fun e w' ⟨v, m', n', ι', h⟩ => ⟨v, m', n', ι', h.1, h.2.1, h.2.2.1, h.2.2.2.1, RelM.toC h.2.2.2.2.1, h.2.2.2.2.2⟩
def S0 : Env := (((((((((((((Env.nil.add 154 (sp2 s154)).add 131 (sp2 s131)).add 55 (sp2 s55)).add 30 (sp2 s30)).add 29 (memo m29)).add 81 (memo m81)).add 272 (sp2 Px.s141)).add 279 (sp2 Px.s157)).add 129 (sp2 s132)).add 130 (sp2 s130)).add 203 (sp2 s102)).add 280 (sp2 s280)).addG 100 h100)
theorem ok_S0 : EnvOK Tryz.prog S0 := env_addG (env_add (env_add (env_add (env_add (env_add (env_add (env_add (env_add (env_add (env_add (env_add (env_add env_nil ok154) ok131) ok55) ok30) pk29) pk81) (pureC Px.ok141)) (pureC Px.ok157)) (pureC ok132)) (pureC ok130)) (pureC ok102)) (pureC ok280)) genC
end Go.Cs
end
noncomputable section
set_option maxRecDepth 100000
set_option maxHeartbeats 3200000
namespace Go.Cs
open Go Go.Ab Go.Proofs Go.Px Go.Cx
theorem capOK {row tail : List Value} {cap n : Nat} (h : tailOK tail cap n 1 = true) (hr : Nat.beq row.length n = true) :
  (Nat.beq (List.length (row ++ tail)) (cap * 1) && Nat.ble n cap && Nat.ble cap 9223372036854775807 && true && true) = true := by
 simp only [tailOK, Bool.and_eq_true] at h
 obtain ⟨⟨⟨_, h2⟩, h3⟩, h4⟩ := h
 have hr := Nat.eq_of_beq_eq_true hr
 have h2 := Nat.eq_of_beq_eq_true h2
 have e : Nat.beq (List.length (row ++ tail)) (cap * 1) = true := by
  rw [List.length_append, hr, ← h2, Nat.mul_one, Nat.add_comm]; exact Nat.beq_refl _
 rw [e, h3, h4]; rfl
theorem fn234 : Fn1 Tryz.prog 234 Tryz.f234 := ⟨Tryz.func234, by kernel_rfl, by kernel_rfl, by kernel_rfl⟩
def B1 : Env := S0.addG 234 (inlQ Tryz.prog S0 noL Tryz.f234)
theorem ok_B1 : EnvOK Tryz.prog B1 := env_addG ok_S0 (gen_inlQ ok_S0 hmix fn234 lokf_none)
theorem fn235 : Fn1 Tryz.prog 235 Tryz.f235 := ⟨Tryz.func235, by kernel_rfl, by kernel_rfl, by kernel_rfl⟩
def B2 : Env := B1.addG 235 (inlQ Tryz.prog B1 noL Tryz.f235)
theorem ok_B2 : EnvOK Tryz.prog B2 := env_addG ok_B1 (gen_inlQ ok_B1 hmix fn235 lokf_none)
theorem fn188 : Fn1 Tryz.prog 188 Tryz.f188 := ⟨Tryz.func188, by kernel_rfl, by kernel_rfl, by kernel_rfl⟩
def m188 : List (List Value × Value) := [([.string ⟨#[90, 90, 57, 86, 46, 57, 57]⟩], .tuple ⟨[.string ⟨#[90, 90, 57, 86, 46, 57, 57]⟩, .bool true]⟩), ([.string ⟨#[57, 57, 57]⟩], .tuple ⟨[.string ⟨#[57, 57, 57]⟩, .bool true]⟩), ([.string ⟨#[65, 65, 57]⟩], .tuple ⟨[.string ⟨#[65, 65, 57]⟩, .bool true]⟩)]
theorem v188_0 (R : Value → Prop) : bodyQ Tryz.prog B2 noL Tryz.f188 [S ⟨#[90, 90, 57, 86, 46, 57, 57]⟩] (fun _ => none) 0 (fun v _ _ => R v) = (∀ (c1 : Nat) (t1 : List Value), tailOK t1 c1 1 1 = true → bif Nat.beq (List.length ([.int .u8 90] ++ t1)) (c1 * 1) && Nat.ble 1 c1 && Nat.ble c1 9223372036854775807 && true && true then ∀ (c2 : Nat) (t2 : List Value), tailOK t2 c2 2 1 = true → bif Nat.beq (List.length ([.int .u8 90, .int .u8 90] ++ t2)) (c2 * 1) && Nat.ble 2 c2 && Nat.ble c2 9223372036854775807 && true && true then ∀ (c3 : Nat) (t3 : List Value), tailOK t3 c3 3 1 = true → bif Nat.beq (List.length ([.int .u8 90, .int .u8 90, .int .u8 57] ++ t3)) (c3 * 1) && Nat.ble 3 c3 && Nat.ble c3 9223372036854775807 && true && true then ∀ (c4 : Nat) (t4 : List Value), tailOK t4 c4 4 1 = true → bif Nat.beq (List.length ([.int .u8 90, .int .u8 90, .int .u8 57, .int .u8 86] ++ t4)) (c4 * 1) && Nat.ble 4 c4 && Nat.ble c4 9223372036854775807 && true && true then ∀ (c5 : Nat) (t5 : List Value), tailOK t5 c5 5 1 = true → bif Nat.beq (List.length ([.int .u8 90, .int .u8 90, .int .u8 57, .int .u8 86, .int .u8 46] ++ t5)) (c5 * 1) && Nat.ble 5 c5 && Nat.ble c5 9223372036854775807 && true && true then ∀ (c6 : Nat) (t6 : List Value), tailOK t6 c6 6 1 = true → bif Nat.beq (List.length ([.int .u8 90, .int .u8 90, .int .u8 57, .int .u8 86, .int .u8 46, .int .u8 57] ++ t6)) (c6 * 1) && Nat.ble 6 c6 && Nat.ble c6 9223372036854775807 && true && true then ∀ (c7 : Nat) (t7 : List Value), tailOK t7 c7 7 1 = true → R (.tuple ⟨[S ⟨#[90, 90, 57, 86, 46, 57, 57]⟩, B true]⟩) else False else False else False else False else False else False) := by kernel_rfl
theorem k188_0 : DoesQ Tryz.prog B2 noL Tryz.f188 [.string ⟨#[90, 90, 57, 86, 46, 57, 57]⟩] (.tuple ⟨[.string ⟨#[90, 90, 57, 86, 46, 57, 57]⟩, .bool true]⟩) := by
 rw [DoesQ, v188_0]
 intro c1 t1 h1
 refine c_t (capOK (row := [.int .u8 90]) h1 rfl) ?_
 intro c2 t2 h2
 refine c_t (capOK (row := [.int .u8 90, .int .u8 90]) h2 rfl) ?_
 intro c3 t3 h3
 refine c_t (capOK (row := [.int .u8 90, .int .u8 90, .int .u8 57]) h3 rfl) ?_
 intro c4 t4 h4
 refine c_t (capOK (row := [.int .u8 90, .int .u8 90, .int .u8 57, .int .u8 86]) h4 rfl) ?_
 intro c5 t5 h5
 refine c_t (capOK (row := [.int .u8 90, .int .u8 90, .int .u8 57, .int .u8 86, .int .u8 46]) h5 rfl) ?_
 intro c6 t6 h6
 refine c_t (capOK (row := [.int .u8 90, .int .u8 90, .int .u8 57, .int .u8 86, .int .u8 46, .int .u8 57]) h6 rfl) ?_
 intro c7 t7 h7
 rfl
theorem v188_1 (R : Value → Prop) : bodyQ Tryz.prog B2 noL Tryz.f188 [S ⟨#[57, 57, 57]⟩] (fun _ => none) 0 (fun v _ _ => R v) = (∀ (c1 : Nat) (t1 : List Value), tailOK t1 c1 1 1 = true → bif Nat.beq (List.length ([.int .u8 57] ++ t1)) (c1 * 1) && Nat.ble 1 c1 && Nat.ble c1 9223372036854775807 && true && true then ∀ (c2 : Nat) (t2 : List Value), tailOK t2 c2 2 1 = true → bif Nat.beq (List.length ([.int .u8 57, .int .u8 57] ++ t2)) (c2 * 1) && Nat.ble 2 c2 && Nat.ble c2 9223372036854775807 && true && true then ∀ (c3 : Nat) (t3 : List Value), tailOK t3 c3 3 1 = true → R (.tuple ⟨[S ⟨#[57, 57, 57]⟩, B true]⟩) else False else False) := by kernel_rfl
theorem k188_1 : DoesQ Tryz.prog B2 noL Tryz.f188 [.string ⟨#[57, 57, 57]⟩] (.tuple ⟨[.string ⟨#[57, 57, 57]⟩, .bool true]⟩) := by
 rw [DoesQ, v188_1]
 intro c1 t1 h1
 refine c_t (capOK (row := [.int .u8 57]) h1 rfl) ?_
 intro c2 t2 h2
 refine c_t (capOK (row := [.int .u8 57, .int .u8 57]) h2 rfl) ?_
 intro c3 t3 h3
 rfl
theorem v188_2 (R : Value → Prop) : bodyQ Tryz.prog B2 noL Tryz.f188 [S ⟨#[65, 65, 57]⟩] (fun _ => none) 0 (fun v _ _ => R v) = (∀ (c1 : Nat) (t1 : List Value), tailOK t1 c1 1 1 = true → bif Nat.beq (List.length ([.int .u8 65] ++ t1)) (c1 * 1) && Nat.ble 1 c1 && Nat.ble c1 9223372036854775807 && true && true then ∀ (c2 : Nat) (t2 : List Value), tailOK t2 c2 2 1 = true → bif Nat.beq (List.length ([.int .u8 65, .int .u8 65] ++ t2)) (c2 * 1) && Nat.ble 2 c2 && Nat.ble c2 9223372036854775807 && true && true then ∀ (c3 : Nat) (t3 : List Value), tailOK t3 c3 3 1 = true → R (.tuple ⟨[S ⟨#[65, 65, 57]⟩, B true]⟩) else False else False) := by kernel_rfl
theorem k188_2 : DoesQ Tryz.prog B2 noL Tryz.f188 [.string ⟨#[65, 65, 57]⟩] (.tuple ⟨[.string ⟨#[65, 65, 57]⟩, .bool true]⟩) := by
 rw [DoesQ, v188_2]
 intro c1 t1 h1
 refine c_t (capOK (row := [.int .u8 65]) h1 rfl) ?_
 intro c2 t2 h2
 refine c_t (capOK (row := [.int .u8 65, .int .u8 65]) h2 rfl) ?_
 intro c3 t3 h3
 rfl
theorem pk188 : PureOK Tryz.prog 188 (memo m188) := pure_memo ok_B2 hmix fn188 lokf_none (by kernel_rfl) ⟨k188_0, k188_1, k188_2, trivial⟩
def B3 : Env := B2.add 188 (memo m188)
theorem ok_B3 : EnvOK Tryz.prog B3 := env_add ok_B2 pk188
theorem fn281 : Fn1 Tryz.prog 281 Tryz.f281 := ⟨Tryz.func281, by kernel_rfl, by kernel_rfl, by kernel_rfl⟩
def B4 : Env := B3.addG 281 (inlQ Tryz.prog B3 noL Tryz.f281)
theorem ok_B4 : EnvOK Tryz.prog B4 := env_addG ok_B3 (gen_inlQ ok_B3 hmix fn281 lokf_none)
theorem fn244 : Fn1 Tryz.prog 244 Tryz.f244 := ⟨Tryz.func244, by kernel_rfl, by kernel_rfl, by kernel_rfl⟩
def B5 : Env := B4.addG 244 (inlQ Tryz.prog B4 noL Tryz.f244)
theorem ok_B5 : EnvOK Tryz.prog B5 := env_addG ok_B4 (gen_inlQ ok_B4 hmix fn244 lokf_none)
theorem fn245 : Fn1 Tryz.prog 245 Tryz.f245 := ⟨Tryz.func245, by kernel_rfl, by kernel_rfl, by kernel_rfl⟩
def B6 : Env := B5.addG 245 (inlQ Tryz.prog B5 noL Tryz.f245)
theorem ok_B6 : EnvOK Tryz.prog B6 := env_addG ok_B5 (gen_inlQ ok_B5 hmix fn245 lokf_none)
theorem fn246 : Fn1 Tryz.prog 246 Tryz.f246 := ⟨Tryz.func246, by kernel_rfl, by kernel_rfl, by kernel_rfl⟩
def B7 : Env := B6.addG 246 (inlQ Tryz.prog B6 noL Tryz.f246)
theorem ok_B7 : EnvOK Tryz.prog B7 := env_addG ok_B6 (gen_inlQ ok_B6 hmix fn246 lokf_none)
theorem fn247 : Fn1 Tryz.prog 247 Tryz.f247 := ⟨Tryz.func247, by kernel_rfl, by kernel_rfl, by kernel_rfl⟩
def B8 : Env := B7.addG 247 (inlQ Tryz.prog B7 noL Tryz.f247)
theorem ok_B8 : EnvOK Tryz.prog B8 := env_addG ok_B7 (gen_inlQ ok_B7 hmix fn247 lokf_none)
theorem fn204 : Fn1 Tryz.prog 204 Tryz.f204 := ⟨Tryz.func204, by kernel_rfl, by kernel_rfl, by kernel_rfl⟩
def B9 : Env := B8.addG 204 (inlQ Tryz.prog B8 noL Tryz.f204)
theorem ok_B9 : EnvOK Tryz.prog B9 := env_addG ok_B8 (gen_inlQ ok_B8 hmix fn204 lokf_none)
theorem fn145 : Fn1 Tryz.prog 145 Tryz.f145 := ⟨Tryz.func145, by kernel_rfl, by kernel_rfl, by kernel_rfl⟩
def B10 : Env := B9.addG 145 (inlQ Tryz.prog B9 noL Tryz.f145)
theorem ok_B10 : EnvOK Tryz.prog B10 := env_addG ok_B9 (gen_inlQ ok_B9 hmix fn145 lokf_none)
theorem fn113 : Fn1 Tryz.prog 113 Tryz.f113 := ⟨Tryz.func113, by kernel_rfl, by kernel_rfl, by kernel_rfl⟩
def m113 : List (List Value × Value) := [([.string ⟨#[90, 90, 57, 86, 46, 57, 57]⟩], .tuple ⟨[.agg ⟨[.string ⟨#[90, 90, 57, 86, 46, 57, 57]⟩, .bool true, .int .i64 6, .int .i64 5, .int .i64 2, .bool false]⟩, .int .i64 0]⟩), ([.string ⟨#[57, 57, 57]⟩], .tuple ⟨[.agg ⟨[.string ⟨#[57, 57, 57]⟩, .bool true, .int .i64 3, .int .i64 3, .int .i64 0, .bool false]⟩, .int .i64 0]⟩), ([.string ⟨#[65, 65, 57]⟩], .tuple ⟨[.agg ⟨[.string ⟨#[65, 65, 57]⟩, .bool false, .int .i64 3, .int .i64 0, .int .i64 0, .bool false]⟩, .int .i64 0]⟩)]
theorem v113_0 (R : Value → Prop) : bodyQ Tryz.prog B10 noL Tryz.f113 [S ⟨#[90, 90, 57, 86, 46, 57, 57]⟩] (fun _ => none) 0 (fun v _ _ => R v) = (∀ c1 : Nat, Nat.ble 7 c1 = true → ∀ (c2 : Nat) (t2 : List Value), tailOK t2 c2 1 1 = true → bif Nat.beq (List.length ([I 1] ++ t2)) (c2 * 1) && Nat.ble 1 c2 && Nat.ble c2 9223372036854775807 && true && true then ∀ (c3 : Nat) (t3 : List Value), tailOK t3 c3 2 1 = true → bif Nat.beq (List.length ([I 1, I 1] ++ t3)) (c3 * 1) && Nat.ble 2 c3 && Nat.ble c3 9223372036854775807 && true && true then ∀ (c4 : Nat) (t4 : List Value), tailOK t4 c4 3 1 = true → bif Nat.beq (List.length ([I 1, I 1, I 0] ++ t4)) (c4 * 1) && Nat.ble 3 c4 && Nat.ble c4 9223372036854775807 && true && true then ∀ (c5 : Nat) (t5 : List Value), tailOK t5 c5 4 1 = true → bif Nat.beq (List.length ([I 1, I 1, I 0, I 2] ++ t5)) (c5 * 1) && Nat.ble 4 c5 && Nat.ble c5 9223372036854775807 && true && true then ∀ (c6 : Nat) (t6 : List Value), tailOK t6 c6 5 1 = true → bif Nat.beq (List.length ([I 1, I 1, I 0, I 2, I 3] ++ t6)) (c6 * 1) && Nat.ble 5 c6 && Nat.ble c6 9223372036854775807 && true && true then ∀ (c7 : Nat) (t7 : List Value), tailOK t7 c7 6 1 = true → bif Nat.beq (List.length ([I 1, I 1, I 0, I 2, I 3, I 0] ++ t7)) (c7 * 1) && Nat.ble 6 c7 && Nat.ble c7 9223372036854775807 && true && true then ∀ (c8 : Nat) (t8 : List Value), tailOK t8 c8 7 1 = true → ∀ c9 : Nat, Nat.ble 7 c9 = true → R (.tuple ⟨[.agg ⟨[S ⟨#[90, 90, 57, 86, 46, 57, 57]⟩, B true, I 6, I 5, I 2, B false]⟩, I 0]⟩) else False else False else False else False else False else False) := by kernel_rfl
theorem k113_0 : DoesQ Tryz.prog B10 noL Tryz.f113 [.string ⟨#[90, 90, 57, 86, 46, 57, 57]⟩] (.tuple ⟨[.agg ⟨[.string ⟨#[90, 90, 57, 86, 46, 57, 57]⟩, .bool true, .int .i64 6, .int .i64 5, .int .i64 2, .bool false]⟩, .int .i64 0]⟩) := by
 rw [DoesQ, v113_0]
 intro c1 h1
 intro c2 t2 h2
 refine c_t (capOK (row := [.int .i64 1]) h2 rfl) ?_
 intro c3 t3 h3
 refine c_t (capOK (row := [.int .i64 1, .int .i64 1]) h3 rfl) ?_
 intro c4 t4 h4
 refine c_t (capOK (row := [.int .i64 1, .int .i64 1, .int .i64 0]) h4 rfl) ?_
 intro c5 t5 h5
 refine c_t (capOK (row := [.int .i64 1, .int .i64 1, .int .i64 0, .int .i64 2]) h5 rfl) ?_
 intro c6 t6 h6
 refine c_t (capOK (row := [.int .i64 1, .int .i64 1, .int .i64 0, .int .i64 2, .int .i64 3]) h6 rfl) ?_
 intro c7 t7 h7
 refine c_t (capOK (row := [.int .i64 1, .int .i64 1, .int .i64 0, .int .i64 2, .int .i64 3, .int .i64 0]) h7 rfl) ?_
 intro c8 t8 h8
 intro c9 h9
 rfl
theorem v113_1 (R : Value → Prop) : bodyQ Tryz.prog B10 noL Tryz.f113 [S ⟨#[57, 57, 57]⟩] (fun _ => none) 0 (fun v _ _ => R v) = (∀ c1 : Nat, Nat.ble 3 c1 = true → ∀ (c2 : Nat) (t2 : List Value), tailOK t2 c2 1 1 = true → bif Nat.beq (List.length ([I 0] ++ t2)) (c2 * 1) && Nat.ble 1 c2 && Nat.ble c2 9223372036854775807 && true && true then ∀ (c3 : Nat) (t3 : List Value), tailOK t3 c3 2 1 = true → bif Nat.beq (List.length ([I 0, I 0] ++ t3)) (c3 * 1) && Nat.ble 2 c3 && Nat.ble c3 9223372036854775807 && true && true then ∀ (c4 : Nat) (t4 : List Value), tailOK t4 c4 3 1 = true → ∀ c5 : Nat, Nat.ble 3 c5 = true → R (.tuple ⟨[.agg ⟨[S ⟨#[57, 57, 57]⟩, B true, I 3, I 3, I 0, B false]⟩, I 0]⟩) else False else False) := by kernel_rfl
theorem k113_1 : DoesQ Tryz.prog B10 noL Tryz.f113 [.string ⟨#[57, 57, 57]⟩] (.tuple ⟨[.agg ⟨[.string ⟨#[57, 57, 57]⟩, .bool true, .int .i64 3, .int .i64 3, .int .i64 0, .bool false]⟩, .int .i64 0]⟩) := by
 rw [DoesQ, v113_1]
 intro c1 h1
 intro c2 t2 h2
 refine c_t (capOK (row := [.int .i64 0]) h2 rfl) ?_
 intro c3 t3 h3
 refine c_t (capOK (row := [.int .i64 0, .int .i64 0]) h3 rfl) ?_
 intro c4 t4 h4
 intro c5 h5
 rfl
theorem v113_2 (R : Value → Prop) : bodyQ Tryz.prog B10 noL Tryz.f113 [S ⟨#[65, 65, 57]⟩] (fun _ => none) 0 (fun v _ _ => R v) = (R (.tuple ⟨[.agg ⟨[S ⟨#[65, 65, 57]⟩, B false, I 3, I 0, I 0, B false]⟩, I 0]⟩)) := by kernel_rfl
theorem pk113 : PureOK Tryz.prog 113 (memo m113) := pure_memo ok_B10 hmix fn113 lokf_none (by kernel_rfl) ⟨k113_0, k113_1, by rw [DoesQ, v113_2], trivial⟩
def B11 : Env := B10.add 113 (memo m113)
theorem ok_B11 : EnvOK Tryz.prog B11 := env_add ok_B10 pk113
theorem fn67 : Fn1 Tryz.prog 67 Tryz.f67 := ⟨Tryz.func67, by kernel_rfl, by kernel_rfl, by kernel_rfl⟩
def m67 : List (List Value × Value) := [([.string ⟨#[90, 90, 57, 86, 46, 57, 57]⟩], .int .i64 0), ([.string ⟨#[57, 57, 57]⟩], .int .i64 0), ([.string ⟨#[65, 65, 57]⟩], .int .i64 0)]
theorem v67_0 (R : Value → Prop) : bodyQ Tryz.prog B11 noL Tryz.f67 [S ⟨#[90, 90, 57, 86, 46, 57, 57]⟩] (fun _ => none) 0 (fun v _ _ => R v) = (R (I 0)) := by kernel_rfl
theorem v67_1 (R : Value → Prop) : bodyQ Tryz.prog B11 noL Tryz.f67 [S ⟨#[57, 57, 57]⟩] (fun _ => none) 0 (fun v _ _ => R v) = (R (I 0)) := by kernel_rfl
theorem v67_2 (R : Value → Prop) : bodyQ Tryz.prog B11 noL Tryz.f67 [S ⟨#[65, 65, 57]⟩] (fun _ => none) 0 (fun v _ _ => R v) = (R (I 0)) := by kernel_rfl
theorem pk67 : PureOK Tryz.prog 67 (memo m67) := pure_memo ok_B11 hmix fn67 lokf_none (by kernel_rfl) ⟨by rw [DoesQ, v67_0], by rw [DoesQ, v67_1], by rw [DoesQ, v67_2], trivial⟩
def B12 : Env := B11.add 67 (memo m67)
theorem ok_B12 : EnvOK Tryz.prog B12 := env_add ok_B11 pk67
theorem fn61 : Fn1 Tryz.prog 61 Tryz.f61 := ⟨Tryz.func61, by kernel_rfl, by kernel_rfl, by kernel_rfl⟩
def m61 : List (List Value × Value) := [([.string ⟨#[90, 90, 57, 86, 46, 57, 57]⟩], .tuple ⟨[.agg ⟨[.int .i64 1, .int .i64 5, .int .i64 2, .bool false, .string ⟨#[]⟩]⟩, .int .i64 0]⟩), ([.string ⟨#[57, 57, 57]⟩], .tuple ⟨[.agg ⟨[.int .i64 1, .int .i64 3, .int .i64 0, .bool false, .string ⟨#[]⟩]⟩, .int .i64 0]⟩), ([.string ⟨#[65, 65, 57]⟩], .tuple ⟨[.agg ⟨[.int .i64 3, .int .i64 3, .int .i64 0, .bool false, .string ⟨#[]⟩]⟩, .int .i64 0]⟩)]
theorem v61_0 (R : Value → Prop) : bodyQ Tryz.prog B12 noL Tryz.f61 [S ⟨#[90, 90, 57, 86, 46, 57, 57]⟩] (fun _ => none) 0 (fun v _ _ => R v) = (R (.tuple ⟨[.agg ⟨[I 1, I 5, I 2, B false, S ⟨#[]⟩]⟩, I 0]⟩)) := by kernel_rfl
theorem v61_1 (R : Value → Prop) : bodyQ Tryz.prog B12 noL Tryz.f61 [S ⟨#[57, 57, 57]⟩] (fun _ => none) 0 (fun v _ _ => R v) = (R (.tuple ⟨[.agg ⟨[I 1, I 3, I 0, B false, S ⟨#[]⟩]⟩, I 0]⟩)) := by kernel_rfl
theorem v61_2 (R : Value → Prop) : bodyQ Tryz.prog B12 noL Tryz.f61 [S ⟨#[65, 65, 57]⟩] (fun _ => none) 0 (fun v _ _ => R v) = (R (.tuple ⟨[.agg ⟨[I 3, I 3, I 0, B false, S ⟨#[]⟩]⟩, I 0]⟩)) := by kernel_rfl
theorem pk61 : PureOK Tryz.prog 61 (memo m61) := pure_memo ok_B12 hmix fn61 lokf_none (by kernel_rfl) ⟨by rw [DoesQ, v61_0], by rw [DoesQ, v61_1], by rw [DoesQ, v61_2], trivial⟩
def B13 : Env := B12.add 61 (memo m61)
theorem ok_B13 : EnvOK Tryz.prog B13 := env_add ok_B12 pk61
theorem fn136 : Fn1 Tryz.prog 136 Tryz.f136 := ⟨Tryz.func136, by kernel_rfl, by kernel_rfl, by kernel_rfl⟩
def B14 : Env := B13.addG 136 (inlQ Tryz.prog B13 noL Tryz.f136)
theorem ok_B14 : EnvOK Tryz.prog B14 := env_addG ok_B13 (gen_inlQ ok_B13 hmix fn136 lokf_none)
theorem fn59 : Fn1 Tryz.prog 59 Tryz.f59 := ⟨Tryz.func59, by kernel_rfl, by kernel_rfl, by kernel_rfl⟩
def m59 : List (List Value × Value) := [([.string ⟨#[90, 90, 57, 86, 46, 57, 57]⟩], .bool true), ([.string ⟨#[57, 57, 57]⟩], .bool true), ([.string ⟨#[65, 65, 57]⟩], .bool false)]
theorem v59_0 (R : Value → Prop) : bodyQ Tryz.prog B14 noL Tryz.f59 [S ⟨#[90, 90, 57, 86, 46, 57, 57]⟩] (fun _ => none) 0 (fun v _ _ => R v) = (∀ c1 : Nat, Nat.ble 7 c1 = true → ∀ (c2 : Nat) (t2 : List Value), tailOK t2 c2 1 1 = true → bif Nat.beq (List.length ([I 1] ++ t2)) (c2 * 1) && Nat.ble 1 c2 && Nat.ble c2 9223372036854775807 && true && true then ∀ (c3 : Nat) (t3 : List Value), tailOK t3 c3 2 1 = true → bif Nat.beq (List.length ([I 1, I 1] ++ t3)) (c3 * 1) && Nat.ble 2 c3 && Nat.ble c3 9223372036854775807 && true && true then ∀ (c4 : Nat) (t4 : List Value), tailOK t4 c4 3 1 = true → bif Nat.beq (List.length ([I 1, I 1, I 0] ++ t4)) (c4 * 1) && Nat.ble 3 c4 && Nat.ble c4 9223372036854775807 && true && true then ∀ (c5 : Nat) (t5 : List Value), tailOK t5 c5 4 1 = true → bif Nat.beq (List.length ([I 1, I 1, I 0, I 2] ++ t5)) (c5 * 1) && Nat.ble 4 c5 && Nat.ble c5 9223372036854775807 && true && true then ∀ (c6 : Nat) (t6 : List Value), tailOK t6 c6 5 1 = true → bif Nat.beq (List.length ([I 1, I 1, I 0, I 2, I 3] ++ t6)) (c6 * 1) && Nat.ble 5 c6 && Nat.ble c6 9223372036854775807 && true && true then ∀ (c7 : Nat) (t7 : List Value), tailOK t7 c7 6 1 = true → bif Nat.beq (List.length ([I 1, I 1, I 0, I 2, I 3, I 0] ++ t7)) (c7 * 1) && Nat.ble 6 c7 && Nat.ble c7 9223372036854775807 && true && true then ∀ (c8 : Nat) (t8 : List Value), tailOK t8 c8 7 1 = true → ∀ c9 : Nat, Nat.ble 7 c9 = true → R (B true) else False else False else False else False else False else False) := by kernel_rfl
theorem k59_0 : DoesQ Tryz.prog B14 noL Tryz.f59 [.string ⟨#[90, 90, 57, 86, 46, 57, 57]⟩] (.bool true) := by
 rw [DoesQ, v59_0]
 intro c1 h1
 intro c2 t2 h2
 refine c_t (capOK (row := [.int .i64 1]) h2 rfl) ?_
 intro c3 t3 h3
 refine c_t (capOK (row := [.int .i64 1, .int .i64 1]) h3 rfl) ?_
 intro c4 t4 h4
 refine c_t (capOK (row := [.int .i64 1, .int .i64 1, .int .i64 0]) h4 rfl) ?_
 intro c5 t5 h5
 refine c_t (capOK (row := [.int .i64 1, .int .i64 1, .int .i64 0, .int .i64 2]) h5 rfl) ?_
 intro c6 t6 h6
 refine c_t (capOK (row := [.int .i64 1, .int .i64 1, .int .i64 0, .int .i64 2, .int .i64 3]) h6 rfl) ?_
 intro c7 t7 h7
 refine c_t (capOK (row := [.int .i64 1, .int .i64 1, .int .i64 0, .int .i64 2, .int .i64 3, .int .i64 0]) h7 rfl) ?_
 intro c8 t8 h8
 intro c9 h9
 rfl
theorem v59_1 (R : Value → Prop) : bodyQ Tryz.prog B14 noL Tryz.f59 [S ⟨#[57, 57, 57]⟩] (fun _ => none) 0 (fun v _ _ => R v) = (∀ c1 : Nat, Nat.ble 3 c1 = true → ∀ (c2 : Nat) (t2 : List Value), tailOK t2 c2 1 1 = true → bif Nat.beq (List.length ([I 0] ++ t2)) (c2 * 1) && Nat.ble 1 c2 && Nat.ble c2 9223372036854775807 && true && true then ∀ (c3 : Nat) (t3 : List Value), tailOK t3 c3 2 1 = true → bif Nat.beq (List.length ([I 0, I 0] ++ t3)) (c3 * 1) && Nat.ble 2 c3 && Nat.ble c3 9223372036854775807 && true && true then ∀ (c4 : Nat) (t4 : List Value), tailOK t4 c4 3 1 = true → ∀ c5 : Nat, Nat.ble 3 c5 = true → R (B true) else False else False) := by kernel_rfl
theorem k59_1 : DoesQ Tryz.prog B14 noL Tryz.f59 [.string ⟨#[57, 57, 57]⟩] (.bool true) := by
 rw [DoesQ, v59_1]
 intro c1 h1
 intro c2 t2 h2
 refine c_t (capOK (row := [.int .i64 0]) h2 rfl) ?_
 intro c3 t3 h3
 refine c_t (capOK (row := [.int .i64 0, .int .i64 0]) h3 rfl) ?_
 intro c4 t4 h4
 intro c5 h5
 rfl
theorem v59_2 (R : Value → Prop) : bodyQ Tryz.prog B14 noL Tryz.f59 [S ⟨#[65, 65, 57]⟩] (fun _ => none) 0 (fun v _ _ => R v) = (R (B false)) := by kernel_rfl
theorem pk59 : PureOK Tryz.prog 59 (memo m59) := pure_memo ok_B14 hmix fn59 lokf_none (by kernel_rfl) ⟨k59_0, k59_1, by rw [DoesQ, v59_2], trivial⟩
def B15 : Env := B14.add 59 (memo m59)
theorem ok_B15 : EnvOK Tryz.prog B15 := env_add ok_B14 pk59
theorem fn147 : Fn1 Tryz.prog 147 Tryz.f147 := ⟨Tryz.func147, by kernel_rfl, by kernel_rfl, by kernel_rfl⟩
def B16 : Env := B15.addG 147 (inlQ Tryz.prog B15 noL Tryz.f147)
theorem ok_B16 : EnvOK Tryz.prog B16 := env_addG ok_B15 (gen_inlQ ok_B15 hmix fn147 lokf_none)
theorem fn225 : Fn1 Tryz.prog 225 Tryz.f225 := ⟨Tryz.func225, by kernel_rfl, by kernel_rfl, by kernel_rfl⟩
def B17 : Env := B16.addG 225 (inlQ Tryz.prog B16 noL Tryz.f225)
theorem ok_B17 : EnvOK Tryz.prog B17 := env_addG ok_B16 (gen_inlQ ok_B16 hmix fn225 lokf_none)
theorem fn287 : Fn1 Tryz.prog 287 Tryz.f287 := ⟨Tryz.func287, by kernel_rfl, by kernel_rfl, by kernel_rfl⟩
def B18 : Env := B17.addG 287 (inlQ Tryz.prog B17 noL Tryz.f287)
theorem ok_B18 : EnvOK Tryz.prog B18 := env_addG ok_B17 (gen_inlQ ok_B17 hmix fn287 lokf_none)
theorem fn288 : Fn1 Tryz.prog 288 Tryz.f288 := ⟨Tryz.func288, by kernel_rfl, by kernel_rfl, by kernel_rfl⟩
def B19 : Env := B18.addG 288 (inlQ Tryz.prog B18 noL Tryz.f288)
theorem ok_B19 : EnvOK Tryz.prog B19 := env_addG ok_B18 (gen_inlQ ok_B18 hmix fn288 lokf_none)
theorem fn251 : Fn1 Tryz.prog 251 Tryz.f251 := ⟨Tryz.func251, by kernel_rfl, by kernel_rfl, by kernel_rfl⟩
def B20 : Env := B19.addG 251 (inlQ Tryz.prog B19 noL Tryz.f251)
theorem ok_B20 : EnvOK Tryz.prog B20 := env_addG ok_B19 (gen_inlQ ok_B19 hmix fn251 lokf_none)
theorem fn252 : Fn1 Tryz.prog 252 Tryz.f252 := ⟨Tryz.func252, by kernel_rfl, by kernel_rfl, by kernel_rfl⟩
def B21 : Env := B20.addG 252 (inlQ Tryz.prog B20 noL Tryz.f252)
theorem ok_B21 : EnvOK Tryz.prog B21 := env_addG ok_B20 (gen_inlQ ok_B20 hmix fn252 lokf_none)
theorem fn253 : Fn1 Tryz.prog 253 Tryz.f253 := ⟨Tryz.func253, by kernel_rfl, by kernel_rfl, by kernel_rfl⟩
def B22 : Env := B21.addG 253 (inlQ Tryz.prog B21 noL Tryz.f253)
theorem ok_B22 : EnvOK Tryz.prog B22 := env_addG ok_B21 (gen_inlQ ok_B21 hmix fn253 lokf_none)
theorem fn254 : Fn1 Tryz.prog 254 Tryz.f254 := ⟨Tryz.func254, by kernel_rfl, by kernel_rfl, by kernel_rfl⟩
def B23 : Env := B22.addG 254 (inlQ Tryz.prog B22 noL Tryz.f254)
theorem ok_B23 : EnvOK Tryz.prog B23 := env_addG ok_B22 (gen_inlQ ok_B22 hmix fn254 lokf_none)
theorem fn255 : Fn1 Tryz.prog 255 Tryz.f255 := ⟨Tryz.func255, by kernel_rfl, by kernel_rfl, by kernel_rfl⟩
def B24 : Env := B23.addG 255 (inlQ Tryz.prog B23 noL Tryz.f255)
theorem ok_B24 : EnvOK Tryz.prog B24 := env_addG ok_B23 (gen_inlQ ok_B23 hmix fn255 lokf_none)
theorem fn256 : Fn1 Tryz.prog 256 Tryz.f256 := ⟨Tryz.func256, by kernel_rfl, by kernel_rfl, by kernel_rfl⟩
def B25 : Env := B24.addG 256 (inlQ Tryz.prog B24 noL Tryz.f256)
theorem ok_B25 : EnvOK Tryz.prog B25 := env_addG ok_B24 (gen_inlQ ok_B24 hmix fn256 lokf_none)
theorem fn207 : Fn1 Tryz.prog 207 Tryz.f207 := ⟨Tryz.func207, by kernel_rfl, by kernel_rfl, by kernel_rfl⟩
def B26 : Env := B25.addG 207 (inlQ Tryz.prog B25 noL Tryz.f207)
theorem ok_B26 : EnvOK Tryz.prog B26 := env_addG ok_B25 (gen_inlQ ok_B25 hmix fn207 lokf_none)
theorem fn171 : Fn1 Tryz.prog 171 Tryz.f171 := ⟨Tryz.func171, by kernel_rfl, by kernel_rfl, by kernel_rfl⟩
def m171 : List (List Value × Value) := [([.int .i64 1230, .int .i64 2, .string ⟨#[90, 90, 57, 86, 46, 57, 57]⟩], .tuple ⟨[.string ⟨#[32, 49, 50, 46, 51, 48]⟩, .bool true, .int .i64 0]⟩), ([.int .i64 234, .int .i64 0, .string ⟨#[57, 57, 57]⟩], .tuple ⟨[.string ⟨#[50, 51, 52]⟩, .bool true, .int .i64 0]⟩)]
theorem v171_0 (R : Value → Prop) : bodyQ Tryz.prog B26 noL Tryz.f171 [I 1230, I 2, S ⟨#[90, 90, 57, 86, 46, 57, 57]⟩] (fun _ => none) 0 (fun v _ _ => R v) = (∀ c1 : Nat, Nat.ble 7 c1 = true → ∀ (c2 : Nat) (t2 : List Value), tailOK t2 c2 1 1 = true → bif Nat.beq (List.length ([I 1] ++ t2)) (c2 * 1) && Nat.ble 1 c2 && Nat.ble c2 9223372036854775807 && true && true then ∀ (c3 : Nat) (t3 : List Value), tailOK t3 c3 2 1 = true → bif Nat.beq (List.length ([I 1, I 1] ++ t3)) (c3 * 1) && Nat.ble 2 c3 && Nat.ble c3 9223372036854775807 && true && true then ∀ (c4 : Nat) (t4 : List Value), tailOK t4 c4 3 1 = true → bif Nat.beq (List.length ([I 1, I 1, I 0] ++ t4)) (c4 * 1) && Nat.ble 3 c4 && Nat.ble c4 9223372036854775807 && true && true then ∀ (c5 : Nat) (t5 : List Value), tailOK t5 c5 4 1 = true → bif Nat.beq (List.length ([I 1, I 1, I 0, I 2] ++ t5)) (c5 * 1) && Nat.ble 4 c5 && Nat.ble c5 9223372036854775807 && true && true then ∀ (c6 : Nat) (t6 : List Value), tailOK t6 c6 5 1 = true → bif Nat.beq (List.length ([I 1, I 1, I 0, I 2, I 3] ++ t6)) (c6 * 1) && Nat.ble 5 c6 && Nat.ble c6 9223372036854775807 && true && true then ∀ (c7 : Nat) (t7 : List Value), tailOK t7 c7 6 1 = true → bif Nat.beq (List.length ([I 1, I 1, I 0, I 2, I 3, I 0] ++ t7)) (c7 * 1) && Nat.ble 6 c7 && Nat.ble c7 9223372036854775807 && true && true then ∀ (c8 : Nat) (t8 : List Value), tailOK t8 c8 7 1 = true → ∀ c9 : Nat, Nat.ble 7 c9 = true → ∀ (c10 : Nat) (t10 : List Value), tailOK t10 c10 1 1 = true → bif Nat.beq (List.length ([.int .u8 32] ++ t10)) (c10 * 1) && Nat.ble 1 c10 && Nat.ble c10 9223372036854775807 && true && true then ∀ (c11 : Nat) (t11 : List Value), tailOK t11 c11 2 1 = true → bif Nat.beq (List.length ([.int .u8 32, .int .u8 49] ++ t11)) (c11 * 1) && Nat.ble 2 c11 && Nat.ble c11 9223372036854775807 && true && true then ∀ (c12 : Nat) (t12 : List Value), tailOK t12 c12 3 1 = true → bif Nat.beq (List.length ([.int .u8 32, .int .u8 49, .int .u8 50] ++ t12)) (c12 * 1) && Nat.ble 3 c12 && Nat.ble c12 9223372036854775807 && true && true then ∀ (c13 : Nat) (t13 : List Value), tailOK t13 c13 4 1 = true → bif Nat.beq (List.length ([.int .u8 32, .int .u8 49, .int .u8 50, .int .u8 46] ++ t13)) (c13 * 1) && Nat.ble 4 c13 && Nat.ble c13 9223372036854775807 && true && true then ∀ (c14 : Nat) (t14 : List Value), tailOK t14 c14 5 1 = true → bif Nat.beq (List.length ([.int .u8 32, .int .u8 49, .int .u8 50, .int .u8 46, .int .u8 51] ++ t14)) (c14 * 1) && Nat.ble 5 c14 && Nat.ble c14 9223372036854775807 && true && true then ∀ (c15 : Nat) (t15 : List Value), tailOK t15 c15 6 1 = true → R (.tuple ⟨[S ⟨#[32, 49, 50, 46, 51, 48]⟩, B true, I 0]⟩) else False else False else False else False else False else False else False else False else False else False else False) := by kernel_rfl
theorem k171_0 : DoesQ Tryz.prog B26 noL Tryz.f171 [.int .i64 1230, .int .i64 2, .string ⟨#[90, 90, 57, 86, 46, 57, 57]⟩] (.tuple ⟨[.string ⟨#[32, 49, 50, 46, 51, 48]⟩, .bool true, .int .i64 0]⟩) := by
 rw [DoesQ, v171_0]
 intro c1 h1
 intro c2 t2 h2
 refine c_t (capOK (row := [.int .i64 1]) h2 rfl) ?_
 intro c3 t3 h3
 refine c_t (capOK (row := [.int .i64 1, .int .i64 1]) h3 rfl) ?_
 intro c4 t4 h4
 refine c_t (capOK (row := [.int .i64 1, .int .i64 1, .int .i64 0]) h4 rfl) ?_
 intro c5 t5 h5
 refine c_t (capOK (row := [.int .i64 1, .int .i64 1, .int .i64 0, .int .i64 2]) h5 rfl) ?_
 intro c6 t6 h6
 refine c_t (capOK (row := [.int .i64 1, .int .i64 1, .int .i64 0, .int .i64 2, .int .i64 3]) h6 rfl) ?_
 intro c7 t7 h7
 refine c_t (capOK (row := [.int .i64 1, .int .i64 1, .int .i64 0, .int .i64 2, .int .i64 3, .int .i64 0]) h7 rfl) ?_
 intro c8 t8 h8
 intro c9 h9
 intro c10 t10 h10
 refine c_t (capOK (row := [.int .u8 32]) h10 rfl) ?_
 intro c11 t11 h11
 refine c_t (capOK (row := [.int .u8 32, .int .u8 49]) h11 rfl) ?_
 intro c12 t12 h12
 refine c_t (capOK (row := [.int .u8 32, .int .u8 49, .int .u8 50]) h12 rfl) ?_
 intro c13 t13 h13
 refine c_t (capOK (row := [.int .u8 32, .int .u8 49, .int .u8 50, .int .u8 46]) h13 rfl) ?_
 intro c14 t14 h14
 refine c_t (capOK (row := [.int .u8 32, .int .u8 49, .int .u8 50, .int .u8 46, .int .u8 51]) h14 rfl) ?_
 intro c15 t15 h15
 rfl
theorem v171_1 (R : Value → Prop) : bodyQ Tryz.prog B26 noL Tryz.f171 [I 234, I 0, S ⟨#[57, 57, 57]⟩] (fun _ => none) 0 (fun v _ _ => R v) = (∀ c1 : Nat, Nat.ble 3 c1 = true → ∀ (c2 : Nat) (t2 : List Value), tailOK t2 c2 1 1 = true → bif Nat.beq (List.length ([I 0] ++ t2)) (c2 * 1) && Nat.ble 1 c2 && Nat.ble c2 9223372036854775807 && true && true then ∀ (c3 : Nat) (t3 : List Value), tailOK t3 c3 2 1 = true → bif Nat.beq (List.length ([I 0, I 0] ++ t3)) (c3 * 1) && Nat.ble 2 c3 && Nat.ble c3 9223372036854775807 && true && true then ∀ (c4 : Nat) (t4 : List Value), tailOK t4 c4 3 1 = true → ∀ c5 : Nat, Nat.ble 3 c5 = true → ∀ (c6 : Nat) (t6 : List Value), tailOK t6 c6 1 1 = true → bif Nat.beq (List.length ([.int .u8 50] ++ t6)) (c6 * 1) && Nat.ble 1 c6 && Nat.ble c6 9223372036854775807 && true && true then ∀ (c7 : Nat) (t7 : List Value), tailOK t7 c7 2 1 = true → bif Nat.beq (List.length ([.int .u8 50, .int .u8 51] ++ t7)) (c7 * 1) && Nat.ble 2 c7 && Nat.ble c7 9223372036854775807 && true && true then ∀ (c8 : Nat) (t8 : List Value), tailOK t8 c8 3 1 = true → R (.tuple ⟨[S ⟨#[50, 51, 52]⟩, B true, I 0]⟩) else False else False else False else False) := by kernel_rfl
theorem k171_1 : DoesQ Tryz.prog B26 noL Tryz.f171 [.int .i64 234, .int .i64 0, .string ⟨#[57, 57, 57]⟩] (.tuple ⟨[.string ⟨#[50, 51, 52]⟩, .bool true, .int .i64 0]⟩) := by
 rw [DoesQ, v171_1]
 intro c1 h1
 intro c2 t2 h2
 refine c_t (capOK (row := [.int .i64 0]) h2 rfl) ?_
 intro c3 t3 h3
 refine c_t (capOK (row := [.int .i64 0, .int .i64 0]) h3 rfl) ?_
 intro c4 t4 h4
 intro c5 h5
 intro c6 t6 h6
 refine c_t (capOK (row := [.int .u8 50]) h6 rfl) ?_
 intro c7 t7 h7
 refine c_t (capOK (row := [.int .u8 50, .int .u8 51]) h7 rfl) ?_
 intro c8 t8 h8
 rfl
theorem pk171 : PureOK Tryz.prog 171 (memo m171) := pure_memo ok_B26 hmix fn171 lokf_none (by kernel_rfl) ⟨k171_0, k171_1, trivial⟩
def B27 : Env := B26.add 171 (memo m171)
theorem ok_B27 : EnvOK Tryz.prog B27 := env_add ok_B26 pk171
theorem fn72 : Fn1 Tryz.prog 72 Tryz.f72 := ⟨Tryz.func72, by kernel_rfl, by kernel_rfl, by kernel_rfl⟩
def m72 : List (List Value × Value) := [([.string ⟨#[65, 65, 57]⟩, .string ⟨#[97, 49, 49]⟩], .bool false)]
theorem v72_0 (R : Value → Prop) : bodyQ Tryz.prog B27 noL Tryz.f72 [S ⟨#[65, 65, 57]⟩, S ⟨#[97, 49, 49]⟩] (fun _ => none) 0 (fun v _ _ => R v) = (∀ c1 : Nat, Nat.ble 3 c1 = true → R (B false)) := by kernel_rfl
theorem k72_0 : DoesQ Tryz.prog B27 noL Tryz.f72 [.string ⟨#[65, 65, 57]⟩, .string ⟨#[97, 49, 49]⟩] (.bool false) := by
 rw [DoesQ, v72_0]
 intro c1 h1
 rfl
theorem pk72 : PureOK Tryz.prog 72 (memo m72) := pure_memo ok_B27 hmix fn72 lokf_none (by kernel_rfl) ⟨k72_0, trivial⟩
def B28 : Env := B27.add 72 (memo m72)
theorem ok_B28 : EnvOK Tryz.prog B28 := env_add ok_B27 pk72
theorem fn176 : Fn1 Tryz.prog 176 Tryz.f176 := ⟨Tryz.func176, by kernel_rfl, by kernel_rfl, by kernel_rfl⟩
def m176 : List (List Value × Value) := [([.string ⟨#[65, 65, 57]⟩], .tuple ⟨[.string ⟨#[32, 32, 32]⟩, .int .i64 0]⟩)]
theorem v176_0 (R : Value → Prop) : bodyQ Tryz.prog B28 noL Tryz.f176 [S ⟨#[65, 65, 57]⟩] (fun _ => none) 0 (fun v _ _ => R v) = (R (.tuple ⟨[S ⟨#[32, 32, 32]⟩, I 0]⟩)) := by kernel_rfl
theorem pk176 : PureOK Tryz.prog 176 (memo m176) := pure_memo ok_B28 hmix fn176 lokf_none (by kernel_rfl) ⟨by rw [DoesQ, v176_0], trivial⟩
def B29 : Env := B28.add 176 (memo m176)
theorem ok_B29 : EnvOK Tryz.prog B29 := env_add ok_B28 pk176
end Go.Cs
end
