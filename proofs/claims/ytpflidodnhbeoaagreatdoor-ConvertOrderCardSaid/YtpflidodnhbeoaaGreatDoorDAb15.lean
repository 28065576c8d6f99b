/-
  The run and the laws that serve these rows (Ab15)
-/
import Derived.Test.YtpflidodnhbeoaaGreatDoorDAb14
set_option linter.unusedVariables false
set_option linter.unusedSimpArgs false
noncomputable section
namespace Go.Ab
open Go Go.RowKit
variable [Tabs]
def hasNew (ops : Array Oper) : Bool := ops.toList.any newOp
section
variable (P : Program) (G : Env)
def codeQ (L : Nat → Option LoopH) (nt : Nat) : Code → Tmps → Lk → Nat → (Exit → Tmps → Lk → Nat → Prop) → Prop
 | .skip, t, m, n, K => K .normal t m n
 | .label _, t, m, n, K => K .normal t m n
 | .region _ ops d, t, m, n, K => match hasGuard ops && !hasGen G ops && !hasNew ops with
  | true => match !d || lexA ops t with
   | true => match opsJ P G ops nt m ops.toList [] t with
    | (c, t') => bif cnd c then K .normal t' m (n + ops.toList.length) else False
   | false => anyG P G ops nt (K .normal) ops.size (Array.replicate ops.size false) t m n
  | false => match d with
   | false => opsP P G ops nt ops.toList t m n (K .normal)
   | true => match hasGen G ops with
    | true => anyG P G ops nt (K .normal) ops.size (Array.replicate ops.size false) t m n
    | false => match lexA ops t with
     | true => opsR P G ops nt true ops.toList t m n (K .normal)
     | false => anyG P G ops nt (K .normal) ops.size (Array.replicate ops.size false) t m n
 | .seq a b, t, m, n, K => codeQ L nt a t m n fun e t m n => match e with
  | .normal => codeQ L nt b t m n K
  | e => K e t m n
 | .cond c x y, t, m, n, K => match opOk nt c with
  | false => False
  | true => match ev t c with
   | .bool b => match b with
    | true => codeQ L nt x (setC c t true) m n K
    | false => codeQ L nt y (setC c t false) m n K
   | _ => False
 | .block id b, t, m, n, K => (match L id with | some h => h | none => codeQ L nt b) t m n fun e t m n => match e with
  | .exit id' => match Nat.beq id' id with
   | true => K .normal t m n
   | false => K (.exit id') t m n
  | e => K e t m n
 | .loop b, t, m, n, K => iterR (codeQ L nt b) 64 t m n K
 | .scope b, t, m, n, K => codeQ L nt b t m n fun e t m n => match e with
  | .goto _ => False
  | e => K e t m n
 | .exit id, t, m, n, K => K (.exit id) t m n
 | .ret, t, m, n, K => K .ret t m n
 | _, _, _, _, _ => False
end
section
variable {P : Program} {G : Env} {ops : Array Oper} {nt n : Nat} {N : Nat} {w0 : World} {t : Tmps} {m : Lk} {ι : Nm} {a : Act} {w : World} {o : Oper}
theorem codeQ_sound (hG : EnvOK P G) (hm : P.follows .mixedOrders = true) {L : Nat → Option LoopH} : ∀ (c : Code) (t : Tmps) (m : Lk) (n : Nat) (K : Exit → Tmps → Lk → Nat → Prop), codeLex c = true → LOK P L nt c → codeQ P G L nt c t m n K → Sem P nt c t m n K
 | .skip, t, m, n, K, _, _, h => fun N w0 ι a w hrel Q hQ => wp_skip (hQ _ t m n ι a w h (Nat.le_refl _) (fun _ _ => rfl) hrel)
 | .label _, t, m, n, K, _, _, h => fun N w0 ι a w hrel Q hQ => wp_label (hQ _ t m n ι a w h (Nat.le_refl _) (fun _ _ => rfl) hrel)
 | .exit id, t, m, n, K, _, _, h => fun N w0 ι a w hrel Q hQ => wp_exit (hQ _ t m n ι a w h (Nat.le_refl _) (fun _ _ => rfl) hrel)
 | .ret, t, m, n, K, _, _, h => fun N w0 ι a w hrel Q hQ => wp_ret (hQ _ t m n ι a w h (Nat.le_refl _) (fun _ _ => rfl) hrel)
 | .region id ops d, t, m, n, K, hl, _, h => fun N w0 ι a w hrel Q hQ => by
  simp only [codeQ] at h
  split at h
  ·split at h
   ·rename_i hB
    cases hc : (opsJ P G ops nt m ops.toList [] t).1
    ·rw [hc] at h
     cases h
    ·rw [hc] at h
     have hs : opsR P G ops nt d ops.toList t m n fun t m n => K .normal t m n := opsJ_sound ops.toList [] t n hc h
     exact region_sound hG hm hB hs hrel fun t' m' n' ι' a' w' hk hn hι hr => hQ _ t' m' n' ι' a' w' hk hn hι hr
   ·rename_i hB
    simp only [Bool.or_eq_false_iff, Bool.not_eq_false'] at hB
    obtain ⟨rfl, _⟩ := hB
    exact region_any hG hm h hrel fun t' m' n' ι' a' w' hk hn hι hr => hQ _ t' m' n' ι' a' w' hk hn hι hr
  ·split at h
   ·exact region_sound hG hm rfl (opsP_sound h) hrel fun t' m' n' ι' a' w' hk hn hι hr => hQ _ t' m' n' ι' a' w' hk hn hι hr
   ·split at h
    ·exact region_any hG hm h hrel fun t' m' n' ι' a' w' hk hn hι hr => hQ _ t' m' n' ι' a' w' hk hn hι hr
    ·split at h
     ·rename_i hB
      exact region_sound hG hm (by simp [hB]) h hrel fun t' m' n' ι' a' w' hk hn hι hr => hQ _ t' m' n' ι' a' w' hk hn hι hr
     ·exact region_any hG hm h hrel fun t' m' n' ι' a' w' hk hn hι hr => hQ _ t' m' n' ι' a' w' hk hn hι hr
 | .seq x y, t, m, n, K, hl, hL, h => fun N w0 ι a w hrel Q hQ => by
  simp only [codeLex, Bool.and_eq_true] at hl
  refine wp_seq (codeQ_sound hG hm x t m n _ hl.1 hL.1 h N w0 ι a w hrel _ fun e t' m' n' ι' a' w' hk hn hι hr => ?_)
  cases e with
  | normal => exact codeQ_sound hG hm y t' m' n' K hl.2 hL.2 hk N w0 ι' a' w' hr Q fun e t2 m2 n2 ι2 a2 w2 hk2 hn2 hι2 hr2 => hQ e t2 m2 n2 ι2 a2 w2 hk2 (by omega) (fun k hk => (hι2 k (by omega)).trans (hι k hk)) hr2
  | _ => exact hQ _ t' m' n' ι' a' w' hk hn hι hr
 | .cond c x y, t, m, n, K, hl, hL, h => fun N w0 ι a w hrel Q hQ => by
  simp only [codeLex, Bool.and_eq_true] at hl
  simp only [codeQ] at h
  split at h
  ·exact h.elim
  ·rename_i hok
   have he := hrel.eval hok
   split at h
   ·rename_i b hb
    have hself : ∀ b', ev t c = .bool b' → setC c t b' = t := fun b' hb' => by
     cases c with
     | tmp d => exact tput_self hb'
     | _ => rfl
    rw [hb] at he
    split at h
    ·rw [hself _ hb] at h
     exact wp_cond (t := true) (by rw [he]; rfl) (codeQ_sound hG hm x t m n K hl.1 hL.1 h N w0 ι a w hrel Q hQ)
    ·rw [hself _ hb] at h
     exact wp_cond (t := false) (by rw [he]; rfl) (codeQ_sound hG hm y t m n K hl.2 hL.2 h N w0 ι a w hrel Q hQ)
   ·exact h.elim
 | .block id b, t, m, n, K, hl, hL, h => fun N w0 ι a w hrel Q hQ => by
  have hfin : Sem P nt b t m n (fun e t m n => match e with
    | .exit id' => match Nat.beq id' id with
     | true => K .normal t m n
     | false => K (.exit id') t m n
    | e => K e t m n) := by
   simp only [codeQ] at h
   simp only [LOK] at hL
   cases hLi : L id with
   | some hh => rw [hLi] at h hL; exact hL t m n _ h
   | none => rw [hLi] at h hL; exact codeQ_sound hG hm b t m n _ (by simpa [codeLex] using hl) hL h
  refine wp_block (hfin N w0 ι a w hrel _ fun e t' m' n' ι' a' w' hk hn hι hr => ?_)
  cases e with
  | exit id' =>
   simp only [Exit.inBlock]
   by_cases hid : id' = id
   ·subst hid
    simp only [Nat.beq_refl] at hk
    simp only [if_true]
    exact hQ _ t' m' n' ι' a' w' hk hn hι hr
   ·have : Nat.beq id' id = false := by
     cases hb : Nat.beq id' id
     ·rfl
     ·exact absurd (Nat.eq_of_beq_eq_true hb) hid
    simp only [this] at hk
    rw [if_neg hid]
    exact hQ _ t' m' n' ι' a' w' hk hn hι hr
  | _ => exact hQ _ t' m' n' ι' a' w' hk hn hι hr
 | .loop b, t, m, n, K, hl, hL, h => fun N w0 ι a w hrel Q hQ =>
  inLoop_loop (iter_inLoop (fun t m n K hb => codeQ_sound hG hm b t m n K (by simpa [codeLex] using hl) hL hb) 64 t m n K h N w0 ι a w hrel Q hQ)
 | .scope b, t, m, n, K, hl, hL, h => fun N w0 ι a w hrel Q hQ => by
  refine wp_scope_straight (codeQ_sound hG hm b t m n _ (by simpa [codeLex] using hl) hL h N w0 ι a w hrel _ fun e t' m' n' ι' a' w' hk hn hι hr => ?_)
  cases e with
  | goto l => exact hk.elim
  | _ => exact hQ _ t' m' n' ι' a' w' hk hn hι hr
 | .rangeFunc .., _, _, _, _, _, _, h => h.elim
 | .goto .., _, _, _, _, _, _, h => h.elim
 | .refuse .., _, _, _, _, _, _, h => h.elim
end
def bodyQ (P : Program) (G : Env) (L : Nat → Option LoopH) (f : Func) (args : List Value) (m : Lk) (n : Nat) (R : Value → Lk → Nat → Prop) : Prop :=
 match f.body with
 | some c => codeQ P G L f.ntmps c (argT args) m n fun e t m n => match e with
  | .normal | .ret => match resR P f.ntmps t m f.results.toList with
   | some vs => R (retV vs) m n
   | none => False
  | _ => False
 | none => False
section
variable {P : Program} {G : Env} {nt n : Nat} {N : Nat} {w0 : World} {S : Nat → Prop} {t : Tmps} {m : Lk} {ι : Nm} {a : Act} {w : World}
theorem bodyQ_sound {G : Env} (hG : EnvOK P G) (hm : P.follows .mixedOrders = true) {L : Nat → Option LoopH} {f : FuncId} {fn : Func} {c : Code} (hf : P.funcs[f]? = some fn) (hb : fn.body = some c)
  (hl : codeLex c = true) (hL : LOK P L fn.ntmps c) {args : List Value} (hlen : args.length ≤ fn.ntmps) {R : Value → Lk → Nat → Prop} (h : bodyQ P G L fn args m n R)
  (hmem : RelM N w0 m ι w) (hwf : ∀ k b, m k = some b → k < n ∧ ∀ j ∈ idsL b.c, j < n) (hargs : ∀ v ∈ args, ∀ j ∈ ids v, j < n) :
  Calls P f (args.map (ren ι)).toArray w fun e w' => ∃ v m' n' ι', e = .returned (ren ι' v) ∧ R v m' n' ∧ n ≤ n' ∧ (∀ k, k < n → ι' k = ι k) ∧ RelM N w0 m' ι' w' ∧
   (∀ k b, m' k = some b → k < n' ∧ ∀ j ∈ idsL b.c, j < n') ∧ ∀ j ∈ ids v, j < n' := by
 refine calls_of_wp hf hb ?_
 simp only [bodyQ, hb] at h
 have htm : (args.map (ren ι)).toArray ++ Array.replicate (fn.ntmps - (args.map (ren ι)).toArray.size) undef = Tm (argT args) ι fn.ntmps := by
  apply Array.ext_getElem?
  intro i
  rw [Array.getElem?_append]
  by_cases hi : i < fn.ntmps
  ·rw [Tm_get _ _ hi]
   split
   ·rename_i h1
    simp at h1
    simp [argT, h1]
   ·rename_i h1
    simp at h1
    have : i - args.length < fn.ntmps - args.length := by omega
    simp [argT, List.getElem?_eq_none h1, this]
    simp [undef, ren, renL]
  ·have h2 : (Tm (argT args) ι fn.ntmps)[i]? = none := by simp [Tm, Nat.le_of_not_lt hi]
   rw [h2]
   split
   ·rename_i h1
    simp at h1
    omega
   ·simp; omega
 refine codeQ_sound hG hm c _ m n _ hl hL h N w0 ι _ w ⟨htm, rfl, hmem, ⟨fun i hi j hj => ?_, hwf⟩⟩ _ fun e t' m' n' ι' a' w' hk hn hι hr => ?_
 ·simp only [argT, List.getD_eq_getElem?_getD] at hj
  cases hv : args[i]? with
  | none => rw [hv] at hj; simp [ids_undef] at hj
  | some v => rw [hv] at hj; exact hargs v (List.mem_of_getElem? hv) j hj
 ·have fin : (match resR P fn.ntmps t' m' fn.results.toList with
    | some vs => R (retV vs) m' n'
    | none => False) → a'.defers = [] ∧ ∃ v, (results fn a'.tmps).run P w' = .ok v w' ∧ ∃ u m' n' ι', Ending.returned v = .returned (ren ι' u) ∧ R u m' n' ∧ n ≤ n' ∧ (∀ k, k < n → ι' k = ι k) ∧ RelM N w0 m' ι' w' ∧
     (∀ k b, m' k = some b → k < n' ∧ ∀ j ∈ idsL b.c, j < n') ∧ ∀ j ∈ ids u, j < n' := fun hk => by
   split at hk
   ·rename_i vs hvs
    refine ⟨hr.defers, _, results_sound hr hvs, retV vs, m', n', ι', rfl, hk, hn, hι, hr.mem, hr.wf.mem, fun j hj => ?_⟩
    obtain ⟨v, hv, hjv⟩ := ids_retV hj
    exact (resR_sound hr _ _ hvs).1 v hv j hjv
   ·exact hk.elim
  cases e with
  | normal => exact fin hk
  | ret => exact fin hk
  | _ => exact hk.elim
theorem pure_of_bodyQ {G : Env} (hG : EnvOK P G) (hm : P.follows .mixedOrders = true) {L : Nat → Option LoopH} {f : FuncId} {fn : Func} {c : Code} (hf : P.funcs[f]? = some fn) (hb : fn.body = some c)
  (hn : (fn.name == "runtime.NumGoroutine") = false) (hl : codeLex c = true) (hL : LOK P L fn.ntmps c) {s : Spec}
  (h : ∀ args bs v, s args bs = some (true, v) → plainL args = true ∧ args.length ≤ fn.ntmps ∧ bodyQ P G L fn args (fun _ => none) 0 fun v' _ _ => v' = v) : PureOK P f s := by
 refine ⟨⟨fn, hf, hn, by rw [hb]; rfl⟩, fun args v N w0 lk ι w hrel hs hp => ?_⟩
 obtain ⟨h1, h2, h3⟩ := h _ _ _ hs
 have hnone : ∀ v ∈ args, ids v = [] := fun v hv => ids_plain (plainL_iff.1 h1 v hv)
 have hren : args.map (ren ι) = args.map (ren fun _ => (0, 0)) := List.map_congr_left fun v hv => by rw [ren_plain _ (plainL_iff.1 h1 v hv), ren_plain _ (plainL_iff.1 h1 v hv)]
 rw [hren]
 refine (bodyQ_sound (N := w.heap.size) (w0 := w) (ι := fun _ => (0, 0)) hG hm hf hb hl hL h2 h3 (relM_none w hrel.tabs)
  (fun _ _ h => by cases h) (fun v hv j hj => by rw [hnone v hv] at hj; cases hj)).mono fun e w' ⟨v', m', n', ι', he, hv', _, _, hm', _, _⟩ => ?_
 subst hv'
 exact ⟨by rw [he, ren_plain _ hp], hm'.below⟩
end
@[irreducible] def DoesQ (P : Program) (G : Env) (L : Nat → Option LoopH) (fn : Func) (args : List Value) (v : Value) : Prop :=
 bodyQ P G L fn args (fun _ => none) 0 fun v' _ _ => v' = v
section
variable {P : Program} {G : Env} {L : Nat → Option LoopH} {f : FuncId} {fn : Func}
theorem pure_ofQ (hG : EnvOK P G) (hm : P.follows .mixedOrders = true) (hf : Fn1 P f fn) (hL : LOKf P L fn) {s : Spec}
  (h : ∀ args bs v, s args bs = some (true, v) → plainL args = true ∧ args.length ≤ fn.ntmps ∧ DoesQ P G L fn args v) : PureOK P f s := by
 obtain ⟨h1, h2, h3, h4⟩ := hf
 cases hb : fn.body with
 | none => rw [hb] at h2; cases h2
 | some c =>
  simp only [hb] at h4
  simp only [LOKf, hb] at hL
  exact pure_of_bodyQ hG hm h1 hb h3 h4 hL fun args bs v hs => by have q := h args bs v hs; rw [DoesQ] at q; exact q
variable {α β γ δ ε ζ η : Type} [Enc α] [Enc β] [Enc γ] [Enc δ] [Enc ε] [Enc ζ] [Enc η]
theorem qure0 (hG : EnvOK P G) (hm : P.follows .mixedOrders = true) (hf : Fn1 P f fn) (hL : LOKf P L fn) {g : Bool × Value} (h : g.1 = true → DoesQ P G L fn [] g.2) : PureOK P f (sp0 g) := by
 refine pure_ofQ hG hm hf hL fun args bs v hs => ?_
 simp only [sp0] at hs
 split at hs
 ·simp only [Option.some.injEq] at hs
  subst hs
  exact ⟨rfl, Nat.zero_le _, h rfl⟩
 ·cases hs
theorem qure1 (hG : EnvOK P G) (hm : P.follows .mixedOrders = true) (hf : Fn1 P f fn) (hL : LOKf P L fn) {g : α → Bool × Value} (hn : 1 ≤ fn.ntmps)
  (h : ∀ a, (g a).1 = true → DoesQ P G L fn [Enc.enc a] (g a).2) : PureOK P f (sp1 g) := by
 refine pure_ofQ hG hm hf hL fun args bs v hs => ?_
 simp only [sp1] at hs
 split at hs
 ·split at hs
  ·rename_i ha
   simp only [Option.some.injEq] at hs
   obtain rfl := Enc.dec_some ha
   exact ⟨by simp [plainL, Enc.plain_enc], hn, by have q := h _ (by rw [hs]); rw [hs] at q; exact q⟩
  ·cases hs
 ·cases hs
theorem qure2 (hG : EnvOK P G) (hm : P.follows .mixedOrders = true) (hf : Fn1 P f fn) (hL : LOKf P L fn) {g : α → β → Bool × Value} (hn : 2 ≤ fn.ntmps)
  (h : ∀ a b, (g a b).1 = true → DoesQ P G L fn [Enc.enc a, Enc.enc b] (g a b).2) : PureOK P f (sp2 g) := by
 refine pure_ofQ hG hm hf hL fun args bs v hs => ?_
 simp only [sp2] at hs
 split at hs
 ·split at hs
  ·rename_i ha hb
   simp only [Option.some.injEq] at hs
   obtain rfl := Enc.dec_some ha
   obtain rfl := Enc.dec_some hb
   exact ⟨by simp [plainL, Enc.plain_enc], hn, by have q := h _ _ (by rw [hs]); rw [hs] at q; exact q⟩
  ·cases hs
 ·cases hs
theorem qure3 (hG : EnvOK P G) (hm : P.follows .mixedOrders = true) (hf : Fn1 P f fn) (hL : LOKf P L fn) {g : α → β → γ → Bool × Value} (hn : 3 ≤ fn.ntmps)
  (h : ∀ a b c, (g a b c).1 = true → DoesQ P G L fn [Enc.enc a, Enc.enc b, Enc.enc c] (g a b c).2) : PureOK P f (sp3 g) := by
 refine pure_ofQ hG hm hf hL fun args bs v hs => ?_
 simp only [sp3] at hs
 split at hs
 ·split at hs
  ·rename_i ha hb hc
   simp only [Option.some.injEq] at hs
   obtain rfl := Enc.dec_some ha
   obtain rfl := Enc.dec_some hb
   obtain rfl := Enc.dec_some hc
   exact ⟨by simp [plainL, Enc.plain_enc], hn, by have q := h _ _ _ (by rw [hs]); rw [hs] at q; exact q⟩
  ·cases hs
 ·cases hs
theorem qure4 (hG : EnvOK P G) (hm : P.follows .mixedOrders = true) (hf : Fn1 P f fn) (hL : LOKf P L fn) {g : α → β → γ → δ → Bool × Value} (hn : 4 ≤ fn.ntmps)
  (h : ∀ a b c d, (g a b c d).1 = true → DoesQ P G L fn [Enc.enc a, Enc.enc b, Enc.enc c, Enc.enc d] (g a b c d).2) : PureOK P f (sp4 g) := by
 refine pure_ofQ hG hm hf hL fun args bs v hs => ?_
 simp only [sp4] at hs
 split at hs
 ·split at hs
  ·rename_i ha hb hc hd
   simp only [Option.some.injEq] at hs
   obtain rfl := Enc.dec_some ha
   obtain rfl := Enc.dec_some hb
   obtain rfl := Enc.dec_some hc
   obtain rfl := Enc.dec_some hd
   exact ⟨by simp [plainL, Enc.plain_enc], hn, by have q := h _ _ _ _ (by rw [hs]); rw [hs] at q; exact q⟩
  ·cases hs
 ·cases hs
theorem qure5 (hG : EnvOK P G) (hm : P.follows .mixedOrders = true) (hf : Fn1 P f fn) (hL : LOKf P L fn) {g : α → β → γ → δ → ε → Bool × Value} (hn : 5 ≤ fn.ntmps)
  (h : ∀ a b c d e, (g a b c d e).1 = true → DoesQ P G L fn [Enc.enc a, Enc.enc b, Enc.enc c, Enc.enc d, Enc.enc e] (g a b c d e).2) : PureOK P f (sp5 g) := by
 refine pure_ofQ hG hm hf hL fun args bs v hs => ?_
 simp only [sp5] at hs
 split at hs
 ·split at hs
  ·rename_i ha hb hc hd he
   simp only [Option.some.injEq] at hs
   obtain rfl := Enc.dec_some ha
   obtain rfl := Enc.dec_some hb
   obtain rfl := Enc.dec_some hc
   obtain rfl := Enc.dec_some hd
   obtain rfl := Enc.dec_some he
   exact ⟨by simp [plainL, Enc.plain_enc], hn, by have q := h _ _ _ _ _ (by rw [hs]); rw [hs] at q; exact q⟩
  ·cases hs
 ·cases hs
end
section
variable {P : Program} {G : Env} {L : Nat → Option LoopH} {f : FuncId} {fn : Func}
def inlQ (P : Program) (G : Env) (L : Nat → Option LoopH) (fn : Func) : List Value → Lk → Nat → (Value → Lk → Nat → Prop) → Prop :=
 fun args m n K => match Nat.ble args.length fn.ntmps with
  | true => bodyQ P G L fn args m n K
  | false => False
theorem gen_inlQ (hG : EnvOK P G) (hm : P.follows .mixedOrders = true) (hf : Fn1 P f fn) (hL : LOKf P L fn) : GenOK P f (inlQ P G L fn) := by
 obtain ⟨h1, h2, h3, h4⟩ := hf
 cases hb : fn.body with
 | none => rw [hb] at h2; cases h2
 | some c =>
  simp only [hb] at h4
  simp only [LOKf, hb] at hL
  refine ⟨⟨fn, h1, h3, by rw [hb]; rfl⟩, fun args m n K h N w0 ι w hrel hwf hargs => ?_⟩
  unfold inlQ at h
  split at h
  ·rename_i hle
   exact bodyQ_sound hG hm h1 hb h4 hL (Nat.le_of_ble_eq_true hle) h hrel hwf hargs
  ·exact h.elim
end
section
variable {P : Program} {G : Env} {nt : Nat} {N : Nat} {w0 : World} {ι : Nm} {a : Act} {w : World}
theorem loop_specQ (hG : EnvOK P G) (hm : P.follows .mixedOrders = true) {L : Nat → Option LoopH} {c : Code} (hl : codeLex c = true) (hL : LOK P L nt c) {σ : Type} (S : LSpec σ)
  (V : σ → List Value) (B : σ → List (Option Blk)) (μ : σ → Nat) (hdec : ∀ {vs bs s}, S.dec vs bs = some s → vs = V s ∧ bs = B s)
  (hid : ∀ n s s', (idsLt n (V s) && idsLtB n (B s)) = true → (idsLt n (V s') && idsLtB n (B s')) = true)
  (round : ∀ s x Z, S.pre s = true → S.fin s Z → codeQ P G L nt c (tl S.live (V s) x) (ml S.mid (B s)) S.n fun e t' m' _ => S.step V B μ s Z e (S.live.map t') (S.mid.map m')) (t : Tmps) (m : Lk) (n : Nat) (K : Exit → Tmps → Lk → Nat → Prop) (h : S.h t m n K) : Sem P nt (.loop c) t m n K := by
 intro N w0 ι a w hrel Q hQ
 simp only [LSpec.h] at h
 split at h
 case h_2 => exact h.elim
 rename_i hok
 split at h
 case h_2 => exact h.elim
 rename_i s hs
 split at h
 case h_2 => exact h.elim
 rename_i hpre
 simp only [Bool.and_eq_true] at hok
 obtain ⟨⟨⟨hn, hmid⟩, hv⟩, hb⟩ := hok
 have hn := Nat.le_of_ble_eq_true hn
 obtain ⟨e1, e2⟩ := hdec hs
 obtain ⟨x, hx⟩ := hrel.forget hv hb hmid
 rw [e1, e2] at hx
 rw [e1] at hv
 rw [e2] at hb
 have key : ∀ q s, μ s = q → S.pre s = true → S.fin s (lout S.live S.mid S.n K) → (idsLt S.n (V s) && idsLtB S.n (B s)) = true → ∀ (x : Tmps) (ι : Nm) (a : Act) (w : World),
   RelS N w0 (· < S.n) nt (tl S.live (V s) x) (ml S.mid (B s)) ι a w → ∀ Q : Exit → Act → World → Prop,
   (∀ e t' m' ι' a' w', K e t' m' S.n → (∀ k, k < S.n → ι' k = ι k) → RelS N w0 (· < S.n) nt t' m' ι' a' w' → Q e a' w') → InLoop P c Q a w := by
  intro q
  induction q using Nat.strongRecOn with
  | _ q ih =>
   intro s hq hpre hfin hids x ι a w hrel Q hQ
   refine inLoop_step (codeQ_sound hG hm c _ _ _ _ hl hL (round s x _ hpre hfin) N w0 ι a w hrel _ fun e t' m' n' ι' a' w' hk hn hι hr => ?_)
   have fin : ∀ e, lout S.live S.mid S.n K e (S.live.map t') (S.mid.map m') → Q e a' w' := by
    intro e ho
    simp only [lout] at ho
    split at ho
    case h_2 => exact ho.elim
    rename_i hii
    simp only [Bool.and_eq_true] at hii
    obtain ⟨x', hx'⟩ := hr.forget hii.1 hii.2 hmid
    exact hQ e _ _ ι' a' w' (ho x') hι hx'
   cases e with
   | normal =>
    obtain ⟨s', h1, h2, h3, h4, h5⟩ := hk
    have hids' := hid _ _ s' hids
    have hids'' := hids'
    simp only [Bool.and_eq_true] at hids''
    obtain ⟨x', hx'⟩ := hr.forget (n := S.n) (live := S.live) (mid := S.mid) (by rw [h1]; exact hids''.1) (by rw [h2]; exact hids''.2) hmid
    rw [h1, h2] at hx'
    exact ih (μ s') (hq ▸ h4) s' rfl h3 h5 hids' x' ι' a' w' hx' Q fun e t2 m2 ι2 a2 w2 hk2 hι2 hr2 => hQ e t2 m2 ι2 a2 w2 hk2 (fun k hk => (hι2 k hk).trans (hι k hk)) hr2
   | _ => exact fin _ hk
 refine inLoop_loop (key _ s rfl hpre h (by simp [hv, hb]) x ι a w hx Q fun e t' m' ι' a' w' hk hι hr => ?_)
 exact hQ e t' m' S.n ι' a' w' hk hn (fun k hk => hι k (by omega)) hr
end
section
variable {P : Program}
@[irreducible] def DoesVQ (P : Program) (G : Env) (L : Nat → Option LoopH) (fn : Func) (args : List Value) (bs : List (Option Blk)) (n : Nat) (v : Value) : Prop :=
 bodyQ P G L fn args (viewL bs) n fun v' _ _ => v' = v
theorem pure_viewQ {G : Env} {L : Nat → Option LoopH} {f : FuncId} {fn : Func} (hG : EnvOK P G) (hm : P.follows .mixedOrders = true) (hf : Fn1 P f fn) (hL : LOKf P L fn) {s : Spec}
  (h : ∀ args bs v, s args bs = some (true, v) → ∃ args' n, canonL 0 args = some args' ∧ args.length = n ∧ args'.length ≤ fn.ntmps ∧ DoesVQ P G L fn args' bs n v) : PureOK P f s := by
 obtain ⟨h1, h2, h3, h4⟩ := hf
 cases hb : fn.body with
 | none => rw [hb] at h2; cases h2
 | some c =>
  simp only [hb] at h4
  simp only [LOKf, hb] at hL
  refine ⟨⟨fn, h1, h3, by rw [hb]; rfl⟩, fun args v N w0 lk ι w hrel hs hp => ?_⟩
  obtain ⟨args', n, ha, rfl, hle, hbody⟩ := h _ _ _ hs
  rw [DoesVQ] at hbody
  have hren := canonL_ren (ι := ι) (all := args) args 0 (fun j => by simp) ha
  rw [← hren]
  refine (bodyQ_sound (N := w.heap.size) (w0 := w) (ι := nmOf ι args) (w := w) hG hm h1 hb h4 hL hle hbody ⟨Below.refl _ _, ⟨Nat.le_refl _, hrel.tabs⟩, ?_, ?_, ?_⟩ ?_ ?_).mono fun e w' ⟨v', m', n', ι', he, hv', _, _, hm', _, _⟩ => ?_
  ·intro k b hk ho
   obtain ⟨b', _, _, rfl⟩ := viewL_get _ _ hk
   cases ho
  ·intro k b hk _
   obtain ⟨b', hb', hp', rfl⟩ := viewL_get _ _ hk
   rw [List.getElem?_map] at hb'
   cases hak : args[k]? with
   | none => rw [hak] at hb'; cases hb'
   | some x =>
    rw [hak] at hb'
    simp only [Option.map_some, Option.some.injEq] at hb'
    have key : ∀ a : Addr, nmOf ι args k = ι a.block → noIt (lk a.block) = some b' → (nmOf ι args k).1 < w.heap.size ∧ ∀ i v, b'.c[i]? = some v → w.cell? ⟨(nmOf ι args k).1, (nmOf ι args k).2 + i, none⟩ = some (ren (nmOf ι args) v) := by
     intro a hn hl
     obtain ⟨hl, hit⟩ := noIt_some hl
     rw [hn]
     have hpl : ∀ i v, b'.c[i]? = some v → ren (nmOf ι args) v = v ∧ ren ι v = v := fun i v hv => by
      have := plainL_iff.1 hp' v (List.mem_of_getElem? hv)
      exact ⟨ren_plain _ this, ren_plain _ this⟩
     cases ho : b'.own with
     | true =>
      obtain ⟨q1, q2, q3⟩ := hrel.blk _ _ hl ho
      rw [objOf_any (by simpa [ho] using hit)] at q3
      refine ⟨hrel.lt hl ho, fun i v hv => ?_⟩
      rw [World.cell?, q3, q1]
      simp [hv, (hpl i v hv).1, (hpl i v hv).2]
     | false =>
      obtain ⟨q1, q2⟩ := hrel.view _ _ hl ho
      refine ⟨q1, fun i v hv => ?_⟩
      rw [q2 i v hv, (hpl i v hv).1, (hpl i v hv).2]
    unfold blkOf at hb'
    split at hb'
    ·rename_i a
     split at hb'
     ·exact key a (by simp [nmOf, hak]) hb'
     ·cases hb'
    ·rename_i a _ _
     split at hb'
     ·exact key a (by simp [nmOf, hak]) hb'
     ·cases hb'
    ·cases hb'
  ·intro k k' b b' hk _ ho _ _
   obtain ⟨b', _, _, rfl⟩ := viewL_get _ _ hk
   cases ho
  ·intro k b hk
   obtain ⟨b', hb', hp', rfl⟩ := viewL_get _ _ hk
   refine ⟨?_, fun j hj => ?_⟩
   ·rcases Nat.lt_or_ge k args.length with hlt | hge
    ·exact hlt
    ·rw [List.getElem?_eq_none (by simpa using hge)] at hb'
     cases hb'
   ·rw [ids_plainL hp'] at hj
    cases hj
  ·have := canonL_ids args 0 ha
   simpa using this
  ·subst hv'
   exact ⟨by rw [he, ren_plain _ hp], hm'.below⟩
end
end Go.Ab
