/-
  Specifications by type, environments, loops: what a function's proof is put together from.
-/
import Derived.Test.YthaedhabookjeaaAb9
set_option linter.unusedVariables false
set_option linter.unusedSimpArgs false
namespace Go.Ab
open Go Go.RowKit

/-- Data that is a value. -/
class Enc (α : Type) where
  enc : α → Value
  dec : Value → Option α
  dec_some : ∀ {v a}, dec v = some a → v = enc a
  plain_enc : ∀ a, plain (enc a) = true

instance : Enc Int where
  enc n := .int .i64 n
  dec | .int .i64 n => some n | _ => none
  dec_some := by
    intro v a h
    split at h
    · cases h; rfl
    · cases h
  plain_enc _ := rfl
instance : Enc Bool where
  enc n := .bool n
  dec | .bool n => some n | _ => none
  dec_some := by
    intro v a h
    split at h
    · cases h; rfl
    · cases h
  plain_enc _ := rfl
instance : Enc ByteArray where
  enc n := .string n
  dec | .string n => some n | _ => none
  dec_some := by
    intro v a h
    split at h
    · cases h; rfl
    · cases h
  plain_enc _ := rfl

section
variable {α β γ δ ε ζ η : Type} [Enc α] [Enc β] [Enc γ] [Enc δ] [Enc ε] [Enc ζ] [Enc η]
def sp0 (g : Bool × Value) : Spec := fun args _ => match args with
  | [] => some g
  | _ => none
def sp1 (g : α → Bool × Value) : Spec := fun args _ => match args with
  | [a] => match Enc.dec (α := α) a with
    | some a => some (g a)
    | none => none
  | _ => none
def sp2 (g : α → β → Bool × Value) : Spec := fun args _ => match args with
  | [a, b] => match Enc.dec (α := α) a, Enc.dec (α := β) b with
    | some a, some b => some (g a b)
    | _, _ => none
  | _ => none
def sp3 (g : α → β → γ → Bool × Value) : Spec := fun args _ => match args with
  | [a, b, c] => match Enc.dec (α := α) a, Enc.dec (α := β) b, Enc.dec (α := γ) c with
    | some a, some b, some c => some (g a b c)
    | _, _, _ => none
  | _ => none
def sp4 (g : α → β → γ → δ → Bool × Value) : Spec := fun args _ => match args with
  | [a, b, c, d] => match Enc.dec (α := α) a, Enc.dec (α := β) b, Enc.dec (α := γ) c, Enc.dec (α := δ) d with
    | some a, some b, some c, some d => some (g a b c d)
    | _, _, _, _ => none
  | _ => none
def sp5 (g : α → β → γ → δ → ε → Bool × Value) : Spec := fun args _ => match args with
  | [a, b, c, d, e] => match Enc.dec (α := α) a, Enc.dec (α := β) b, Enc.dec (α := γ) c, Enc.dec (α := δ) d, Enc.dec (α := ε) e with
    | some a, some b, some c, some d, some e => some (g a b c d e)
    | _, _, _, _, _ => none
  | _ => none
def sp6 (g : α → β → γ → δ → ε → ζ → Bool × Value) : Spec := fun args _ => match args with
  | [a, b, c, d, e, f] => match Enc.dec (α := α) a, Enc.dec (α := β) b, Enc.dec (α := γ) c, Enc.dec (α := δ) d, Enc.dec (α := ε) e, Enc.dec (α := ζ) f with
    | some a, some b, some c, some d, some e, some f => some (g a b c d e f)
    | _, _, _, _, _, _ => none
  | _ => none
def sp7 (g : α → β → γ → δ → ε → ζ → η → Bool × Value) : Spec := fun args _ => match args with
  | [a, b, c, d, e, f, h] => match Enc.dec (α := α) a, Enc.dec (α := β) b, Enc.dec (α := γ) c, Enc.dec (α := δ) d, Enc.dec (α := ε) e, Enc.dec (α := ζ) f, Enc.dec (α := η) h with
    | some a, some b, some c, some d, some e, some f, some h => some (g a b c d e f h)
    | _, _, _, _, _, _, _ => none
  | _ => none
end

/-- A function, its code and what is asked of both once. -/
structure Fn1 (P : Program) (f : FuncId) (fn : Func) : Prop where
  at_ : P.funcs[f]? = some fn
  body : fn.body.isSome = true
  name : (fn.name == "runtime.NumGoroutine") = false
  lex : (match fn.body with | some c => codeLex c | none => false) = true

/-- What a body does, whatever the rest. -/
@[irreducible] def Does (P : Program) (G : Env) (L : Nat → Option LoopH) (fn : Func) (args : List Value) (v : Value) : Prop :=
  bodyR P G L fn args (fun _ => none) 0 fun v' _ _ => v' = v

def LOKf (P : Program) (L : Nat → Option LoopH) (fn : Func) : Prop := match fn.body with | some c => LOK P L fn.ntmps c | none => True

section
variable {P : Program} {G : Env} {L : Nat → Option LoopH} {f : FuncId} {fn : Func}

theorem pure_of (hG : EnvOK P G) (hm : P.follows .mixedOrders = true) (hf : Fn1 P f fn) (hL : LOKf P L fn) {s : Spec}
    (h : ∀ args bs v, s args bs = some (true, v) → plainL args = true ∧ args.length ≤ fn.ntmps ∧ Does P G L fn args v) : PureOK P f s := by
  obtain ⟨h1, h2, h3, h4⟩ := hf
  cases hb : fn.body with
  | none => rw [hb] at h2; cases h2
  | some c =>
    simp only [hb] at h4
    simp only [LOKf, hb] at hL
    exact pure_of_body hG hm h1 hb h3 h4 hL fun args bs v hs => by have q := h args bs v hs; rw [Does] at q; exact q

variable {α β γ δ ε ζ η : Type} [Enc α] [Enc β] [Enc γ] [Enc δ] [Enc ε] [Enc ζ] [Enc η]

theorem pure0 (hG : EnvOK P G) (hm : P.follows .mixedOrders = true) (hf : Fn1 P f fn) (hL : LOKf P L fn) {g : Bool × Value} (h : g.1 = true → Does P G L fn [] g.2) : PureOK P f (sp0 g) := by
  refine pure_of hG hm hf hL fun args bs v hs => ?_
  simp only [sp0] at hs
  split at hs
  · simp only [Option.some.injEq] at hs
    subst hs
    exact ⟨rfl, Nat.zero_le _, h rfl⟩
  · cases hs

theorem pure1 (hG : EnvOK P G) (hm : P.follows .mixedOrders = true) (hf : Fn1 P f fn) (hL : LOKf P L fn) {g : α → Bool × Value} (hn : 1 ≤ fn.ntmps)
    (h : ∀ a, (g a).1 = true → Does P G L fn [Enc.enc a] (g a).2) : PureOK P f (sp1 g) := by
  refine pure_of hG hm hf hL fun args bs v hs => ?_
  simp only [sp1] at hs
  split at hs
  · split at hs
    · rename_i ha
      simp only [Option.some.injEq] at hs
      obtain rfl := Enc.dec_some ha
      exact ⟨by simp [plainL, Enc.plain_enc], hn, by have q := h _ (by rw [hs]); rw [hs] at q; exact q⟩
    · cases hs
  · cases hs

theorem pure2 (hG : EnvOK P G) (hm : P.follows .mixedOrders = true) (hf : Fn1 P f fn) (hL : LOKf P L fn) {g : α → β → Bool × Value} (hn : 2 ≤ fn.ntmps)
    (h : ∀ a b, (g a b).1 = true → Does P G L fn [Enc.enc a, Enc.enc b] (g a b).2) : PureOK P f (sp2 g) := by
  refine pure_of hG hm hf hL fun args bs v hs => ?_
  simp only [sp2] at hs
  split at hs
  · split at hs
    · rename_i ha hb
      simp only [Option.some.injEq] at hs
      obtain rfl := Enc.dec_some ha
      obtain rfl := Enc.dec_some hb
      exact ⟨by simp [plainL, Enc.plain_enc], hn, by have q := h _ _ (by rw [hs]); rw [hs] at q; exact q⟩
    · cases hs
  · cases hs

theorem pure3 (hG : EnvOK P G) (hm : P.follows .mixedOrders = true) (hf : Fn1 P f fn) (hL : LOKf P L fn) {g : α → β → γ → Bool × Value} (hn : 3 ≤ fn.ntmps)
    (h : ∀ a b c, (g a b c).1 = true → Does P G L fn [Enc.enc a, Enc.enc b, Enc.enc c] (g a b c).2) : PureOK P f (sp3 g) := by
  refine pure_of hG hm hf hL fun args bs v hs => ?_
  simp only [sp3] at hs
  split at hs
  · split at hs
    · rename_i ha hb hc
      simp only [Option.some.injEq] at hs
      obtain rfl := Enc.dec_some ha
      obtain rfl := Enc.dec_some hb
      obtain rfl := Enc.dec_some hc
      exact ⟨by simp [plainL, Enc.plain_enc], hn, by have q := h _ _ _ (by rw [hs]); rw [hs] at q; exact q⟩
    · cases hs
  · cases hs

theorem pure4 (hG : EnvOK P G) (hm : P.follows .mixedOrders = true) (hf : Fn1 P f fn) (hL : LOKf P L fn) {g : α → β → γ → δ → Bool × Value} (hn : 4 ≤ fn.ntmps)
    (h : ∀ a b c d, (g a b c d).1 = true → Does P G L fn [Enc.enc a, Enc.enc b, Enc.enc c, Enc.enc d] (g a b c d).2) : PureOK P f (sp4 g) := by
  refine pure_of hG hm hf hL fun args bs v hs => ?_
  simp only [sp4] at hs
  split at hs
  · split at hs
    · rename_i ha hb hc hd
      simp only [Option.some.injEq] at hs
      obtain rfl := Enc.dec_some ha
      obtain rfl := Enc.dec_some hb
      obtain rfl := Enc.dec_some hc
      obtain rfl := Enc.dec_some hd
      exact ⟨by simp [plainL, Enc.plain_enc], hn, by have q := h _ _ _ _ (by rw [hs]); rw [hs] at q; exact q⟩
    · cases hs
  · cases hs

theorem pure5 (hG : EnvOK P G) (hm : P.follows .mixedOrders = true) (hf : Fn1 P f fn) (hL : LOKf P L fn) {g : α → β → γ → δ → ε → Bool × Value} (hn : 5 ≤ fn.ntmps)
    (h : ∀ a b c d e, (g a b c d e).1 = true → Does P G L fn [Enc.enc a, Enc.enc b, Enc.enc c, Enc.enc d, Enc.enc e] (g a b c d e).2) : PureOK P f (sp5 g) := by
  refine pure_of hG hm hf hL fun args bs v hs => ?_
  simp only [sp5] at hs
  split at hs
  · split at hs
    · rename_i ha hb hc hd he
      simp only [Option.some.injEq] at hs
      obtain rfl := Enc.dec_some ha
      obtain rfl := Enc.dec_some hb
      obtain rfl := Enc.dec_some hc
      obtain rfl := Enc.dec_some hd
      obtain rfl := Enc.dec_some he
      exact ⟨by simp [plainL, Enc.plain_enc], hn, by have q := h _ _ _ _ _ (by rw [hs]); rw [hs] at q; exact q⟩
    · cases hs
  · cases hs

theorem pure6 (hG : EnvOK P G) (hm : P.follows .mixedOrders = true) (hf : Fn1 P f fn) (hL : LOKf P L fn) {g : α → β → γ → δ → ε → ζ → Bool × Value} (hn : 6 ≤ fn.ntmps)
    (h : ∀ a b c d e k, (g a b c d e k).1 = true → Does P G L fn [Enc.enc a, Enc.enc b, Enc.enc c, Enc.enc d, Enc.enc e, Enc.enc k] (g a b c d e k).2) : PureOK P f (sp6 g) := by
  refine pure_of hG hm hf hL fun args bs v hs => ?_
  simp only [sp6] at hs
  split at hs
  · split at hs
    · rename_i ha hb hc hd he hk
      simp only [Option.some.injEq] at hs
      obtain rfl := Enc.dec_some ha
      obtain rfl := Enc.dec_some hb
      obtain rfl := Enc.dec_some hc
      obtain rfl := Enc.dec_some hd
      obtain rfl := Enc.dec_some he
      obtain rfl := Enc.dec_some hk
      exact ⟨by simp [plainL, Enc.plain_enc], hn, by have q := h _ _ _ _ _ _ (by rw [hs]); rw [hs] at q; exact q⟩
    · cases hs
  · cases hs

theorem pure7 (hG : EnvOK P G) (hm : P.follows .mixedOrders = true) (hf : Fn1 P f fn) (hL : LOKf P L fn) {g : α → β → γ → δ → ε → ζ → η → Bool × Value} (hn : 7 ≤ fn.ntmps)
    (h : ∀ a b c d e k l, (g a b c d e k l).1 = true → Does P G L fn [Enc.enc a, Enc.enc b, Enc.enc c, Enc.enc d, Enc.enc e, Enc.enc k, Enc.enc l] (g a b c d e k l).2) : PureOK P f (sp7 g) := by
  refine pure_of hG hm hf hL fun args bs v hs => ?_
  simp only [sp7] at hs
  split at hs
  · split at hs
    · rename_i ha hb hc hd he hk hl
      simp only [Option.some.injEq] at hs
      obtain rfl := Enc.dec_some ha
      obtain rfl := Enc.dec_some hb
      obtain rfl := Enc.dec_some hc
      obtain rfl := Enc.dec_some hd
      obtain rfl := Enc.dec_some he
      obtain rfl := Enc.dec_some hk
      obtain rfl := Enc.dec_some hl
      exact ⟨by simp [plainL, Enc.plain_enc], hn, by have q := h _ _ _ _ _ _ _ (by rw [hs]); rw [hs] at q; exact q⟩
    · cases hs
  · cases hs

/-! ### Environments -/
def Env.nil : Env := fun _ => none
def Env.add (G : Env) (f : FuncId) (s : Spec) : Env := fun j => match Nat.beq j f with | true => some (.pure s) | false => G j
def Env.addG (G : Env) (f : FuncId) (h : List Value → Lk → Nat → (Value → Lk → Nat → Prop) → Prop) : Env := fun j => match Nat.beq j f with | true => some (.gen h) | false => G j

theorem env_nil : EnvOK P Env.nil := ⟨fun _ _ h => (by cases h), fun _ _ h' => (by cases h')⟩
theorem env_add (hG : EnvOK P G) {s : Spec} (h : PureOK P f s) : EnvOK P (G.add f s) := by
  refine ⟨fun j s' hj => ?_, fun j h' hj => ?_⟩
  · unfold Env.add at hj
    split at hj
    · rename_i hb
      obtain rfl := Nat.eq_of_beq_eq_true hb
      cases hj
      exact h
    · exact hG.1 j s' hj
  · unfold Env.add at hj
    split at hj
    · cases hj
    · exact hG.2 j h' hj
theorem env_addG (hG : EnvOK P G) {h : List Value → Lk → Nat → (Value → Lk → Nat → Prop) → Prop} (hh : GenOK P f h) : EnvOK P (G.addG f h) := by
  refine ⟨fun j s' hj => ?_, fun j h' hj => ?_⟩
  · unfold Env.addG at hj
    split at hj
    · cases hj
    · exact hG.1 j s' hj
  · unfold Env.addG at hj
    split at hj
    · rename_i hb
      obtain rfl := Nat.eq_of_beq_eq_true hb
      cases hj
      exact hh
    · exact hG.2 j h' hj

/-- A function that is run in place. -/
def inl (P : Program) (G : Env) (L : Nat → Option LoopH) (fn : Func) : List Value → Lk → Nat → (Value → Lk → Nat → Prop) → Prop :=
  fun args m n K => match Nat.ble args.length fn.ntmps with
    | true => bodyR P G L fn args m n K
    | false => False

theorem gen_inl (hG : EnvOK P G) (hm : P.follows .mixedOrders = true) (hf : Fn1 P f fn) (hL : LOKf P L fn) : GenOK P f (inl P G L fn) := by
  obtain ⟨h1, h2, h3, h4⟩ := hf
  cases hb : fn.body with
  | none => rw [hb] at h2; cases h2
  | some c =>
    simp only [hb] at h4
    simp only [LOKf, hb] at hL
    refine ⟨⟨fn, h1, h3, by rw [hb]; rfl⟩, fun args m n K h N w0 ι w hrel hwf hargs => ?_⟩
    unfold inl at h
    split at h
    · rename_i hle
      exact body_sound hG hm h1 hb h4 hL (Nat.le_of_ble_eq_true hle) h hrel hwf hargs
    · exact h.elim

def noL : Nat → Option LoopH := fun _ => none
def oneL (id : Nat) (h : LoopH) : Nat → Option LoopH := fun j => match Nat.beq j id with | true => some h | false => none

theorem lok_none {nt : Nat} : ∀ c : Code, LOK P noL nt c
  | .seq a b | .cond _ a b => ⟨lok_none a, lok_none b⟩
  | .block _ b => lok_none b
  | .loop b | .scope b => lok_none b
  | .skip | .label _ | .region _ _ _ | .exit _ | .ret | .goto _ | .rangeFunc _ _ _ _ | .refuse _ => trivial
theorem lokf_none : LOKf P noL fn := by
  unfold LOKf
  split
  · exact lok_none _
  · trivial
end

theorem beq_iff {b : Bool} {P Q R : Prop} (h1 : b = true → (P ↔ R)) (h2 : b = false → (Q ↔ R)) : ((bif b then P else Q) ↔ R) := by
  cases b
  · exact h2 rfl
  · exact h1 rfl
theorem cond_intro {b : Bool} {P Q : Prop} (h1 : b = true → P) (h2 : b = false → Q) : bif b then P else Q := by
  cases b
  · exact h2 rfl
  · exact h1 rfl

end Go.Ab
