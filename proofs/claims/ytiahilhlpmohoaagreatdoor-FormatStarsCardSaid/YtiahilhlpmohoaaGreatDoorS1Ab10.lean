/-
  Ab10: the run and laws.
-/
import Derived.Test.YtiahilhlpmohoaaGreatDoorS1Ab9
set_option linter.unusedVariables false
set_option linter.unusedSimpArgs false
set_option linter.unusedSectionVars false
noncomputable section
namespace Go.Ab
open Go Go.RowKit
variable [Tabs]
class Enc (α:Type) where
 enc:α→Value
 dec:Value→Option α
 dec_some:∀{v a},dec v=some a→v=enc a
 plain_enc:∀a,plain (enc a)=true
instance:Enc Int where
 enc n:= .int .i64 n
 dec | .int .i64 n=>some n | _=>none
 dec_some:=by
  intro v a h;split at h
  ·cases h;rfl
  ·cases h
 plain_enc _:=rfl
instance:Enc Bool where
 enc n:= .bool n
 dec | .bool n=>some n | _=>none
 dec_some:=by
  intro v a h;split at h
  ·cases h;rfl
  ·cases h
 plain_enc _:=rfl
instance:Enc ByteArray where
 enc n:= .string n
 dec | .string n=>some n | _=>none
 dec_some:=by
  intro v a h;split at h
  ·cases h;rfl
  ·cases h
 plain_enc _:=rfl
section
variable {α β γ δ ε ζ η : Type} [Enc α] [Enc β] [Enc γ] [Enc δ] [Enc ε] [Enc ζ] [Enc η]
def sp0(g:Bool×Value):Spec:=fun args _=>match args with
 | []=>some g
 | _=>none
def sp1(g:α→Bool×Value):Spec:=fun args _=>match args with
 | [a]=>match Enc.dec (α:=α) a with
  | some a=>some (g a)
  | none=>none
 | _=>none
def sp2(g:α→β→Bool×Value):Spec:=fun args _=>match args with
 | [a,b]=>match Enc.dec (α:=α) a,Enc.dec (α:=β) b with
  | some a,some b=>some (g a b)
  | _,_=>none
 | _=>none
def sp3(g:α→β→γ→Bool×Value):Spec:=fun args _=>match args with
 | [a,b,c]=>match Enc.dec (α:=α) a,Enc.dec (α:=β) b,Enc.dec (α:=γ) c with
  | some a,some b,some c=>some (g a b c)
  | _,_,_=>none
 | _=>none
end
structure Fn1 (P:Program)(f:FuncId)(fn:Func):Prop where
 at_:P.funcs[f]?=some fn
 body:fn.body.isSome=true
 name : (fn.name == "runtime.NumGoroutine") = false
 lex:(match fn.body with | some c=>jch c | none=>false)=true
omit [Tabs] in
theorem Fn1.m {P : Program} {f : FuncId} {fn : Func} (h : P.funcs[f]? = some fn) (h2 : (fn.body.isSome, (fn.name == "runtime.NumGoroutine"), (match fn.body with | some c => jch c | none => false)) = (true, false, true) := by kernel_rfl) : Fn1 P f fn := ⟨h, congrArg (·.1) h2, congrArg (·.2.1) h2, congrArg (·.2.2) h2⟩
def LOKf(P:Program)(L:Nat→Option jcb)(fn:Func):Prop:=match fn.body with | some c=>LOK P L fn.ntmps c | none=>True
section
variable {P : Program} {G : Env} {L : Nat → Option jcb} {f : FuncId} {fn : Func}
variable {α β γ δ ε ζ η : Type} [Enc α] [Enc β] [Enc γ] [Enc δ] [Enc ε] [Enc ζ] [Enc η]
def Env.nil:Env:=fun _=>none
def Env.add(G:Env)(f:FuncId)(s:Spec):Env:=fun j=>match Nat.beq j f with | true=>some (.pure s) | false=>G j
def Env.addG(G:Env)(f:FuncId)(h:J→Lk→Nat→(Value→Lk→Nat→Prop)→Prop):Env:=fun j=>match Nat.beq j f with | true=>some (.gen h) | false=>G j
theorem jav:ja3 P Env.nil:=⟨fun _ _ h=>(by cases h),fun _ _ h'=>(by cases h')⟩
theorem jaj(hG:ja3 P G){s:Spec}(h:jan P f s):ja3 P (G.add f s):=by
 refine⟨fun j s' hj=> ?_,fun j h' hj=> ?_⟩
 ·unfold Env.add at hj;split at hj
  ·rename_i hb;obtain rfl:=jah hb;cases hj;exact h
  ·exact hG.1 j s' hj
 ·unfold Env.add at hj;split at hj
  ·cases hj
  ·exact hG.2 j h' hj
theorem jau(hG:ja3 P G){h:J→Lk→Nat→(Value→Lk→Nat→Prop)→Prop}(hh:jcw P f h):ja3 P (G.addG f h):=by
 refine⟨fun j s' hj=> ?_,fun j h' hj=> ?_⟩
 ·unfold Env.addG at hj;split at hj
  ·cases hj
  ·exact hG.1 j s' hj
 ·unfold Env.addG at hj;split at hj
  ·rename_i hb;obtain rfl:=jah hb;cases hj;exact hh
  ·exact hG.2 j h' hj
def inl(P:Program)(G:Env)(L:Nat→Option jcb)(fn:Func):J→Lk→Nat→(Value→Lk→Nat→Prop)→Prop:=
 fun args m n K=>match Nat.ble args.length fn.ntmps with
  | true=>bodyR P G L fn args m n K
  | false=>False
def noL:Nat→Option jcb:=fun _=>none
def oneL(id:Nat)(h:jcb):Nat→Option jcb:=fun j=>match Nat.beq j id with | true=>some h | false=>none
theorem ja0{nt:Nat}:∀c:Code,LOK P noL nt c
 | .seq a b | .cond _ a b=>⟨ja0 a,ja0 b⟩
 | .block _ b=>ja0 b
 | .loop b | .scope b=>ja0 b
 | .skip | .label _ | .region _ _ _ | .exit _ | .ret | .goto _ | .rangeFunc _ _ _ _ | .refuse _=>trivial
theorem jal:LOKf P noL fn:=by
 unfold LOKf;split
 ·exact ja0 _
 ·trivial
end
theorem Ka{b:Bool}{P Q:Prop}(h1:b=true→P)(h2:b=false→Q):bif b then P else Q:=by
 have _:=tbs;cases b
 ·exact h2 rfl
 ·exact h1 rfl
end Go.Ab
