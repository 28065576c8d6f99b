/-
  Ab12: the run and laws.
-/
import Derived.Test.YtiahilhlpmohoaaGreatDoorL1Ab11
set_option linter.unusedVariables false
set_option linter.unusedSimpArgs false
set_option linter.unusedSectionVars false
noncomputable section
namespace Go.Ab
open Go Go.RowKit
variable [Tabs]
def jjd(i:Nat):Value→Option Value
 | .pointer (some a)=>match a.spot with
  | some s=>some (.pointer (some ⟨i,a.off,some s⟩))
  | none=>some (.pointer (some a))
 | .slice (some a) l c=>match a.spot with
  | some s=>some (.slice (some ⟨i,a.off,some s⟩) l c)
  | none=>some (.slice (some a) l c)
 | v=>match plain v with
  | true=>some v
  | false=>none
def jgz:Nat→U→Option U
 | _,[]=>some []
 | i,v::r=>match jjd i v,jgz (i+1) r with
  | some v',some r'=>some (v'::r')
  | _,_=>none
def jje:Option Blk→Option Blk
 | some b=>match jav b.c with
  | true=>some {b with own:=false}
  | false=>none
 | none=>none
def jcu:F→Lk
 | [],_=>none
 | b::_,0=>jje b
 | _::r,i+1=>jcu r i
theorem viewL_get:∀(bs:F)(i:Nat){b:Blk},jcu bs i=some b→ ∃b',bs[i]?=some (some b')∧jav b'.c=true∧b={b' with own:=have _:=tbs;false}
 | [],_,_,h=>by cases h
 | b::_,0,_,h=>by
  simp only[jcu,jje]at h;split at h
  ·split at h
   ·rename_i hp;cases h;exact⟨_,rfl,hp,rfl⟩
   ·cases h
  ·cases h
 | _::r,i+1,_,h=>by
  obtain⟨b',h1,h2,h3⟩:=viewL_get r i h;exact⟨b',by simpa using h1,h2,h3⟩
section
variable {P : Program}
def nmOf(ι:Nm)(args:U):Nm:=fun i=>match args[i]? with
 | some (.pointer (some a))=>ι a.block
 | some (.slice (some a) _ _)=>ι a.block
 | _=>(0,0)
theorem canon1_ren{ι ι0:Nm}{i:Nat}{v v':Value}(h:jjd i v=some v')(hi:∀a,v= .pointer (some a)→ι0 i=ι a.block)(hi':∀a l c,v= .slice (some a) l c→ι0 i=ι a.block):
  ren ι0 v'=ren ι v:=by
 have _:=tbs;unfold jjd at h;split at h
 ·rename_i a;have hi:=hi a rfl;split at h
  ·rename_i hs;cases h;simp[ren,ren1,hs,hi]
  ·rename_i hs;cases h;simp[ren,ren1,hs]
 ·rename_i a _ _;have hi:=hi' a _ _ rfl;split at h
  ·rename_i hs;cases h;simp[ren,ren1,hs,hi]
  ·rename_i hs;cases h;simp[ren,ren1,hs]
 ·split at h
  ·rename_i hp;cases h;rw[ja2 _ hp,ja2 _ hp]
  ·cases h
theorem jfz{ι:Nm}{all:U}:∀(args:U)(i:Nat){args':U},(∀j,args[j]?=all[i+j]?)→jgz i args=some args'→args'.map (ren (nmOf ι all))=args.map (ren ι)
 | [],_,_,_,h=>by cases h;rfl
 | v::r,i,_,hall,h=>by
  simp only[jgz]at h;split at h
  ·rename_i v' r' hv hr;cases h;simp only[List.map_cons];rw[jfz r (i+1) (fun j=>by have:=hall (j+1);simpa[Nat.add_assoc,Nat.add_comm 1 j]using this) hr];have h0:=hall 0;simp only[List.getElem?_cons_zero,Nat.add_zero]at h0;rw[canon1_ren (ι:=ι) hv (fun a e=>by subst e;simp[nmOf,←h0]) (fun a _ _ e=>by subst e;simp[nmOf,←h0])]
  ·cases h
theorem canonL_ids:∀(args:U)(i:Nat){args':U},jgz i args=some args'→ ∀v∈args',∀j∈ids v,j<i+args.length
 | [],_,_,h,v,hv=>by have _:=tbs;cases h;cases hv
 | v::r,i,_,h,x,hx=>by
  simp only[jgz]at h;split at h
  ·rename_i v' r' hv hr;cases h;intro j hj;rcases List.mem_cons.1 hx with rfl | hx
   ·unfold jjd at hv;split at hv
    ·split at hv
     ·cases hv;simp only[ids,List.mem_singleton]at hj;simp[hj]
     ·rename_i hs;cases hv;simp[ids,hs]at hj
    ·split at hv
     ·cases hv;simp only[ids,List.mem_singleton]at hj;simp[hj]
     ·rename_i hs;cases hv;simp[ids,hs]at hj
    ·split at hv
     ·rename_i hp;cases hv;rw[jba hp]at hj;cases hj
     ·cases hv
   ·have:=canonL_ids r (i+1) hr x hx j hj;simp only[List.length_cons];omega
  ·cases h
@[irreducible] def jfp (P:Program) (G:Env) (L:Nat→Option jbr) (fn:Func) (args:U) (bs:F) (n:Nat) (v:Value):Prop:=
 jg7 P G L fn args (jcu bs) n fun v' _ _=>v'=v
theorem jgn{G:Env}{L:Nat→Option jbr}{f:FuncId}{fn:Func}(hG:jao P G)(hm:P.follows .mixedOrders=true)(hf:Fn1 P f fn)(hL:LOKf P L fn){s:Spec}
  (h:∀args bs v,s args bs=some (true,v)→ ∃args' n,jgz 0 args=some args'∧args.length=n∧args'.length≤fn.ntmps∧jfp P G L fn args' bs n v):jal P f s:=by
 obtain⟨h1,h2,h3,h4⟩:=hf;cases hb:fn.body with
 | none=>rw[hb]at h2;cases h2
 | some c=>
  simp only[hb]at h4;simp only[LOKf,hb]at hL;refine⟨⟨fn,h1,h3,by rw[hb];rfl⟩,fun args v N w0 lk ι w hrel hs hp=> ?_⟩;obtain⟨args',n,ha,rfl,hle,hbody⟩:=h _ _ _ hs;rw[jfp]at hbody;have hren:=jfz (ι:=ι) (all:=args) args 0 (fun j=>by simp) ha;rw[←hren];refine(body_sound (N:=w.heap.size) (w0:=w) (ι:=nmOf ι args) (w:=w) hG hm h1 hb h4 hL hle hbody ⟨Below.refl _ _,⟨Nat.le_refl _,hrel.tabs⟩,?_,?_,?_⟩ ?_ ?_).mono fun e w' ⟨v',m',n',ι',he,hv',_,_,hm',_,_⟩=> ?_
  ·intro k b hk ho;obtain⟨b',_,_,rfl⟩:=viewL_get _ _ hk;cases ho
  ·intro k b hk _;obtain⟨b',hb',hp',rfl⟩:=viewL_get _ _ hk;rw[List.getElem?_map]at hb';cases hak:args[k]? with
   | none=>rw[hak]at hb';cases hb'
   | some x=>
    rw[hak]at hb';simp only[Option.map_some,Option.some.injEq]at hb'
    have key:∀a:Addr,nmOf ι args k=ι a.block→noIt (lk a.block)=some b'→(nmOf ι args k).1<w.heap.size∧ ∀i v,b'.c[i]?=some v→w.cell? ⟨(nmOf ι args k).1,(nmOf ι args k).2+i,none⟩=some (ren (nmOf ι args) v):=by
     intro a hn hl;obtain⟨hl,hit⟩:=jfh hl;rw[hn]
     have hpl:∀i v,b'.c[i]?=some v→ren (nmOf ι args) v=v∧ren ι v=v:=fun i v hv=>by
      have:=jay.1 hp' v (List.mem_of_getElem? hv);exact⟨ja2 _ this,ja2 _ this⟩
     cases ho:b'.own with
     | true=>
      obtain⟨q1,q2,q3⟩:=hrel.blk _ _ hl ho;rw[objOf_any (by simpa[ho]using hit)]at q3;refine⟨hrel.lt hl ho,fun i v hv=> ?_⟩;rw[World.cell?,q3,q1];simp[hv,(hpl i v hv).1,(hpl i v hv).2]
     | false=>
      obtain⟨q1,q2⟩:=hrel.view _ _ hl ho;refine⟨q1,fun i v hv=> ?_⟩;rw[q2 i v hv,(hpl i v hv).1,(hpl i v hv).2]
    unfold blkOf at hb';split at hb'
    ·rename_i a;split at hb'
     ·exact key a (by simp[nmOf,hak]) hb'
     ·cases hb'
    ·rename_i a _ _;split at hb'
     ·exact key a (by simp[nmOf,hak]) hb'
     ·cases hb'
    ·cases hb'
  ·intro k k' b b' hk _ ho _ _;obtain⟨b',_,_,rfl⟩:=viewL_get _ _ hk;cases ho
  ·intro k b hk;obtain⟨b',hb',hp',rfl⟩:=viewL_get _ _ hk;refine⟨?_,fun j hj=> ?_⟩
   ·rcases Nat.lt_or_ge k args.length with hlt | hge
    ·exact hlt
    ·rw[List.getElem?_eq_none (by simpa using hge)]at hb';cases hb'
   ·rw[jar hp']at hj;cases hj
  ·have:=canonL_ids args 0 ha;simpa using this
  ·subst hv';exact⟨by rw[he,ja2 _ hp],hm'.below⟩
end
end Go.Ab
