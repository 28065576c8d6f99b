/-
  Ab17: the run and laws.
-/
import Derived.Test.YtiahilhlpmohoaaGreatDoorS1Ab16
set_option linter.unusedVariables false
set_option linter.unusedSimpArgs false
set_option linter.unusedSectionVars false
noncomputable section
namespace Go.Ab
open Go Go.RowKit
variable [Tabs]
@[irreducible] def jel (P:Program) (G:Env) (L:Nat→Option jcb) (fn:Func) (args:J) (m0:Lk) (n0:Nat) (R:Value→Lk→Nat→Prop):Prop:=jax P G L fn args m0 n0 R
structure SubM (m:Lk)(ρ:Nat→Nat)(m0:Lk)(n0:Nat):Prop where
 lt:∀k b,m0 k=some b→k<n0∧ ∀j∈idsL b.c,j<n0
 at_:∀k b,m0 k=some b→b.own=false∧ ∃b',noIt (m (ρ k))=some b'∧ ∀ι:Nm,b.c.map (ren fun j=>ι (ρ j))=b'.c.map (ren ι)
section
variable {P : Program} {G : Env} {L : Nat → Option jcb} {f : FuncId} {fn : Func} {m m0 m' mm : Lk} {ρ σ : Nat → Nat} {n n0 nn : Nat} {N : Nat} {w0 w : World} {ι : Nm}
theorem SubM.rel(h:SubM m ρ m0 n0)(hrel:RelM N w0 m ι w):RelM w.heap.size w m0 (fun j=>ι (ρ j)) w where
 below:=Below.refl _ _
 base:=⟨Kv _,hrel.tabs⟩
 blk:=fun k b hk ho=>by rw[(h.at_ k b hk).1]at ho;cases ho
 view:=fun k b hk _=>by
  obtain⟨_,b',hb',hc⟩:=h.at_ k b hk;obtain⟨hl,hit⟩:=jib hb'
  have key:∀(i:Nat)(v:Value),b.c[i]?=some v→ ∃v',b'.c[i]?=some v'∧ren ι v'=ren (fun j=>ι (ρ j)) v:=fun i v hv=>by
   have:=congrArg (fun l:J=>l[i]?) (hc ι);simp only[List.getElem?_map,hv,Option.map_some]at this;cases hb:b'.c[i]? with
   | none=>rw[hb]at this;cases this
   | some v'=>rw[hb]at this;exact⟨v',rfl,by simpa using this.symm⟩
  cases ho:b'.own with
  | true=>
   obtain⟨q1,q2,q3⟩:=hrel.blk _ _ hl ho;rw[objOf_any (by simpa[ho]using hit)]at q3;refine⟨hrel.lt hl ho,fun i v hv=> ?_⟩;obtain⟨v',h1,h2⟩:=key i v hv;rw[World.cell?,q3,q1];simp[h1,h2]
  | false=>
   obtain⟨q1,q2⟩:=hrel.view _ _ hl ho;refine⟨q1,fun i v hv=> ?_⟩;obtain⟨v',h1,h2⟩:=key i v hv;rw[q2 i v' h1,h2]
 inj:=fun k k' b b' hk _ ho _=>by rw[(h.at_ k b hk).1]at ho;cases ho
theorem jii{h:J→Lk→Nat→(Value→Lk→Nat→Prop)→Prop}(hG:ja3 P G)(hm:P.follows .mixedOrders=true)(hf:Fn1 P f fn)(hL:LOKf P L fn)
  (H : ∀ args m n K, h args m n K → ∃ args' m0 n0 ρ v, SubM m ρ m0 n0 ∧ (∀ ι : Nm, args'.map (ren fun j => ι (ρ j)) = args.map (ren ι)) ∧ args'.length ≤ fn.ntmps ∧ (∀ v ∈ args', ∀ j ∈ ids v, j<n0) ∧
   plain v=true∧jel P G L fn args' m0 n0 (fun v' _ _=>v'=v)∧K v m n):jcw P f h:=by
 obtain⟨h1,h2,h3,h4⟩:=hf;cases hb:fn.body with
 | none=>rw[hb]at h2;cases h2
 | some c=>
  simp only[hb]at h4;simp only[LOKf,hb]at hL;refine⟨⟨fn,h1,h3,by rw[hb];rfl⟩,fun args m n K hh N w0 ι w hrel hwf hargs=> ?_⟩;obtain⟨args',m0,n0,ρ,v,hs,ha,hlen,hids,hp,hd,hk⟩:=H _ _ _ _ hh;rw[jel]at hd;rw[←ha ι];refine(jee (N:=w.heap.size) (w0:=w) (ι:=fun j=>ι (ρ j)) hG hm h1 hb h4 hL hlen hd (hs.rel hrel) hs.lt hids).mono fun e w' ⟨v',m',n',ι',he,hv',_,_,hm',_,_⟩=> ?_
  subst hv';exact⟨v',m,n,ι,by rw[he,ja9 _ hp,ja9 _ hp],hk,Kv _,fun _ _=>rfl,hrel.grow hm'.below,hwf,by rw[jbm hp];simp⟩
structure NewM (m:Lk)(n:Nat)(m' mm:Lk)(nn:Nat)(σ:Nat→Nat):Prop where
 le:n≤nn
 old:∀j,j<n→mm j=m j
 new:∀j b,n≤j→mm j=some b→j<nn∧(∀i∈idsL b.c,n≤i∧i<nn)∧b.own=true∧Nat.ble itTy b.ty=false∧ ∃b',m' (σ j)=some b'∧b'.own=true∧b'.ty=b.ty∧
  ∀ι' ι'':Nm,(∀i,n≤i→ι'' i=ι' (σ i))→b.c.map (ren ι'')=b'.c.map (ren ι')
 inj:∀j j' b b',n≤j→n≤j'→mm j=some b→mm j'=some b'→j≠j'→σ j≠σ j'
def nmJ(n:Nat)(ι ι':Nm)(σ:Nat→Nat):Nm:=fun j=>if j<n then ι j else ι' (σ j)
theorem nmJ_old{ι ι':Nm}{k:Nat}(hk:k<n):nmJ n ι ι' σ k=ι k:=have _:=tbs;Kd hk
theorem nmJ_new{ι ι':Nm}{k:Nat}(hk:n≤k):nmJ n ι ι' σ k=ι' (σ k):=have _:=tbs;Kc (by omega)
theorem NewM.rel(h:NewM m n m' mm nn σ){w':World}{ι':Nm}(hrel:RelM N w0 m ι w)(hwf:∀k b,m k=some b→k<n∧ ∀j∈idsL b.c,j<n)(hm':RelM w.heap.size w m' ι' w'):
  RelM N w0 mm (nmJ n ι ι' σ) w'∧ ∀k b,mm k=some b→k<nn∧ ∀j∈idsL b.c,j<nn:=by
 have g:=hrel.grow hm'.below;have hold:∀{k},k<n→nmJ n ι ι' σ k=ι k:=fun hk=>nmJ_old hk
 have hnew:∀{k},n≤k→nmJ n ι ι' σ k=ι' (σ k):=fun hk=>nmJ_new hk
 have hren:∀{k b},m k=some b→jcu (nmJ n ι ι' σ) b=jcu ι b:=fun{k b} hk=>jd7 fun j hj=>hold ((hwf k b hk).2 j hj)
 refine⟨⟨g.below,g.base,fun k b hk ho=> ?_,fun k b hk ho=> ?_,fun k k' b b' hk hk' ho hne=> ?_⟩,fun k b hk=> ?_⟩
 ·rcases Nat.lt_or_ge k n with hlt | hge
  ·rw[h.old k hlt]at hk;rw[hold hlt,hren hk];exact g.blk k b hk ho
  ·obtain⟨_,_,_,hit,b',hb',ho',hty,hc⟩:=h.new k b hge hk;obtain⟨q1,q2,q3⟩:=hm'.blk _ _ hb' ho';rw[hnew hge];refine⟨q1,KG hrel.size q2,?_⟩;rw[q3,objOf_cells hit,objOf_cells (by rw[hty];exact hit),hty,hc ι' _ fun i hi=>hnew hi]
 ·rcases Nat.lt_or_ge k n with hlt | hge
  ·rw[h.old k hlt]at hk;rw[hold hlt];obtain⟨q1,q2⟩:=g.view k b hk ho;refine⟨q1,fun i v hv=> ?_⟩;rw[q2 i v hv];congr 1;exact jc0 fun j hj=>(hold ((hwf k b hk).2 j (jay.2 ⟨v,List.mem_of_getElem? hv,hj⟩))).symm
  ·obtain⟨_,_,ho',_⟩:=h.new k b hge hk;rw[ho]at ho';cases ho'
 ·rcases Nat.lt_or_ge k n with hlt | hge
  ·rw[h.old k hlt]at hk;rcases Nat.lt_or_ge k' n with hlt' | hge'
   ·rw[h.old k' hlt']at hk';rw[hold hlt,hold hlt'];exact g.inj k k' b b' hk hk' ho hne
   ·obtain⟨_,_,_,_,b2,hb2,ho2,_⟩:=h.new k' b' hge' hk';have q:=(hm'.blk _ _ hb2 ho2).2.1;have:=hrel.any_lt hk;rw[hold hlt,hnew hge'];omega
  ·obtain⟨_,_,_,_,b1,hb1,ho1,_⟩:=h.new k b hge hk;have q:=(hm'.blk _ _ hb1 ho1).2.1;rcases Nat.lt_or_ge k' n with hlt' | hge'
   ·rw[h.old k' hlt']at hk';have:=hrel.any_lt hk';rw[hnew hge,hold hlt'];omega
   ·obtain⟨_,_,_,_,b2,hb2,ho2,_⟩:=h.new k' b' hge' hk';rw[hnew hge,hnew hge'];exact hm'.inj _ _ _ _ hb1 hb2 ho1 (h.inj k k' b b' hge hge' hk hk' hne)
 ·rcases Nat.lt_or_ge k n with hlt | hge
  ·rw[h.old k hlt]at hk;have hle:=h.le;exact⟨by omega,fun j hj=>by have:=(hwf k b hk).2 j hj;omega⟩
  ·obtain⟨q1,q2,_⟩:=h.new k b hge hk;exact⟨q1,fun j hj=>(q2 j hj).2⟩
end
end Go.Ab
