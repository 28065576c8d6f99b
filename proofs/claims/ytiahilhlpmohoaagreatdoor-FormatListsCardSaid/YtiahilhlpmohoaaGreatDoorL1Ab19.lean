/-
  Ab19: the run and laws.
-/
import Derived.Test.YtiahilhlpmohoaaGreatDoorL1Ab16
import Derived.Test.YtiahilhlpmohoaaGreatDoorL1Ab18
set_option linter.unusedVariables false
set_option linter.unusedSimpArgs false
set_option linter.unusedSectionVars false
noncomputable section
namespace Go.Ab
open Go Go.RowKit
variable [Tabs]
@[irreducible] def jkd (P:Program) (G:Env) (L:Nat→Option jbr) (fn:Func) (args:U) (m:Lk) (n:Nat) (v:Value):Prop:=
 ja4 P G L fn args m n fun v' _ _=>v'=v
theorem vw_get{c:U}{ty k:Nat}{b:Blk}(h:vw c ty k=some b):k=0∧b=⟨c,ty,false⟩:=by
 have _:=tbs;simp only[vw]at h;split at h
 ·rename_i hk;cases h;exact⟨jah hk,rfl⟩
 ·cases h
theorem calls_top{P:Program}{G:Env}{L:Nat→Option jbr}{f:FuncId}{fn:Func}(hG:jao P G)(hm:P.follows .mixedOrders=true)(hf:Fn1 P f fn)(hL:LOKf P L fn)
  {args:U} {lk:Lk} {v:Value} (hlen:args.length≤fn.ntmps) (h:jkd P G L fn args lk 2 v) (hv:plain v=true) {w:World} {ι:Nm} (ht:TabsIn w.heap.size w)
  (hlk:∀k b,lk k=some b→k<2∧b.own=false∧jav b.c=true∧(ι k).1<w.heap.size∧ ∀i v,b.c[i]?=some v→w.cell? ⟨(ι k).1,(ι k).2+i,none⟩=some v)
  (hargs:∀v∈args,∀j∈ids v,j<2):
  Calls P f (args.map (ren ι)).toArray w fun e w'=>e= .returned v∧Below w.heap.size w w':=by
 obtain⟨h1,h2,h3,h4⟩:=hf;cases hb:fn.body with
 | none=>rw[hb]at h2;cases h2
 | some c=>
  simp only[hb]at h4;simp only[LOKf,hb]at hL;rw[jkd]at h;refine(jc1 (N:=w.heap.size) (w0:=w) (ι:=ι) (w:=w) hG hm h1 hb h4 hL hlen h ⟨Below.refl _ _,⟨Nat.le_refl _,ht⟩,?_,?_,?_⟩ ?_ hargs).mono fun e w' ⟨v',m',n',ι',he,hv',_,_,hm',_,_⟩=> ?_
  ·intro k b hk ho;rw[(hlk k b hk).2.1]at ho;cases ho
  ·intro k b hk _;obtain⟨_,_,hp,h5,h6⟩:=hlk k b hk;refine⟨h5,fun i v hv=> ?_⟩;rw[h6 i v hv,ja2 _ (jay.1 hp v (List.mem_of_getElem? hv))]
  ·intro k k' b b' hk _ ho _ _;rw[(hlk k b hk).2.1]at ho;cases ho
  ·intro k b hk;refine⟨(hlk k b hk).1,fun j hj=> ?_⟩;rw[jar (hlk k b hk).2.2.1]at hj;cases hj
  ·subst hv';exact⟨by rw[he,ja2 _ hv],hm'.below⟩
end Go.Ab
