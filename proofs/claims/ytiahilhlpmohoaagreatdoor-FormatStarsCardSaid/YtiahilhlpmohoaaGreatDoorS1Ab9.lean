/-
  Ab9: the run and laws.
-/
import Derived.Test.YtiahilhlpmohoaaGreatDoorS1Ab8
set_option linter.unusedVariables false
set_option linter.unusedSimpArgs false
set_option linter.unusedSectionVars false
noncomputable section
namespace Go.Ab
open Go Go.RowKit
variable [Tabs]
def argT(args:J):Tmps:=fun j=>args.getD j undef
def resR(P:Program)(nt:Nat)(t:Tmps)(m:Lk):List ResultVar→Option J
 | []=>some []
 | .tmp i::r=>match Nat.blt i nt,resR P nt t m r with
  | true,some vs=>some (t i::vs)
  | _,_=>none
 | .cell i ty::r=>match Nat.blt i nt,own? (t i)with
  | true,some (k,off,sp)=>match m k with
   | some b=>match jid P ty b off sp with
    | some (true,.val v)=>match resR P nt t m r with
     | some vs=>some (v::vs)
     | none=>none
    | _=>none
   | none=>none
  | _,_=>none
def retV:J→Value
 | [v]=>v
 | vs=> .tuple ⟨vs⟩
def bodyR(P:Program)(G:Env)(L:Nat→Option jcb)(f:Func)(args:J)(m:Lk)(n:Nat)(R:Value→Lk→Nat→Prop):Prop:=
 match f.body with
 | some c=>jku P G L f.ntmps c (argT args) m n fun e t m n=>match e with
  | .normal | .ret=>match resR P f.ntmps t m f.results.toList with
   | some vs=>R (retV vs) m n
   | none=>False
  | _=>False
 | none=>False
section
variable {P : Program} {G : Env} {nt n : Nat} {N : Nat} {w0 : World} {S : Nat → Prop} {t : Tmps} {m : Lk} {ι : Nm} {a : Act} {w : World}
def jk2(tmps:Array Value):ResultVar→Go.Sem Value
 | .tmp t=>pure (tmps.getD t undef)
 | .cell a t=>do loadVar t (←asAddr (tmps.getD a undef))
theorem jfs(hrel:RelS N w0 S nt t m ι a w):∀(rs:List ResultVar)(vs:J),resR P nt t m rs=some vs→
  (∀v∈vs,∀j∈ids v,S j)∧(rs.mapM (jk2 a.tmps)).run P w= .ok (vs.map (ren ι)) w
 | [],vs,h=>by
  simp only[resR,Kb]at h;subst h;exact⟨by simp,by simp⟩
 | .tmp i::r,vs,h=>by
  simp only[resR]at h;split at h
  ·rename_i vs' hlt hr;cases h;obtain⟨h1,h2⟩:=jfs hrel r vs' hr;have hi:i<nt:=by rw[Nat.blt_eq]at hlt;exact hlt
   refine⟨fun v hv j hj=> ?_,?_⟩
   ·rcases Kg.1 hv with rfl | hv
    ·exact hrel.wf.tmps i hi j hj
    ·exact h1 v hv j hj
   ·have he:a.tmps.getD i undef=ren ι (t i):=by simp[hrel.tmps,Array.getD_eq_getD_getElem?,Tm_get _ _ hi]
    simp only[List.mapM_cons,Sem.run_bind,jk2,Sem.run_pure,Result.andThen_ok,h2,he];simp
  ·cases h
 | .cell i ty::r,vs,h=>by
  simp only[resR]at h;split at h
  ·rename_i k off sp hlt ho;split at h
   ·rename_i b hk;split at h
    ·rename_i v hv;split at h
     ·rename_i vs' hr;cases h;obtain⟨h1,h2⟩:=jfs hrel r vs' hr;have hi:i<nt:=by rw[Nat.blt_eq]at hlt;exact hlt
      have hs:=jc2 ho;obtain⟨v',hvr,hids,hld⟩:=je4 (P:=P) (r:= .val v) hrel.mem hk hv;cases hvr;refine⟨fun u hu j hj=> ?_,?_⟩
      ·rcases Kg.1 hu with rfl | hu
       ·exact(hrel.wf.mem k b hk).2 j (hids j hj)
       ·exact h1 u hu j hj
      ·have he:a.tmps.getD i undef= .pointer (some ⟨(ι k).1,(ι k).2+off,none⟩):=by simp[hrel.tmps,Array.getD_eq_getD_getElem?,Tm_get _ _ hi,hs,ren_own]
       simp only[List.mapM_cons,Sem.run_bind,jk2,asAddr,he,Sem.run_pure,Result.andThen_ok,hld,h2];simp
     ·cases h
    ·cases h
   ·cases h
  ·cases h
theorem ren_retV(vs:J):ren ι (retV vs)=(if h:(vs.map (ren ι)).toArray.size=1 then(vs.map (ren ι)).toArray[0]else .tuple (vs.map (ren ι)).toArray):=by
 have _:=tbs
 match vs with
 | []=>simp[retV,ren,renL]
 | [v]=>simp[retV]
 | u::v::r=>simp[retV,ren,jb1]
theorem ids_retV{vs:J}{j:Nat}(h:j∈ids (retV vs)):∃v∈vs,j∈ids v:=by
 have _:=tbs
 match vs with
 | []=>simp[retV,ids,idsL]at h
 | [v]=>exact⟨v,by simp,h⟩
 | u::v::r=>exact jay.1 (by simpa[retV,ids]using h)
theorem results_sound(hrel:RelS N w0 S nt t m ι a w){fn:Func}{vs:J}(h:resR P nt t m fn.results.toList=some vs):(results fn a.tmps).run P w= .ok (ren ι (retV vs)) w:=by
 obtain⟨_,h2⟩:=jfs hrel _ _ h
 have e:fn.results.mapM (jk2 a.tmps)=List.toArray<$> fn.results.toList.mapM (jk2 a.tmps):=by
  have:=List.mapM_toArray (m:=Go.Sem) (f:=jk2 a.tmps) (l:=fn.results.toList);simpa using this
 have hd:results fn a.tmps=(do
   let vs←fn.results.mapM (jk2 a.tmps)
   pure (if h:vs.size=1 then vs[0]else .tuple vs)):=by
  unfold results;congr 1
 rw[hd,e,ren_retV];simp only[map_eq_pure_bind,Sem.run_bind,h2,Result.andThen_ok,Sem.run_pure]
theorem relM_none(w:World)(ht:TabsIn w.heap.size w):RelM w.heap.size w (fun _=>none) ι w where
 below:=Below.refl _ _
 base:=⟨Kv _,ht⟩
 blk:=fun _ _ h=>by cases h
 view:=fun _ _ h=>by cases h
 inj:=fun _ _ _ _ h=>by cases h
end
end Go.Ab
