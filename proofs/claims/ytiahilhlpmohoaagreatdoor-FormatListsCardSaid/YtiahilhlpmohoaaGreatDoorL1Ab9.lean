/-
  Ab9: the run and laws.
-/
import Derived.Test.YtiahilhlpmohoaaGreatDoorL1Ab8
set_option linter.unusedVariables false
set_option linter.unusedSimpArgs false
set_option linter.unusedSectionVars false
noncomputable section
namespace Go.Ab
open Go Go.RowKit
variable [Tabs]
def argT(args:U):Tmps:=fun j=>args.getD j undef
def resR(P:Program)(nt:Nat)(t:Tmps)(m:Lk):List ResultVar→Option U
 | []=>some []
 | .tmp i::r=>match Nat.blt i nt,resR P nt t m r with
  | true,some vs=>some (t i::vs)
  | _,_=>none
 | .cell i ty::r=>match Nat.blt i nt,own? (t i)with
  | true,some (k,off,sp)=>match m k with
   | some b=>match jfj P ty b off sp with
    | some (true,.val v)=>match resR P nt t m r with
     | some vs=>some (v::vs)
     | none=>none
    | _=>none
   | none=>none
  | _,_=>none
def retV:U→Value
 | [v]=>v
 | vs=> .tuple ⟨vs⟩
def jg7(P:Program)(G:Env)(L:Nat→Option jbr)(f:Func)(args:U)(m:Lk)(n:Nat)(R:Value→Lk→Nat→Prop):Prop:=
 match f.body with
 | some c=>jf7 P G L f.ntmps c (argT args) m n fun e t m n=>match e with
  | .normal | .ret=>match resR P f.ntmps t m f.results.toList with
   | some vs=>R (retV vs) m n
   | none=>False
  | _=>False
 | none=>False
section
variable {P : Program} {G : Env} {nt n : Nat} {N : Nat} {w0 : World} {S : Nat → Prop} {t : Tmps} {m : Lk} {ι : Nm} {a : Act} {w : World}
def jik(tmps:Array Value):ResultVar→Go.Sem Value
 | .tmp t=>pure (tmps.getD t undef)
 | .cell a t=>do loadVar t (←asAddr (tmps.getD a undef))
theorem jdv(hrel:RelS N w0 S nt t m ι a w):∀(rs:List ResultVar)(vs:U),resR P nt t m rs=some vs→
  (∀v∈vs,∀j∈ids v,S j)∧(rs.mapM (jik a.tmps)).run P w= .ok (vs.map (ren ι)) w
 | [],vs,h=>by
  simp only[resR,Option.some.injEq]at h;subst h;exact⟨by simp,by simp⟩
 | .tmp i::r,vs,h=>by
  simp only[resR]at h;split at h
  ·rename_i vs' hlt hr;cases h;obtain⟨h1,h2⟩:=jdv hrel r vs' hr;have hi:i<nt:=by rw[Nat.blt_eq]at hlt;exact hlt
   refine⟨fun v hv j hj=> ?_,?_⟩
   ·rcases List.mem_cons.1 hv with rfl | hv
    ·exact hrel.wf.tmps i hi j hj
    ·exact h1 v hv j hj
   ·have he:a.tmps.getD i undef=ren ι (t i):=by simp[hrel.tmps,Array.getD_eq_getD_getElem?,Tm_get _ _ hi]
    simp only[List.mapM_cons,Sem.run_bind,jik,Sem.run_pure,Result.andThen_ok,h2,he];simp
  ·cases h
 | .cell i ty::r,vs,h=>by
  simp only[resR]at h;split at h
  ·rename_i k off sp hlt ho;split at h
   ·rename_i b hk;split at h
    ·rename_i v hv;split at h
     ·rename_i vs' hr;cases h;obtain⟨h1,h2⟩:=jdv hrel r vs' hr;have hi:i<nt:=by rw[Nat.blt_eq]at hlt;exact hlt
      have hs:=jcm ho;obtain⟨v',hvr,hids,hld⟩:=jcy (P:=P) (r:= .val v) hrel.mem hk hv;cases hvr;refine⟨fun u hu j hj=> ?_,?_⟩
      ·rcases List.mem_cons.1 hu with rfl | hu
       ·exact(hrel.wf.mem k b hk).2 j (hids j hj)
       ·exact h1 u hu j hj
      ·have he:a.tmps.getD i undef= .pointer (some ⟨(ι k).1,(ι k).2+off,none⟩):=by simp[hrel.tmps,Array.getD_eq_getD_getElem?,Tm_get _ _ hi,hs,ren_own]
       simp only[List.mapM_cons,Sem.run_bind,jik,asAddr,he,Sem.run_pure,Result.andThen_ok,hld,h2];simp
     ·cases h
    ·cases h
   ·cases h
  ·cases h
theorem ren_retV(vs:U):ren ι (retV vs)=(if h:(vs.map (ren ι)).toArray.size=1 then(vs.map (ren ι)).toArray[0]else .tuple (vs.map (ren ι)).toArray):=by
 have _:=tbs
 match vs with
 | []=>simp[retV,ren,renL]
 | [v]=>simp[retV]
 | u::v::r=>simp[retV,ren,jbo]
theorem ids_retV{vs:U}{j:Nat}(h:j∈ids (retV vs)):∃v∈vs,j∈ids v:=by
 have _:=tbs
 match vs with
 | []=>simp[retV,ids,idsL]at h
 | [v]=>exact⟨v,by simp,h⟩
 | u::v::r=>exact jaw.1 (by simpa[retV,ids]using h)
theorem results_sound(hrel:RelS N w0 S nt t m ι a w){fn:Func}{vs:U}(h:resR P nt t m fn.results.toList=some vs):(results fn a.tmps).run P w= .ok (ren ι (retV vs)) w:=by
 obtain⟨_,h2⟩:=jdv hrel _ _ h
 have e:fn.results.mapM (jik a.tmps)=List.toArray<$> fn.results.toList.mapM (jik a.tmps):=by
  have:=List.mapM_toArray (m:=Go.Sem) (f:=jik a.tmps) (l:=fn.results.toList);simpa using this
 have hd:results fn a.tmps=(do
   let vs←fn.results.mapM (jik a.tmps)
   pure (if h:vs.size=1 then vs[0]else .tuple vs)):=by
  unfold results;congr 1
 rw[hd,e,ren_retV];simp only[map_eq_pure_bind,Sem.run_bind,h2,Result.andThen_ok,Sem.run_pure]
theorem body_sound{G:Env}(hG:jao P G)(hm:P.follows .mixedOrders=true){L:Nat→Option jbr}{f:FuncId}{fn:Func}{c:Code}(hf:P.funcs[f]?=some fn)(hb:fn.body=some c)
  (hl:jbv c=true) (hL:LOK P L fn.ntmps c) {args:U} (hlen:args.length≤fn.ntmps) {R:Value→Lk→Nat→Prop} (h:jg7 P G L fn args m n R)
  (hmem:RelM N w0 m ι w) (hwf:∀k b,m k=some b→k<n∧ ∀j∈idsL b.c,j<n) (hargs:∀v∈args,∀j∈ids v,j<n):
  Calls P f (args.map (ren ι)).toArray w fun e w'=>∃v m' n' ι',e= .returned (ren ι' v)∧R v m' n'∧n≤n'∧(∀k,k<n→ι' k=ι k)∧RelM N w0 m' ι' w'∧
   (∀k b,m' k=some b→k<n'∧ ∀j∈idsL b.c,j<n')∧ ∀j∈ids v,j<n':=by
 refine calls_of_wp hf hb ?_;simp only[jg7,hb]at h
 have htm:(args.map (ren ι)).toArray++Array.replicate (fn.ntmps-(args.map (ren ι)).toArray.size) undef=Tm (argT args) ι fn.ntmps:=by
  apply Array.ext_getElem?;intro i;rw[Array.getElem?_append];by_cases hi:i<fn.ntmps
  ·rw[Tm_get _ _ hi];split
   ·rename_i h1;simp at h1;simp[argT,h1]
   ·rename_i h1;simp at h1;have:i-args.length<fn.ntmps-args.length:=by omega
    simp[argT,List.getElem?_eq_none h1,this];simp[undef,ren,renL]
  ·have h2:(Tm (argT args) ι fn.ntmps)[i]?=none:=by simp[Tm,Nat.le_of_not_lt hi]
   rw[h2];split
   ·rename_i h1;simp at h1;omega
   ·simp;omega
 refine jco hG hm c _ m n _ hl hL h N w0 ι _ w ⟨htm,rfl,hmem,⟨fun i hi j hj=> ?_,hwf⟩⟩ _ fun e t' m' n' ι' a' w' hk hn hι hr=> ?_
 ·simp only[argT,List.getD_eq_getElem?_getD]at hj;cases hv:args[i]? with
  | none=>rw[hv]at hj;simp[ids_undef]at hj
  | some v=>rw[hv]at hj;exact hargs v (List.mem_of_getElem? hv) j hj
 ·have fin:(match resR P fn.ntmps t' m' fn.results.toList with
    | some vs=>R (retV vs) m' n'
    | none=>False)→a'.defers=[]∧ ∃v,(results fn a'.tmps).run P w'= .ok v w'∧ ∃u m' n' ι',Ending.returned v= .returned (ren ι' u)∧R u m' n'∧n≤n'∧(∀k,k<n→ι' k=ι k)∧RelM N w0 m' ι' w'∧
     (∀k b,m' k=some b→k<n'∧ ∀j∈idsL b.c,j<n')∧ ∀j∈ids u,j<n':=fun hk=>by
   split at hk
   ·rename_i vs hvs;refine⟨hr.defers,_,results_sound hr hvs,retV vs,m',n',ι',rfl,hk,hn,hι,hr.mem,hr.wf.mem,fun j hj=> ?_⟩;obtain⟨v,hv,hjv⟩:=ids_retV hj;exact(jdv hr _ _ hvs).1 v hv j hjv
   ·exact hk.elim
  cases e with
  | normal=>exact fin hk
  | ret=>exact fin hk
  | _=>exact hk.elim
theorem relM_none(w:World)(ht:TabsIn w.heap.size w):RelM w.heap.size w (fun _=>none) ι w where
 below:=Below.refl _ _
 base:=⟨Nat.le_refl _,ht⟩
 blk:=fun _ _ h=>by cases h
 view:=fun _ _ h=>by cases h
 inj:=fun _ _ _ _ h=>by cases h
end
end Go.Ab
