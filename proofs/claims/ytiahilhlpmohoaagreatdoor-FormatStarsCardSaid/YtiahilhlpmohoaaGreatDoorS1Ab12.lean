/-
  Ab12: the run and laws.
-/
import Derived.Test.YtiahilhlpmohoaaGreatDoorS1Ab11
set_option linter.unusedVariables false
set_option linter.unusedSimpArgs false
set_option linter.unusedSectionVars false
noncomputable section
namespace Go.Ab
open Go Go.RowKit
variable [Tabs]
def jme(i:Nat):Value→Option Value
 | .pointer (some a)=>match a.spot with
  | some s=>some (.pointer (some ⟨i,a.off,some s⟩))
  | none=>some (.pointer (some a))
 | .slice (some a) l c=>match a.spot with
  | some s=>some (.slice (some ⟨i,a.off,some s⟩) l c)
  | none=>some (.slice (some a) l c)
 | v=>match plain v with
  | true=>some v
  | false=>none
def jjc:Nat→J→Option J
 | _,[]=>some []
 | i,v::r=>match jme i v,jjc (i+1) r with
  | some v',some r'=>some (v'::r')
  | _,_=>none
def jnk:Option Blk→Option Blk
 | some b=>match ja1 b.c with
  | true=>some {b with own:=false}
  | false=>none
 | none=>none
def jem:Ya→Lk
 | [],_=>none
 | b::_,0=>jnk b
 | _::r,i+1=>jem r i
theorem viewL_get:∀(bs:Ya)(i:Nat){b:Blk},jem bs i=some b→ ∃b',bs[i]?=some (some b')∧ja1 b'.c=true∧b={b' with own:=have _:=tbs;false}
 | [],_,_,h=>by cases h
 | b::_,0,_,h=>by
  simp only[jem,jnk]at h;split at h
  ·split at h
   ·rename_i hp;cases h;exact⟨_,rfl,hp,rfl⟩
   ·cases h
  ·cases h
 | _::r,i+1,_,h=>by
  obtain⟨b',h1,h2,h3⟩:=viewL_get r i h;exact⟨b',by simpa using h1,h2,h3⟩
section
variable {P : Program}
def nmOf(ι:Nm)(args:J):Nm:=fun i=>match args[i]? with
 | some (.pointer (some a))=>ι a.block
 | some (.slice (some a) _ _)=>ι a.block
 | _=>(0,0)
theorem canon1_ren{ι ι0:Nm}{i:Nat}{v v':Value}(h:jme i v=some v')(hi:∀a,v= .pointer (some a)→ι0 i=ι a.block)(hi':∀a l c,v= .slice (some a) l c→ι0 i=ι a.block):
  ren ι0 v'=ren ι v:=by
 have _:=tbs;unfold jme at h;split at h
 ·rename_i a;have hi:=hi a rfl;split at h
  ·rename_i hs;cases h;simp[ren,ren1,hs,hi]
  ·rename_i hs;cases h;simp[ren,ren1,hs]
 ·rename_i a _ _;have hi:=hi' a _ _ rfl;split at h
  ·rename_i hs;cases h;simp[ren,ren1,hs,hi]
  ·rename_i hs;cases h;simp[ren,ren1,hs]
 ·split at h
  ·rename_i hp;cases h;rw[ja9 _ hp,ja9 _ hp]
  ·cases h
theorem canonL_ren{ι:Nm}{all:J}:∀(args:J)(i:Nat){args':J},(∀j,args[j]?=all[i+j]?)→jjc i args=some args'→args'.map (ren (nmOf ι all))=args.map (ren ι)
 | [],_,_,_,h=>by cases h;rfl
 | v::r,i,_,hall,h=>by
  simp only[jjc]at h;split at h
  ·rename_i v' r' hv hr;cases h;simp only[List.map_cons];rw[canonL_ren r (i+1) (fun j=>by have:=hall (j+1);simpa[Nat.add_assoc,Nat.add_comm 1 j]using this) hr];have h0:=hall 0;simp only[List.getElem?_cons_zero,Nat.add_zero]at h0;rw[canon1_ren (ι:=ι) hv (fun a e=>by subst e;simp[nmOf,←h0]) (fun a _ _ e=>by subst e;simp[nmOf,←h0])]
  ·cases h
theorem canonL_ids:∀(args:J)(i:Nat){args':J},jjc i args=some args'→ ∀v∈args',∀j∈ids v,j<i+args.length
 | [],_,_,h,v,hv=>by have _:=tbs;cases h;cases hv
 | v::r,i,_,h,x,hx=>by
  simp only[jjc]at h;split at h
  ·rename_i v' r' hv hr;cases h;intro j hj;rcases Kg.1 hx with rfl | hx
   ·unfold jme at hv;split at hv
    ·split at hv
     ·cases hv;simp only[ids,List.mem_singleton]at hj;simp[hj]
     ·rename_i hs;cases hv;simp[ids,hs]at hj
    ·split at hv
     ·cases hv;simp only[ids,List.mem_singleton]at hj;simp[hj]
     ·rename_i hs;cases hv;simp[ids,hs]at hj
    ·split at hv
     ·rename_i hp;cases hv;rw[jbm hp]at hj;cases hj
     ·cases hv
   ·have:=canonL_ids r (i+1) hr x hx j hj;simp only[List.length_cons];omega
  ·cases h
end
end Go.Ab
