/-
  Ab6: the run and laws.
-/
import Derived.Test.YtiahilhlpmohoaaGreatDoorS1Ab5
set_option linter.unusedVariables false
set_option linter.unusedSimpArgs false
set_option linter.unusedSectionVars false
noncomputable section
namespace Go.Ab
open Go Go.RowKit
variable [Tabs]
abbrev Tmps:=Nat→Value
def tput(t:Tmps)(d:Option Tmp)(v:Value):Tmps:=
 match d with
 | some d=>fun j=>match Nat.beq j d with | true=>v | false=>t j
 | none=>t
def ev(t:Tmps):Operand→Value
 | .tmp i=>t i
 | .const v=>v
 | .global g=> .pointer (some ⟨g,0,none⟩)
 | .func f=> .func (.func f) #[] #[]
def opOk(nt:Nat):Operand→Bool
 | .const v=>plain v
 | .tmp i=>Nat.blt i nt
 | _=>true
def jb7(nt:Nat)(o:Oper):Bool:=o.op.operands.toList.all (opOk nt)
def jbq(ops:Array Oper)(nt:Nat)(t:Tmps)(o:Oper):Bool:=
 match o.guard with
 | none=>true
 | some (j,want)=>match (ops[j]?).bind (·.dst)with
  | some d=>match Nat.blt d nt with
   | true=>match t d with
    | .bool b=>b==want
    | _=>false
   | false=>false
  | none=>false
def Tm(t:Tmps)(ι:Nm)(nt:Nat):Array Value:=⟨(List.range nt).map fun i=>ren ι (t i)⟩
theorem Tm_get(t:Tmps)(ι:Nm){nt i:Nat}(h:i<nt):(Tm t ι nt)[i]?=some (ren ι (t i)):=by
 have _:=tbs;simp[Tm,h]
theorem Tm_size(t:Tmps)(ι:Nm)(nt:Nat):(Tm t ι nt).size=nt:=by have _:=tbs;simp[Tm]
theorem tput_get(t:Tmps)(d:Tmp)(v:Value)(j:Nat):tput t (some d) v j=if j=d then v else t j:=by
 have _:=tbs;cases hb:Nat.beq j d
 ·have:j≠d:=fun e=>by subst e;simp at hb
  simp[tput,hb,this]
 ·have:=jah hb;simp[tput,this]
theorem jjd(t:Tmps)(ι:Nm)(nt:Nat)(d:Option Tmp)(v:Value):(match d with | some d=>(Tm t ι nt).setIfInBounds d (ren ι v) | none=>Tm t ι nt)=Tm (tput t d v) ι nt:=by
 cases d with
 | none=>rfl
 | some d=>
  apply Array.ext_getElem?;intro i;simp only[Array.getElem?_setIfInBounds,Tm_size];by_cases hi:i<nt
  ·rw[Tm_get _ _ hi,Tm_get _ _ hi,tput_get];by_cases e:d=i
   ·subst e;simp[hi]
   ·simp[e,Ne.symm e]
  ·have h1:(Tm (tput t (some d) v) ι nt)[i]?=none:=by simp[Tm];omega
   have h2:(Tm t ι nt)[i]?=none:=by simp[Tm];omega
   rw[h1,h2];by_cases e:d=i
   ·subst e;simp[hi]
   ·simp[e]
theorem Tm_congr{t:Tmps}{ι ι':Nm}{nt:Nat}(h:∀i,i<nt→ ∀k∈ids (t i),ι k=ι' k):Tm t ι nt=Tm t ι' nt:=by
 have _:=tbs;unfold Tm;congr 1;exact Ku fun i hi=>jc0 (h i (List.mem_range.1 hi))
theorem put_tmps(a:Act)(d:Option Tmp)(v:Value):(a.put d v).tmps=(match d with | some d=>a.tmps.setIfInBounds d v | none=>a.tmps):=by
 have _:=tbs;cases d<;>rfl
theorem put_defers(a:Act)(d:Option Tmp)(v:Value):(a.put d v).defers=a.defers:=by
 have _:=tbs;cases d<;>rfl
structure WF (S:Nat→Prop)(nt:Nat)(t:Tmps)(m:Lk):Prop where
 tmps:∀i,i<nt→ ∀j∈ids (t i),S j
 mem:∀k b,m k=some b→S k∧ ∀j∈idsL b.c,S j
theorem WF.mono{S S':Nat→Prop}{nt:Nat}{t:Tmps}{m:Lk}(h:WF S nt t m)(hs:∀k,S k→S' k):WF S' nt t m:=have _:=tbs;
 ⟨fun i hi j hj=>hs _ (h.tmps i hi j hj),fun k b hk=>⟨hs _ (h.mem k b hk).1,fun j hj=>hs _ ((h.mem k b hk).2 j hj)⟩⟩
structure RelS (N:Nat)(w0:World)(S:Nat→Prop)(nt:Nat)(t:Tmps)(m:Lk)(ι:Nm)(a:Act)(w:World):Prop where
 tmps:a.tmps=Tm t ι nt
 defers:a.defers=[]
 mem:RelM N w0 m ι w
 wf:WF S nt t m
section
variable {P : Program} {G : Env} {ops : Array Oper} {nt n0 : Nat} {N : Nat} {w0 : World} {S : Nat → Prop} {t : Tmps} {m : Lk} {ι : Nm} {a : Act} {w : World} {o : Oper}
theorem RelS.eval(h:RelS N w0 S nt t m ι a w){x:Operand}(hx:opOk nt x=true):a.eval x=ren ι (ev t x):=by
 cases x with
 | tmp i=>
  have hi:i<nt:=by simpa[opOk,Nat.blt_eq]using hx
  simp[Act.eval,ev,h.tmps,Array.getD_eq_getD_getElem?,Tm_get _ _ hi]
 | const v=>simp only[Act.eval,ev];exact(ja9 ι hx).symm
 | global g=>simp[Act.eval,ev,ren,ren1]
 | func f=>simp[Act.eval,ev,ren,renL]
theorem opndsOk_spec(h:jb7 nt o=true){x:Operand}(hx:x∈o.op.operands):opOk nt x=true:=have _:=tbs;
 Kf.1 h x (by simpa using hx)
theorem RelS.wanted(h:RelS N w0 S nt t m ι a w)(o:Oper):Region.wanted o (yielded ops a.tmps)=jbq ops nt t o:=by
 unfold Region.wanted jbq;cases hg:o.guard with
 | none=>rfl
 | some gw=>
  obtain⟨j,want⟩:=gw;simp only[yielded,h.tmps];cases hd:(ops[j]?).bind (·.dst)with
  | none=>rfl
  | some d=>
   simp only[Option.bind_some];by_cases hlt:d<nt
   ·have hb:Nat.blt d nt=true:=by rw[Nat.blt_eq];exact hlt
    rw[Tm_get _ _ hlt,hb];cases hv:t d with
    | bool b=>cases b<;>cases want<;>rfl
    | pointer p=>cases p<;>rfl
    | slice p l c=>cases p<;>rfl
    | agg c=>obtain⟨l⟩:=c;rfl
    | tuple c=>obtain⟨l⟩:=c;rfl
    | func f x y=>obtain⟨x⟩:=x;obtain⟨y⟩:=y;rfl
    | chan p=>cases p<;>rfl
    | _=>rfl
   ·have hb:Nat.blt d nt=false:=by
     cases hq:Nat.blt d nt
     ·rfl
     ·rw[Nat.blt_eq]at hq;exact absurd hq hlt
    have hn:(Tm t ι nt)[d]?=none:=by simp[Tm,Nat.le_of_not_lt hlt]
    rw[hn,hb];rfl
def jd6(P:Program)(G:Env)(ops:Array Oper)(nt n0 i:Nat)(s:Tmps×Lk):Option (Tmps×Lk):=
 match ops[i]? with
 | none=>some s
 | some o=>match jbq ops nt s.1 o with
  | true=>match jb7 nt o,aop P G o (ev s.1) s.2 with
   | true,some (true,r)=>some (tput s.1 o.dst (resV (n0+i) r),jc5 (n0+i) r s.2)
   | _,_=>none
  | false=>some (tput s.1 o.dst undef,s.2)
theorem ids_undef:ids undef=[]:=by have _:=tbs;simp[undef,ids,idsL]
theorem ids_resV{id:Nat}{r:Res}{j:Nat}(h:j∈ids (resV id r)):j∈idsR r∨j=id:=by
 cases r with
 | val v=>exact .inl h
 | ptr b=>simp[resV,optr,ids]at h;exact .inr h
 | slc b n=>simp[resV,oslc,ids]at h;exact .inr h
 | upd k b=>rw[resV,ids_undef]at h;cases h
theorem jcr(hwf:WF S nt t m)(hok:jb7 nt o=true){x:Operand}(hx:x∈o.op.operands):∀j∈ids (ev t x),S j:=by
 have:=opndsOk_spec hok hx;cases x with
 | tmp i=>exact hwf.tmps i (by simpa[opOk,Nat.blt_eq]using this)
 | const v=>simp only[ev];rw[jbm (by simpa[opOk]using this)];simp
 | global g=>simp[ev,ids]
 | func f=>simp[ev,ids,idsL]
theorem jkv(hwf:WF S nt t m)(hok:jb7 nt o=true){id:Nat}{c:Bool}{r:Res}(h:aop P G o (ev t) m=some (c,r)):
  WF (fun k=>S k∨k=id) nt (tput t o.dst (resV id r)) (jc5 id r m):=by
 obtain⟨h1,h2⟩:=jfp h
 have hr:∀j∈idsR r,S j:=fun j hj=>by
  rcases h1 j hj with⟨x,hx,hjx⟩ | ⟨k,b,hk,hjb⟩
  ·exact jcr hwf hok hx j hjx
  ·exact(hwf.mem k b hk).2 j hjb
 refine⟨fun i hi j hj=> ?_,fun k b hk=> ?_⟩
 ·cases hd:o.dst with
  | none=>rw[hd]at hj;exact .inl (hwf.tmps i hi j hj)
  | some d=>
   rw[hd,tput_get]at hj;split at hj
   ·rcases ids_resV hj with h | h
    ·exact .inl (hr j h)
    ·exact .inr h
   ·exact .inl (hwf.tmps i hi j hj)
 ·have hold:m k=some b→(S k∨k=id)∧ ∀j∈idsL b.c,S j∨j=id:=fun hk=>⟨.inl (hwf.mem k b hk).1,fun j hj=> .inl ((hwf.mem k b hk).2 j hj)⟩
  have hnew:∀q b',(m.upd q b') k=some b→(S q∨q=id)→(∀j∈idsL b'.c,S j)→(S k∨k=id)∧ ∀j∈idsL b.c,S j∨j=id:=fun q b' hk hq hb'=>by
   by_cases e:k=q
   ·subst e;rw[Lk.upd_same]at hk;cases hk;exact⟨hq,fun j hj=> .inl (hb' j hj)⟩
   ·rw[Lk.upd_other _ _ e]at hk;exact hold hk
  cases r with
  | val v=>exact hold hk
  | ptr b'=>exact hnew id b' hk (.inr rfl) hr
  | slc b' n=>exact hnew id b' hk (.inr rfl) hr
  | upd q b'=>
   obtain⟨⟨b0,hb0⟩,_⟩:=h2 q b' rfl;exact hnew q b' hk (.inl (hwf.mem q b0 hb0).1) hr
theorem jkw(hwf:WF S nt t m)(d:Option Tmp):WF S nt (tput t d undef) m:=by
 refine⟨fun i hi j hj=> ?_,hwf.mem⟩;cases d with
 | none=>exact hwf.tmps i hi j hj
 | some d=>
  rw[tput_get]at hj;split at hj
  ·rw[ids_undef]at hj;cases hj
  ·exact hwf.tmps i hi j hj
theorem RelS.put_skip(h:RelS N w0 S nt t m ι a w)(d:Option Tmp):RelS N w0 S nt (tput t d undef) m ι (a.put d undef) w:=by
 refine⟨?_,by rw[put_defers];exact h.defers,h.mem,jkw h.wf d⟩;have hu:ren ι undef=undef:=by simp[undef,ren,renL]
 have:=jjd t ι nt d undef;rw[hu]at this;rw[put_tmps,h.tmps];exact this
theorem op_real(hG:jfq P G)(hrel:RelS N w0 S nt t m ι a w)(hok:jb7 nt o=true){id:Nat}(hid:¬S id){r:Res}(h:aop P G o (ev t) m=some (true,r))
  {K:Act→World→Prop} {Q:Exit→Act→World→Prop}
  (hK:∀ι' a' w',(∀k,S k→ι' k=ι k)→RelS N w0 (fun k=>S k∨k=id) nt (tput t o.dst (resV id r)) (jc5 id r m) ι' a' w'→K a' w'):o.wp P a w K Q:=by
 refine aop_sound hG h (fun x hx=>hrel.eval (opndsOk_spec hok hx)) hrel.mem (id:=id)
  (fun k b hk=>⟨fun e=>hid (e▸(hrel.wf.mem k b hk).1),fun e=>hid ((hrel.wf.mem k b hk).2 _ e)⟩) (fun x hx e=>hid (jcr hrel.wf hok hx _ e)) fun ι' w' hι hm=> ?_
 refine hK ι' _ w' (fun k hk=>hι k fun e=>hid (e▸hk)) ⟨?_,by rw[put_defers];exact hrel.defers,hm,jkv hrel.wf hok h⟩;rw[put_tmps,hrel.tmps,Tm_congr (ι':=ι') fun i hi k hk=>(hι k fun e=>hid (e▸hrel.wf.tmps i hi k hk)).symm];exact jjd t ι' nt o.dst _
theorem step1_real(hG:jfq P G)(hrel:RelS N w0 S nt t m ι a w){i:Nat}(hid:¬S (n0+i)){s':Tmps×Lk}(h:jd6 P G ops nt n0 i (t,m)=some s')
  {K:Act→World→Prop} {Q:Exit→Act→World→Prop}
  (hK:∀ι' a' w',(∀k,S k→ι' k=ι k)→RelS N w0 (fun k=>S k∨k=n0+i) nt s'.1 s'.2 ι' a' w'→K a' w'):wpOp P ops Q i K a w:=by
 have weak:∀{t m ι a w},RelS N w0 S nt t m ι a w→RelS N w0 (fun k=>S k∨k=n0+i) nt t m ι a w:=fun h=>⟨h.tmps,h.defers,h.mem,h.wf.mono fun _=> .inl⟩
 unfold jd6 at h;unfold wpOp;cases ho:ops[i]? with
 | none=>
  simp only[ho]at h;cases h;exact hK ι a w (fun _ _=>rfl) (weak hrel)
 | some o=>
  simp only[ho]at h;simp only[hrel.wanted o];split at h
  ·rename_i hw;rw[Kd hw];split at h
   ·rename_i r hok hr;cases h;exact .inl (op_real hG hrel hok hid hr hK)
   ·cases h
  ·rename_i hw;rw[Kc (by rw[hw];simp)];cases h;exact hK ι _ w (fun _ _=>rfl) (weak (hrel.put_skip o.dst))
end
end Go.Ab
