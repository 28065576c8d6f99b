/-
  AbW: the run and laws.
-/
import Derived.Test.YtiahilhlpmohoaaGreatDoorS1Ab8
set_option linter.unusedVariables false
set_option linter.unusedSimpArgs false
set_option linter.unusedSectionVars false
noncomputable section
namespace Go.Ab
open Go Go.RowKit
variable [Tabs]
def jkg(P:Program)(o:Oper)(e:Operand→Value):Option Value:=match o.op with
 | .move x | .assign x=>some (e x)
 | .fieldAddr s x f=>match own? (e x)with
  | some (k,off,sp)=>match jht P s f with
   | some fo=>some (optr k (off+fo) sp)
   | none=>none
  | none=>none
 | .nilCheck x=>match own? (e x)with
  | some _=>some (e x)
  | none=>none
 | .extract x i=>match e x with
  | .tuple vs=>vs.toList[i]?
  | _=>none
 | _=>none
def stillK(o:Oper):Bool:=match o.guard with
 | some _=>false
 | none=>match o.op with
  | .move _ | .assign _ | .fieldAddr _ _ _ | .nilCheck _ | .extract _ _=>true
  | _=>false
def jn2(ops:Array Oper):Bool:=ops.toList.all fun o=>match o.op with | .select _ _=>false | _=>true
def stillF(ops:Array Oper)(listed:Array Bool)(i:Nat):Bool:=match ops[i]? with
 | none=>false
 | some oi => stillK oi && (List.range ops.size).all fun j => j == i || listed.getD j true || match ops[j]? with
   | some oj=>(oj.after.any fun e=>Region.binds .any e&&e.on==i) || oi.apart ops oj
   | none=>true
def anyW(P:Program)(G:Env)(ops:Array Oper)(nt:Nat)(K:Tmps→Lk→Nat→Prop):Nat→Array Bool→Tmps→Lk→Nat→Prop
 | 0,listed,t,m,n=>match Region.ready .any ops listed with
  | []=>K t m n
  | _::_=>False
 | fuel+1,listed,t,m,n=>match Region.ready .any ops listed with
  | []=>K t m n
  | i0::l=>match (i0::l).find? (stillF ops listed)with
   | some i=>match ops[i]? with
    | some o=>match jb7 nt o,jkg P o (ev t)with
     | true,some v=>anyW P G ops nt K fuel (listed.setIfInBounds i true) (tput t o.dst v) m n
     | _,_=>False
    | none=>False
   | none=>match (i0::l).find? (jnu G ops t listed)with
    | some _=>anyG P G ops nt K (fuel+1) listed t m n
    | none=>allP (i0::l) fun i=>match ops[i]? with
    | some o=>match detS G o with
     | true=>opRV P G ops nt o t m fun t m=>anyW P G ops nt K fuel (listed.setIfInBounds i true) t m n
     | false=>opR P G ops nt false o t m n (anyW P G ops nt K fuel (listed.setIfInBounds i true))
    | none=>False
section
variable {P : Program} {G : Env} {ops : Array Oper} {nt n : Nat} {N : Nat} {w0 : World} {t : Tmps} {m : Lk} {ι : Nm} {a : Act} {w : World} {o : Oper}
theorem still_run{e:Operand→Value}{v:Value}(h:jkg P o e=some v)(he:∀x∈o.op.operands,a.eval x=ren ι (e x))(w:World):(execOp a.eval o).run P w= .ok (.value (ren ι v)) w:=by
 unfold jkg at h;split at h
 ·rename_i x hop;cases h;rw[←he x (by simp[hop,Op.operands])];simp[execOp,hop]
 ·rename_i x hop;cases h;rw[←he x (by simp[hop,Op.operands])];simp[execOp,hop]
 ·rename_i s x f hop;have hx:=he x (by simp[hop,Op.operands]);split at h
  ·rename_i k off sp ho;have hs:=jc2 ho;split at h
   ·rename_i fo hf;cases h;have:=fieldOff_sound (P:=P) (w:=w) hf (ι k) off;simp only[execOp,hop,hx,hs,ren_own];simp[this,jez]
   ·cases h
  ·cases h
 ·rename_i x hop;have hx:=he x (by simp[hop,Op.operands]);split at h
  ·rename_i p ho;obtain⟨k,off,sp⟩:=p;cases h;rw[jc2 ho]at hx ⊢;simp[execOp,hop,hx,ren,ren1]
  ·cases h
 ·rename_i x i hop;have hx:=he x (by simp[hop,Op.operands]);split at h
  ·rename_i vs hv;obtain⟨l⟩:=vs;have hvi':l[i]?=some v:=by simpa using h
   simp[execOp,hop,hx,hv,ren,Instr.extract,jb1,hvi']
  ·cases h
 ·cases h
theorem still_ids{e:Operand→Value}{v:Value}(h:jkg P o e=some v):∀j∈ids v,∃x∈o.op.operands,j∈ids (e x):=by
 unfold jkg at h;split at h
 ·rename_i x hop;cases h;exact fun j hj=>⟨x,by simp[hop,Op.operands],hj⟩
 ·rename_i x hop;cases h;exact fun j hj=>⟨x,by simp[hop,Op.operands],hj⟩
 ·rename_i s x f hop;split at h
  ·rename_i k off sp ho;split at h
   ·cases h;refine fun j hj=>⟨x,by simp[hop,Op.operands],?_⟩
    have:j=k:=by simpa[optr,ids]using hj
    exact this▸jgo ho
   ·cases h
  ·cases h
 ·rename_i x hop;split at h
  ·cases h;exact fun j hj=>⟨x,by simp[hop,Op.operands],hj⟩
  ·cases h
 ·rename_i x i hop;split at h
  ·rename_i vs hv;obtain⟨l⟩:=vs;refine fun j hj=>⟨x,by simp[hop,Op.operands],?_⟩
   rw[hv];simp only[ids];exact jay.2 ⟨v,List.mem_of_getElem? (by simpa using h),hj⟩
  ·cases h
 ·cases h
theorem RelS.putV(hrel:RelS N w0 (· <n) nt t m ι a w)(d:Option Tmp){v:Value}(hv:∀j∈ids v,j<n):RelS N w0 (· <n) nt (tput t d v) m ι (a.put d (ren ι v)) w:=by
 refine⟨?_,by rw[put_defers];exact hrel.defers,hrel.mem,⟨fun i hi j hj=> ?_,hrel.wf.mem⟩⟩
 ·rw[put_tmps,hrel.tmps];exact jjd t ι nt d v
 ·cases hd:d with
  | none=>rw[hd]at hj;exact hrel.wf.tmps i hi j hj
  | some d=>
   rw[hd,tput_get]at hj;split at hj
   ·exact hv j hj
   ·exact hrel.wf.tmps i hi j hj
theorem jf5(hG:ja3 P G)(hns:jn2 ops=true){n0:Nat}{ι0:Nm}{K:Tmps→Lk→Nat→Prop}{Q:Exit→Act→World→Prop}(hQp:∀c a w,¬Q (.panic c) a w)
  (hK:∀t m n ι a w,K t m n→n0≤n→(∀k,k<n0→ι k=ι0 k)→RelS N w0 (· <n) nt t m ι a w→Q .normal a w):
  ∀(fuel:Nat)(listed:Array Bool)(t:Tmps)(m:Lk)(n:Nat)(ι:Nm)(a:Act)(w:World),listed.size=ops.size→DC ops listed→n0≤n→(∀k,k<n0→ι k=ι0 k)→RelS N w0 (· <n) nt t m ι a w→
   anyW P G ops nt K fuel listed t m n→wpAny P .any ops Q fuel listed a w
 | 0,listed,t,m,n,ι,a,w,_,_,hn,hι,hrel,h=>by
  simp only[anyW]at h;cases h0:Region.ready .any ops listed with
  | nil=>rw[h0]at h;exact⟨h0,hK t m n ι a w h hn hι hrel⟩
  | cons i l=>rw[h0]at h;exact h.elim
 | fuel+1,listed,t,m,n,ι,a,w,hsz,hdc,hn,hι,hrel,h=>by
  simp only[anyW]at h;split at h
  ·rename_i h0;exact⟨fun _=>hK t m n ι a w h hn hι hrel,fun i hi=>(by rw[h0]at hi;cases hi)⟩
  ·rename_i i0 l h0;split at h
   ·rename_i i hfind;have hi:i∈Region.ready .any ops listed:=h0▸List.mem_of_find?_eq_some hfind;have hfree:=List.find?_some hfind;split at h
    case h_2=>exact h.elim
    rename_i o ho;split at h
    case h_2=>exact h.elim
    rename_i v hok hv;simp only[stillF,ho,jaf,Kf,List.mem_range]at hfree
    have hgu:o.guard=none:=by
     have:=hfree.1;unfold stillK at this;split at this
     ·cases this
     ·assumption
    have hy:Yields P ops o (ren ι v) a:= .inl ⟨by simp[Region.wanted,hgu],fun w=>still_run hv (fun x hx=>hrel.eval (opndsOk_spec hok hx)) w⟩;refine wpAny_first ho (fun j oj cs b hj e=> ?_) (fun c a w h=>(hQp c _ w h).elim) fuel listed a w (fun j oj hj hji hun hno=> ?_) hi hy ?_
    ·have:=Kf.1 hns oj (by simpa using Array.mem_of_getElem? hj);rw[e]at this;cases this
    ·have h1:=hfree.2 j (Array.getElem?_eq_some_iff.1 hj).1;simp only[hj,Ko,K4,hji,false_or,hun,Bool.false_eq_true]at h1;rcases h1 with h1 | h1
     ·obtain⟨e,he,hb⟩:=Array.any_eq_true'.1 h1;simp only[jaf,K4]at hb;exact absurd hb.2 (hno e he hb.1)
     ·exact h1
    ·exact jf5 hG hns hQp hK fuel _ _ m n ι _ w (by simpa using hsz) (DC_set hdc hi) hn hι (RelS.putV hrel o.dst fun j hj=>by
      obtain⟨x,hx,hjx⟩:=still_ids hv j hj;exact jcr hrel.wf hok hx j hjx) h
   ·split at h
    ·exact jdx hG hK (fuel+1) listed t m n ι a w hn hι hrel (jex (fuel+1) listed t m n hsz hdc hrel.wf h)
    refine⟨fun h1=>(by rw[h0]at h1;cases h1),fun i hi=> ?_⟩;have hp:=allP_mem h i (h0▸hi);split at hp
    case h_2=>exact hp.elim
    rename_i o ho;split at hp
    ·obtain⟨s',hs,hrest⟩:=jia ho hp
     exact step1v_real hG.1 hrel hs fun ι' a' w' hι' hrel'=>
      jf5 hG hns hQp hK fuel _ s'.1 s'.2 n ι' a' w' (by simpa using hsz) (DC_set hdc hi) hn (fun k hk=>(hι' k (by omega)).trans (hι k hk)) hrel' hrest
    ·exact jjn hG ho hrel hp fun t' m' n' ι' a' w' hk hn' hι' hrel'=>
      jf5 hG hns hQp hK fuel _ t' m' n' ι' a' w' (by simpa using hsz) (DC_set hdc hi) (by omega) (fun k hk=>(hι' k (by omega)).trans (hι k hk)) hrel' hk
theorem region_anyW(hG:ja3 P G)(hm:P.follows .mixedOrders=true)(hns:jn2 ops=true){id:Nat}{K:Tmps→Lk→Nat→Prop}(h:anyW P G ops nt K ops.size (Array.replicate ops.size false) t m n)
  {Q:Exit→Act→World→Prop} (hrel:RelS N w0 (· <n) nt t m ι a w)
  (hQ:∀t' m' n' ι' a' w',K t' m' n'→n≤n'→(∀k,k<n→ι' k=ι k)→RelS N w0 (· <n') nt t' m' ι' a' w'→Q .normal a' w'):(Code.region id ops true).wp P Q a w:=by
 refine Code.wp_mono (Q:=fun e a w=>match e with | .panic _=>False | e=>Q e a w) (fun e a w h=>by cases e<;>first | exact h.elim | exact h) ?_;refine wp_region_any hm ?_
 have hgetD:∀d,(Array.replicate ops.size false).getD d false=false:=fun d=>by
  rcases Nat.lt_or_ge d ops.size with hlt | hge
  ·simp[hlt]
  ·simp[Array.getElem?_eq_none,hge]
 have hrel':RelS N w0 (· <n) nt t m ι a {w with drawn:=w.drawn+1}:=
  ⟨hrel.tmps,hrel.defers,⟨hrel.mem.below.drew,hrel.mem.base,hrel.mem.blk,hrel.mem.view,hrel.mem.inj⟩,hrel.wf⟩
 exact jf5 (Q:=fun e a w=>match e with | .panic _=>False | e=>Q e a w) hG hns (n0:=n) (ι0:=ι) (fun _ _ _ h=>h) (fun t' m' n' ι' a' w' hk hn hι hr=>hQ t' m' n' ι' a' w' hk hn hι hr) ops.size _ t m n ι a _ (by simp) (fun j oj _ hl=>by rw[hgetD]at hl;cases hl) (Kv n) (fun _ _=>rfl) hrel' h
end
end Go.Ab
