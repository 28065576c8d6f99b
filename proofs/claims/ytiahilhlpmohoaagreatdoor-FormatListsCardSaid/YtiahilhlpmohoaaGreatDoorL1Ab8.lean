/-
  Ab8: the run and laws.
-/
import Derived.Test.YtiahilhlpmohoaaGreatDoorL1AbE
import Derived.Scope
set_option linter.unusedVariables false
set_option linter.unusedSimpArgs false
set_option linter.unusedSectionVars false
noncomputable section
namespace Go.Ab
open Go Go.RowKit
variable [Tabs]
def jda(P:Program)(f:FuncId)(h:U→Lk→Nat→(Value→Lk→Nat→Prop)→Prop):Prop:=
 jbh P f∧ ∀(args:U)(m:Lk)(n:Nat)(K:Value→Lk→Nat→Prop),h args m n K→ ∀(N:Nat)(w0:World)(ι:Nm)(w:World),RelM N w0 m ι w→
  (∀k b,m k=some b→k<n∧ ∀j∈idsL b.c,j<n)→(∀v∈args,∀j∈ids v,j<n)→
  Calls P f (args.map (ren ι)).toArray w fun e w'=>∃v m' n' ι',e= .returned (ren ι' v)∧K v m' n'∧n≤n'∧(∀k,k<n→ι' k=ι k)∧RelM N w0 m' ι' w'∧
   (∀k b,m' k=some b→k<n'∧ ∀j∈idsL b.c,j<n')∧ ∀j∈ids v,j<n'
def jao(P:Program)(G:Env):Prop:=jeq P G∧ ∀f h,G f=some (.gen h)→jda P f h
def jj8(G:Env)(o:Oper)(e:Operand→Value):Option ((U→Lk→Nat→(Value→Lk→Nat→Prop)→Prop)×U):=
 match o.op with
 | .call c=>match c.callee with
  | .value x=>match e x with
   | .func (.func f) ⟨first⟩ ⟨captured⟩=>match G f with
    | some (.gen h)=>some (h,first++c.args.toList.map e++captured)
    | _=>none
   | _=>none
  | _=>none
 | _=>none
def setC(c:Operand)(t:Tmps)(b:Bool):Tmps:=
 match c with
 | .tmp d=>tput t (some d) (.bool b)
 | _=>t
section
variable (P : Program) (G : Env)
def doOp(nt:Nat)(dr:Bool)(o:Oper)(t:Tmps)(m:Lk)(n:Nat)(K:Tmps→Lk→Nat→Prop):Prop:=
 match jbq nt o with
 | false=>False
 | true=>match jj8 G o (ev t)with
  | some (h,args)=>match dr with
   | false=>h args m (n+1) fun v m' n'=>K (tput t o.dst v) m' n'
   | true=>False
  | none=>match aop P G o (ev t) m with
   | some (c,r)=>match c with
    | true=>K (tput t o.dst (resV n r)) (jcq n r m) (n+1)
    | false=>False
   | none=>match dr with
    | false=>extR P o (ev t) m n fun v m'=>K (tput t o.dst v) m' (n+1)
    | true=>False
def opR(ops:Array Oper)(nt:Nat)(dr:Bool)(o:Oper)(t:Tmps)(m:Lk)(n:Nat)(K:Tmps→Lk→Nat→Prop):Prop:=
 match o.guard with
 | none=>doOp P G nt dr o t m n K
 | some (j,want)=>match (ops[j]?).bind (·.dst)with
  | some d=>match Nat.blt d nt with
   | true=>match t d with
    | .bool b=>match b with
     | true=>match want with
      | true=>doOp P G nt dr o (tput t (some d) (.bool true)) m n K
      | false=>K (tput (tput t (some d) (.bool true)) o.dst undef) m (n+1)
     | false=>match want with
      | false=>doOp P G nt dr o (tput t (some d) (.bool false)) m n K
      | true=>K (tput (tput t (some d) (.bool false)) o.dst undef) m (n+1)
    | _=>K (tput t o.dst undef) m (n+1)
   | false=>False
  | none=>False
def opsR(ops:Array Oper)(nt:Nat)(dr:Bool):List Oper→Tmps→Lk→Nat→(Tmps→Lk→Nat→Prop)→Prop
 | [],t,m,n,K=>K t m n
 | o::r,t,m,n,K=>opR P G ops nt dr o t m n fun t m n=>opsR ops nt dr r t m n K
end
section
variable {P : Program} {G : Env} {ops : Array Oper} {nt n : Nat} {N : Nat} {w0 : World} {t : Tmps} {m : Lk} {ι : Nm} {a : Act} {w : World} {o : Oper}
theorem jb8{d:Tmp}{v:Value}(h:t d=v):tput t (some d) v=t:=by
 funext j;rw[tput_get];split
 ·subst_vars;rfl
 ·rfl
theorem wantedA_other{j:Nat}{want:Bool}{d:Tmp}(hg:o.guard=some (j,want))(hd:(ops[j]?).bind (·.dst)=some d)(hlt:Nat.blt d nt=true)(hb:∀b,t d= .bool b→False):jbb ops nt t o=false:=by
 have _:=tbs;cases hv:t d with
 | bool b=>exact(hb b hv).elim
 | _=>simp only[jbb,hg,hd,hlt,hv]
theorem opR_step{n0 k:Nat}(hk:ops[k]?=some o){K:Tmps→Lk→Nat→Prop}(h:opR P G ops nt true o t m (n0+k) K):
  ∃s',jdl P G ops nt n0 k (t,m)=some s'∧K s'.1 s'.2 (n0+k+1):=by
 have hdo:∀{t},jbb ops nt t o=true→doOp P G nt true o t m (n0+k) K→ ∃s',jdl P G ops nt n0 k (t,m)=some s'∧K s'.1 s'.2 (n0+k+1):=fun{t} hw h=>by
  unfold doOp at h;split at h
  ·exact h.elim
  ·rename_i hok;split at h
   ·exact h.elim
   ·split at h
    ·rename_i c r hr;split at h
     ·exact⟨(tput t o.dst (resV (n0+k) r),jcq (n0+k) r m),by simp only[jdl,hk,hw,hok,hr],h⟩
     ·exact h.elim
    ·exact h.elim
 have hskip:∀{t},jbb ops nt t o=false→K (tput t o.dst undef) m (n0+k+1)→ ∃s',jdl P G ops nt n0 k (t,m)=some s'∧K s'.1 s'.2 (n0+k+1):=fun{t} hw h=>
  ⟨(tput t o.dst undef,m),by simp only[jdl,hk,hw],h⟩
 unfold opR at h;split at h
 ·rename_i hg;exact hdo (by simp only[jbb,hg]) h
 ·rename_i j want hg;split at h
  ·rename_i d hd;split at h
   ·rename_i hlt;split at h
    ·rename_i b hb;split at h
     ·rw[jb8 hb]at h;split at h
      ·exact hdo (by simp only[jbb,hg,hd,hlt,hb];rfl) h
      ·exact hskip (by simp only[jbb,hg,hd,hlt,hb];rfl) h
     ·rw[jb8 hb]at h;split at h
      ·exact hdo (by simp only[jbb,hg,hd,hlt,hb];rfl) h
      ·exact hskip (by simp only[jbb,hg,hd,hlt,hb];rfl) h
    ·rename_i hb;exact hskip (wantedA_other hg hd hlt hb) h
   ·exact h.elim
  ·exact h.elim
theorem opsR_draw{n0:Nat}{K:Tmps→Lk→Nat→Prop}:∀(l:List Oper)(k:Nat)(t:Tmps)(m:Lk),(∀j,l[j]?=ops[k+j]?)→opsR P G ops nt true l t m (n0+k) K→
  ∃s',runL P G ops nt n0 l.length k (t,m)=some s'∧K s'.1 s'.2 (n0+k+l.length)
 | [],k,t,m,_,h=>⟨(t,m),rfl,h⟩
 | o::l,k,t,m,hl,h=>by
  have h0:ops[k]?=some o:=by simpa using(hl 0).symm
  simp only[opsR]at h;obtain⟨s1,hs1,h1⟩:=opR_step h0 h;have hl':∀j,l[j]?=ops[k+1+j]?:=fun j=>by have:=hl (j+1);simpa[Nat.add_assoc,Nat.add_comm 1 j]using this
  obtain⟨s',hs',h2⟩:=opsR_draw l (k+1) s1.1 s1.2 hl' (by rw[←Nat.add_assoc];exact h1);refine⟨s',?_,?_⟩
  ·simp only[List.length_cons,runL,hs1,Option.bind_some];exact hs'
  ·rw[List.length_cons];have:n0+k+(l.length+1)=n0+(k+1)+l.length:=by omega
   rw[this];exact h2
theorem gen_real(hG:jao P G){h:U→Lk→Nat→(Value→Lk→Nat→Prop)→Prop}{args:U}(hg:jj8 G o (ev t)=some (h,args))(hok:jbq nt o=true)
  (hrel:RelS N w0 (· <n) nt t m ι a w) {K:Tmps→Lk→Nat→Prop} (hh:h args m (n+1) fun v m' n'=>K (tput t o.dst v) m' n')
  {K':Act→World→Prop} {Q:Exit→Act→World→Prop}
  (hK:∀t' m' n' ι' a' w',K t' m' n'→n≤n'→(∀k,k<n→ι' k=ι k)→RelS N w0 (· <n') nt t' m' ι' a' w'→K' a' w'):o.wp P a w K' Q:=by
 unfold jj8 at hg;split at hg
 ·rename_i c hop;split at hg
  ·rename_i y hf;split at hg
   ·rename_i f first captured hfv
    split at hg
    ·rename_i h' hGf;simp only[Option.some.injEq,Prod.mk.injEq]at hg;obtain⟨rfl,rfl⟩:=hg;obtain⟨hcal,hcon⟩:=hG.2 f h' hGf;obtain⟨cal,args,tys⟩:=c;simp only at hf;subst hf;have hmem:∀x∈args,x∈o.op.operands:=fun x hx=>by simp[hop,Op.operands,Call.operands,hx]
     have hmemy:y∈o.op.operands:=by simp[hop,Op.operands,Call.operands]
     have hye:a.eval y=ren ι (ev t y):=hrel.eval (opndsOk_spec hok hmemy)
     have hmap:args.map a.eval=((args.toList.map (ev t)).map (ren ι)).toArray:=by
      apply Array.toList_inj.1;simp only[Array.toList_map,List.map_map];exact List.map_congr_left fun x hx=>by simpa using hrel.eval (opndsOk_spec hok (hmem x (by simpa using hx)))
     have hrun:(execOp a.eval o).run P w= .ok (.enter f ((first++args.toList.map (ev t)++captured).map (ren ι)).toArray) w:=by
      simp only[execOp,hop,resolve,Sem.run_bind,hye,hfv,ren,Deferred.ofValue];simp only[Sem.run_pure,Result.andThen_ok,invoke,hmap];rw[run_callFunc hcal];simp[jbo]
     unfold Oper.wp;rw[hrun,Oper.upon_enter];refine(hcon _ m (n+1) _ hh N w0 ι w hrel.mem (fun k b hk=> ?_) (fun v hv j hj=> ?_)).mono fun e' w' ⟨v,m',n',ι',he,hKv,hn,hι,hm',hwf,hv⟩=> ?_
     ·obtain⟨h1,h2⟩:=hrel.wf.mem k b hk;exact⟨Nat.lt_succ_of_lt h1,fun j hj=>Nat.lt_succ_of_lt (h2 j hj)⟩
     ·have hyid:∀j∈ids (ev t y),j<n:=jce hrel.wf hok hmemy;rw[hfv]at hyid;simp only[ids,List.mem_append]at hyid;simp only[List.mem_append]at hv;rcases hv with(hv | hv) | hv
      ·exact Nat.lt_succ_of_lt (hyid j (.inl (jaw.2 ⟨v,hv,hj⟩)))
      ·obtain⟨x,hx,rfl⟩:=List.mem_map.1 hv;exact Nat.lt_succ_of_lt (jce hrel.wf hok (hmem x (by simpa using hx)) j hj)
      ·exact Nat.lt_succ_of_lt (hyid j (.inr (jaw.2 ⟨v,hv,hj⟩)))
     ·subst he;refine hK _ m' n' ι' _ w' hKv (by omega) (fun k hk=>hι k (by omega)) ⟨?_,by rw[put_defers];exact hrel.defers,hm',⟨fun i hi j hj=> ?_,hwf⟩⟩
      ·rw[put_tmps,hrel.tmps,Tm_congr (ι':=ι') fun i hi k hk=>(hι k (Nat.lt_succ_of_lt (hrel.wf.tmps i hi k hk))).symm];exact jhd t ι' nt o.dst v
      ·cases hd:o.dst with
       | none=>rw[hd]at hj;have:=hrel.wf.tmps i hi j hj;omega
       | some d=>
        rw[hd,tput_get]at hj;split at hj
        ·exact hv j hj
        ·have:=hrel.wf.tmps i hi j hj;omega
    ·cases hg
   ·cases hg
  ·cases hg
 ·cases hg
theorem jhk(hG:jao P G){dr:Bool}{i:Nat}(hi:ops[i]?=some o)(hrel:RelS N w0 (· <n) nt t m ι a w){K:Tmps→Lk→Nat→Prop}(h:opR P G ops nt dr o t m n K)
  {K':Act→World→Prop} {Q:Exit→Act→World→Prop}
  (hK:∀t' m' n' ι' a' w',K t' m' n'→n≤n'→(∀k,k<n→ι' k=ι k)→RelS N w0 (· <n') nt t' m' ι' a' w'→K' a' w'):wpOp P ops Q i K' a w:=by
 have hdo:∀{t},RelS N w0 (· <n) nt t m ι a w→jbb ops nt t o=true→doOp P G nt dr o t m n K→wpOp P ops Q i K' a w:=fun{t} hrel hw h=>by
  unfold wpOp;simp only[hi,hrel.wanted o,hw,if_true];refine .inl ?_
  have hop:jbq nt o=true→ ∀{r},aop P G o (ev t) m=some (true,r)→K (tput t o.dst (resV n r)) (jcq n r m) (n+1)→o.wp P a w K' Q:=fun hok {r} hr hk=>
   op_real hG.1 hrel hok (id:=n) (by omega) hr fun ι' a' w' hι hrel'=>hK _ _ _ ι' a' w' hk (Nat.le_succ n) hι ⟨hrel'.tmps,hrel'.defers,hrel'.mem,hrel'.wf.mono fun k hk=>by omega⟩
  unfold doOp at h;split at h
  ·exact h.elim
  ·rename_i hok;split at h
   ·rename_i hh args hg;split at h
    ·exact gen_real hG hg hok hrel h hK
    ·exact h.elim
   ·split at h
    ·rename_i c r hr;split at h
     ·exact hop hok hr h
     ·exact h.elim
    ·split at h
     ·exact ext_real hrel hok h hK
     ·exact h.elim
 have hskip:∀{t},RelS N w0 (· <n) nt t m ι a w→jbb ops nt t o=false→K (tput t o.dst undef) m (n+1)→wpOp P ops Q i K' a w:=fun{t} hrel hw h=>by
  unfold wpOp;simp only[hi,hrel.wanted o,hw,Bool.false_eq_true,if_false];have:=hrel.put_skip o.dst;exact hK _ _ _ ι _ w h (Nat.le_succ n) (fun _ _=>rfl) ⟨this.tmps,this.defers,this.mem,this.wf.mono fun k hk=>by omega⟩
 unfold opR at h;split at h
 ·rename_i hg;exact hdo hrel (by simp only[jbb,hg]) h
 ·rename_i j want hg;split at h
  ·rename_i d hd;split at h
   ·rename_i hlt;split at h
    ·rename_i b hb;split at h
     ·rw[jb8 hb]at h;split at h
      ·exact hdo hrel (by simp only[jbb,hg,hd,hlt,hb];rfl) h
      ·exact hskip hrel (by simp only[jbb,hg,hd,hlt,hb];rfl) h
     ·rw[jb8 hb]at h;split at h
      ·exact hdo hrel (by simp only[jbb,hg,hd,hlt,hb];rfl) h
      ·exact hskip hrel (by simp only[jbb,hg,hd,hlt,hb];rfl) h
    ·rename_i hb;exact hskip hrel (wantedA_other hg hd hlt hb) h
   ·exact h.elim
  ·exact h.elim
theorem opsR_text(hG:jao P G){dr:Bool}{Q:Exit→Act→World→Prop}{K:Tmps→Lk→Nat→Prop}:
  ∀(l:List Oper)(k n:Nat)(t:Tmps)(m:Lk)(ι:Nm)(a:Act)(w:World),(∀j,l[j]?=ops[k+j]?)→RelS N w0 (· <n) nt t m ι a w→opsR P G ops nt dr l t m n K→
   (∀t' m' n' ι' a' w',K t' m' n'→n≤n'→(∀k,k<n→ι' k=ι k)→RelS N w0 (· <n') nt t' m' ι' a' w'→Q .normal a' w')→wpOps P ops Q (List.range' k l.length) a w
 | [],k,n,t,m,ι,a,w,_,hrel,h,hQ=>by
  simp only[List.length_nil,List.range'_zero,wpOps];exact hQ t m n ι a w h (Nat.le_refl _) (fun _ _=>rfl) hrel
 | o::l,k,n,t,m,ι,a,w,hl,hrel,h,hQ=>by
  have h0:ops[k]?=some o:=by simpa using(hl 0).symm
  simp only[opsR]at h;rw[List.length_cons,List.range'_succ,wpOps_cons];refine jhk hG h0 hrel h fun t1 m1 n1 ι1 a1 w1 h1 hn1 hι1 hrel1=> ?_
  exact opsR_text hG l (k+1) n1 t1 m1 ι1 a1 w1 (fun j=>by have:=hl (j+1);simpa[Nat.add_assoc,Nat.add_comm 1 j]using this) hrel1 h1
   fun t' m' n' ι' a' w' hk hn hι hr=>hQ t' m' n' ι' a' w' hk (by omega) (fun k hk=>(hι k (by omega)).trans (hι1 k hk)) hr
theorem jct(hG:jao P G)(hm:P.follows .mixedOrders=true){id:Nat}{d:Bool}(hB:(!d || lexA ops t)=true){K:Tmps→Lk→Nat→Prop}(h:opsR P G ops nt d ops.toList t m n K)
  {Q:Exit→Act→World→Prop} (hrel:RelS N w0 (· <n) nt t m ι a w)
  (hQ:∀t' m' n' ι' a' w',K t' m' n'→n≤n'→(∀k,k<n→ι' k=ι k)→RelS N w0 (· <n') nt t' m' ι' a' w'→Q .normal a' w'):(Code.region id ops d).wp P Q a w:=by
 cases d with
 | false=>
  refine wp_region ?_;have:=opsR_text (ops:=ops) hG (dr:=false) (Q:=Q) ops.toList 0 n t m ι a w (by simp) hrel h hQ;rw[List.range_eq_range'];simpa using this
 | true=>
  obtain⟨s',hs',hk⟩:=opsR_draw (ops:=ops) (n0:=n) ops.toList 0 t m (by simp) (by simpa using h);refine region_draw hG.1 hm (by simpa using hB) (s':=s') (by simpa using hs') hrel fun ι' a' w' hι hr=> ?_
  exact hQ s'.1 s'.2 (n+ops.size) ι' a' w' (by simpa using hk) (by omega) hι hr
end
def jhm:Res→Bool
 | .val _ | .upd _ _=>true
 | _=>false
def jcs(P:Program)(G:Env)(ops:Array Oper)(nt i:Nat)(s:Tmps×Lk):Option (Tmps×Lk):=
 match ops[i]? with
 | none=>some s
 | some o=>match jbb ops nt s.1 o with
  | true=>match jbq nt o,aop P G o (ev s.1) s.2 with
   | true,some (true,r)=>match jhm r with
    | true=>some (tput s.1 o.dst (resV 0 r),jcq 0 r s.2)
    | false=>none
   | _,_=>none
  | false=>some (tput s.1 o.dst undef,s.2)
theorem noNew_res{r:Res}(h:jhm r=true)(x y:Nat)(m:Lk):resV x r=resV y r∧jcq x r m=jcq y r m:=by
 have _:=tbs;cases r<;>first | exact⟨rfl,rfl⟩ | cases h
section
variable {P : Program} {G : Env} {ops : Array Oper} {nt n : Nat} {N : Nat} {w0 : World} {t : Tmps} {m : Lk} {ι : Nm} {a : Act} {w : World} {o : Oper}
theorem jdn{i:Nat}{s s':Tmps×Lk}(h:jcs P G ops nt i s=some s')(n0:Nat):jdl P G ops nt n0 i s=some s':=by
 unfold jcs at h;unfold jdl;split at h
 ·rename_i h0;simp only[h0];exact h
 ·rename_i o h0;simp only[h0];split at h
  ·rename_i hw;simp only[hw];split at h
   ·rename_i r hok hr;simp only[hok,hr];split at h
    ·rename_i hn;cases h;rw[(noNew_res hn (n0+i) 0 s.2).1,(noNew_res hn (n0+i) 0 s.2).2]
    ·cases h
   ·cases h
  ·rename_i hw;simp only[hw];exact h
theorem jfd{S:Nat→Prop}{i:Nat}(hwf:WF S nt t m){s':Tmps×Lk}(h:jcs P G ops nt i (t,m)=some s'):WF S nt s'.1 s'.2:=by
 unfold jcs at h;split at h
 ·cases h;exact hwf
 ·rename_i o _;split at h
  ·split at h
   ·rename_i r hok hr;split at h
    ·rename_i hn;cases h;have h1:=jih hwf hok (id:=0) hr;have hids:=jep hr;refine⟨fun i hi j hj=> ?_,fun k b hk=> ?_⟩
     ·cases hd:o.dst with
      | none=>rw[hd]at hj;exact hwf.tmps i hi j hj
      | some d=>
       simp only[hd,tput_get]at hj;split at hj
       ·have hr':j∈idsR r:=by
         cases r with
         | val v=>exact hj
         | upd k b=>simp[resV,ids_undef]at hj
         | _=>cases hn
        rcases hids.1 j hr' with⟨x,hx,hjx⟩ | ⟨k,b,hk,hjb⟩
        ·exact jce hwf hok hx j hjx
        ·exact(hwf.mem k b hk).2 j hjb
       ·exact hwf.tmps i hi j hj
     ·cases r with
      | val v=>exact hwf.mem k b hk
      | upd q b'=>
       obtain⟨⟨b0,hb0⟩,_⟩:=hids.2 q b' rfl;by_cases e:k=q
       ·subst e;simp only[jcq,Lk.upd_same,Option.some.injEq]at hk;subst hk;refine⟨(hwf.mem k b0 hb0).1,fun j hj=> ?_⟩;rcases hids.1 j hj with⟨x,hx,hjx⟩ | ⟨k',b2,hk',hjb⟩
        ·exact jce hwf hok hx j hjx
        ·exact(hwf.mem k' b2 hk').2 j hjb
       ·simp only[jcq,Lk.upd_other _ _ e]at hk;exact hwf.mem k b hk
      | _=>cases hn
    ·cases h
   ·cases h
  ·cases h;exact jii hwf _
theorem step1v_real(hG:jeq P G)(hrel:RelS N w0 (· <n) nt t m ι a w){i:Nat}{s':Tmps×Lk}(h:jcs P G ops nt i (t,m)=some s')
  {K:Act→World→Prop} {Q:Exit→Act→World→Prop}
  (hK:∀ι' a' w',(∀k,k<n→ι' k=ι k)→RelS N w0 (· <n) nt s'.1 s'.2 ι' a' w'→K a' w'):wpOp P ops Q i K a w:=
 step1_real hG hrel (n0:=n) (i:=i) (by omega) (jdn h n) fun ι' a' w' hι hr=>
  hK ι' a' w' hι ⟨hr.tmps,hr.defers,hr.mem,jfd hrel.wf h⟩
theorem Fix.stepv{t0:Tmps}(h:Fix ops t0 t){i:Nat}{s':Tmps×Lk}(hs:jcs P G ops nt i (t,m)=some s'):Fix ops t0 s'.1:=h.step (n0:=0) (jdn hs 0)
theorem binR_noNew{e:Operand→Value}{op:BinOp}{ty:TypeId}{x y:Operand}{c:Bool}{r:Res}(h:binR P o e op ty x y=some (c,r)):jhm r=true:=by
 have _:=tbs;unfold binR jbc at h
 repeat' split at h
 all_goals first | (cases h;rfl) | (simp only[Option.some.injEq,Prod.mk.injEq]at h;obtain⟨_,rfl⟩:=h;rfl) | cases h
theorem generic_noNew{e:Operand→Value}{c:Bool}{r:Res}(h:jbc P o e=some (c,r)):jhm r=true:=by
 have _:=tbs;unfold jbc at h
 repeat' split at h
 all_goals first | (cases h;rfl) | cases h
theorem loadB_noNew{ty:TypeId}{b:Blk}{off sp:Nat}{c:Bool}{r:Res}(h:jfj P ty b off sp=some (c,r)):jhm r=true:=by
 have _:=tbs;unfold jfj at h
 repeat' split at h
 all_goals first | (cases h;rfl) | cases h
theorem callR_noNew{e:Operand→Value}{q:Call}{c:Bool}{r:Res}(h:ji0 P G o e m q=some (c,r)):jhm r=true:=by
 have _:=tbs;unfold ji0 jbc at h
 repeat' split at h
 all_goals first | (cases h;rfl) | (simp only[Option.some.injEq,Prod.mk.injEq]at h;obtain⟨_,rfl⟩:=h;rfl) | cases h
def jh8(o:Oper):Bool:=match o.op with
 | .alloc _ | .box _ _ | .buildSlice _ _ _ | .range _ _=>true
 | _=>false
theorem tabLoad_noNew{P:Program}{t:TypeId}{v:Value}{c:Bool}{r:Res}(h:jgg P t v=some (c,r)):jhm r=true:=by
 unfold jgg at h;split at h
 ·split at h
  ·split at h
   ·cases h
   split at h
   ·rename_i hl;cases h;exact loadB_noNew hl
   ·cases h
  ·split at h
   ·exact loadB_noNew h
   ·cases h
 ·cases h
theorem aop_noNew{e:Operand→Value}{c:Bool}{r:Res}(hn:jh8 o=false)(h:aop P G o e m=some (c,r)):jhm r=true:=by
 unfold aop at h;unfold jh8 at hn;split at h
 all_goals first
  | exact generic_noNew h
  | exact binR_noNew h
  | exact callR_noNew h
  | (rename_i hop;simp only[hop]at hn;cases hn;done)
  | skip
 all_goals try unfold jdj at h
 all_goals try unfold jha at h
 all_goals try unfold jh5 at h
 all_goals try unfold jj0 at h
 all_goals try unfold jc0 at h
 all_goals try unfold jgi at h
 all_goals try unfold jio at h
 all_goals repeat' split at h
 all_goals first | (cases h;rfl) | (simp only[Option.some.injEq,Prod.mk.injEq]at h;obtain⟨_,rfl⟩:=h;rfl) | exact generic_noNew h | exact loadB_noNew h | exact tabLoad_noNew h | cases h
theorem step1_step1v{n0 i:Nat}{s s':Tmps×Lk}(hi:ops[i]?=some o)(hn:jh8 o=false)(h:jdl P G ops nt n0 i s=some s'):jcs P G ops nt i s=some s':=by
 unfold jdl at h;unfold jcs;simp only[hi]at h ⊢;split at h
 ·rename_i hw;simp only[hw];split at h
  ·rename_i r hok hr;have hnn:=aop_noNew hn hr;simp only[hok,hr,hnn];cases h;rw[(noNew_res hnn (n0+i) 0 s.2).1,(noNew_res hnn (n0+i) 0 s.2).2]
  ·cases h
 ·rename_i hw;simp only[hw];exact h
theorem swapv{t0:Tmps}(hfix:Fix ops t0 t){i j:Nat}{oi oj:Oper}(hi:ops[i]?=some oi)(hj:ops[j]?=some oj)(hni:jh8 oi=false)(hnj:jh8 oj=false)(hne:i≠j)(hap:oi.apart ops oj=true)(hma:memD ops t0 oi oj=true)
  (hwf:WF (· <n) nt t m) {si sij:Tmps×Lk} (h1:jcs P G ops nt i (t,m)=some si) (h2:jcs P G ops nt j si=some sij):
  ∃sj,jcs P G ops nt j (t,m)=some sj∧jcs P G ops nt i sj=some sij:=by
 obtain⟨sj,g1,g2⟩:=swap hfix hi hj hne hap hma hwf (n0:=n) (by omega) (by omega) (jdn h1 n) (jdn h2 n);exact⟨sj,step1_step1v hj hnj g1,step1_step1v hi hni g2⟩
def detS(G:Env)(o:Oper):Bool:= !jh8 o&&match o.op with
 | .call c=>match c.callee with
  | .value (.func f)=>match G f with
   | some (.pure _)=>true
   | _=>false
  | .builtin _=>true
  | _=>false
 | _=>true
def ji3(P:Program)(G:Env)(ops:Array Oper)(nt i:Nat)(t:Tmps)(m:Lk)(n:Nat)(K:Tmps→Lk→Nat→Prop):Prop:=match ops[i]? with
 | none=>False
 | some o=>match detS G o with
  | true=>∃s',jcs P G ops nt i (t,m)=some s'∧K s'.1 s'.2 n
  | false=>∃K0,opR P G ops nt false o t m n K0∧ ∀t' m' n',K0 t' m' n'→WF (· <n') nt t' m'→K t' m' n'
def GAny(P:Program)(G:Env)(ops:Array Oper)(nt:Nat)(K:Tmps→Lk→Nat→Prop):Nat→Array Bool→Tmps→Lk→Nat→Prop
 | 0,listed,t,m,n=>Region.ready .any ops listed=[]∧K t m n
 | fuel+1,listed,t,m,n=>
  (Region.ready .any ops listed=[]→K t m n)∧
  ∀i∈Region.ready .any ops listed,ji3 P G ops nt i t m n (GAny P G ops nt K fuel (listed.setIfInBounds i true))
theorem jdd(hG:jao P G){n0:Nat}{ι0:Nm}{K:Tmps→Lk→Nat→Prop}{Q:Exit→Act→World→Prop}
  (hK:∀t m n ι a w,K t m n→n0≤n→(∀k,k<n0→ι k=ι0 k)→RelS N w0 (· <n) nt t m ι a w→Q .normal a w):
  ∀(fuel:Nat)(listed:Array Bool)(t:Tmps)(m:Lk)(n:Nat)(ι:Nm)(a:Act)(w:World),n0≤n→(∀k,k<n0→ι k=ι0 k)→RelS N w0 (· <n) nt t m ι a w→
   GAny P G ops nt K fuel listed t m n→wpAny P .any ops Q fuel listed a w
 | 0,listed,t,m,n,ι,a,w,hn,hι,hrel,h=>⟨h.1,hK t m n ι a w h.2 hn hι hrel⟩
 | fuel+1,listed,t,m,n,ι,a,w,hn,hι,hrel,h=>by
  refine⟨fun h0=>hK t m n ι a w (h.1 h0) hn hι hrel,fun i hi=> ?_⟩;have hs:=h.2 i hi;unfold ji3 at hs;split at hs
  ·exact hs.elim
  ·rename_i o ho;split at hs
   ·obtain⟨s',hs',hrest⟩:=hs
    exact step1v_real hG.1 hrel hs' fun ι' a' w' hι' hrel'=>
     jdd hG hK fuel _ s'.1 s'.2 n ι' a' w' hn (fun k hk=>(hι' k (by omega)).trans (hι k hk)) hrel' hrest
   ·obtain⟨K0,hs,himp⟩:=hs
    exact jhk hG ho hrel hs fun t' m' n' ι' a' w' hk hn' hι' hrel'=>
     jdd hG hK fuel _ t' m' n' ι' a' w' (by omega) (fun k hk=>(hι' k (by omega)).trans (hι k hk)) hrel' (himp _ _ _ hk hrel'.wf)
def jf0(ops:Array Oper)(i:Nat):Nat→Nat→Bool
 | 0,_=>false
 | f+1,j=>match ops[j]? with
  | some oj=>oj.after.any fun e=>Region.binds .any e&& (e.on==i || jf0 ops i f e.on)
  | none=>false
def DC(ops:Array Oper)(listed:Array Bool):Prop:=∀j oj,ops[j]?=some oj→listed.getD j false=true→ ∀e∈oj.after,Region.binds .any e=true→listed.getD e.on false=true
theorem DC_waits{listed:Array Bool}{i:Nat}(hdc:DC ops listed):∀(f j:Nat),jf0 ops i f j=true→(∀oj,ops[j]?=some oj→ ∀e∈oj.after,Region.binds .any e=true→listed.getD e.on false=true)→listed.getD i false=true
 | 0,_,h,_=>by have _:=tbs;cases h
 | f+1,j,h,hall=>by
  simp only[jf0]at h;split at h
  ·rename_i oj hoj;obtain⟨e,he,hb⟩:=Array.any_eq_true'.1 h;simp only[jaf,Bool.or_eq_true,beq_iff_eq]at hb;have h1:=hall oj hoj e he hb.1;rcases hb.2 with h2 | h2
   ·rw[←h2];exact h1
   ·exact DC_waits hdc f e.on h2 fun ok hok=>hdc e.on ok hok h1
  ·cases h
def jka(G:Env)(ops:Array Oper)(t0:Tmps)(listed:Array Bool)(i:Nat):Bool:=
 match ops[i]? with
 | none=>false
 | some oi => detS G oi && (List.range ops.size).all fun j => j == i || listed.getD j true || jf0 ops i ops.size j || match ops[j]? with
   | some oj=>detS G oj&&oi.apart ops oj&&memD ops t0 oi oj
   | none=>true
theorem detS_new{o:Oper}(h:detS G o=true):jh8 o=false:=by
 have _:=tbs;unfold detS at h;simp only[jaf,Bool.not_eq_true']at h;exact h.1
theorem GAny_first{t0:Tmps}{K:Tmps→Lk→Nat→Prop}{i:Nat}{oi:Oper}(hi:ops[i]?=some oi)(hdi:detS G oi=true):
  ∀(fuel:Nat)(listed:Array Bool)(t:Tmps)(m:Lk)(n:Nat)(si:Tmps×Lk),listed.size=ops.size→DC ops listed→
   (∀j oj,ops[j]?=some oj→j≠i→listed.getD j true=false→jf0 ops i ops.size j=false→detS G oj=true∧oi.apart ops oj=true∧memD ops t0 oi oj=true)→Fix ops t0 t→
   WF (· <n) nt t m→i∈Region.ready .any ops listed→jcs P G ops nt i (t,m)=some si→
   GAny P G ops nt K fuel (listed.setIfInBounds i true) si.1 si.2 n→GAny P G ops nt K (fuel+1) listed t m n:=by
 have hgi:∀{t m n s'}{K':Tmps→Lk→Nat→Prop},jcs P G ops nt i (t,m)=some s'→K' s'.1 s'.2 n→ji3 P G ops nt i t m n K':=fun{t m n s' K'} h1 h2=>by
  simp only[ji3,hi,hdi];exact⟨s',h1,h2⟩
 intro fuel
 induction fuel with
 | zero=>
  intro listed t m n si hsz hdc hfree hfix hwf hr hy H;refine⟨fun h=>(by rw[h]at hr;cases hr),fun j hj=> ?_⟩;by_cases hji:j=i
  ·subst hji;exact hgi hy H
  ·have:=ready_mono hj hji;rw[H.1]at this;cases this
 | succ fuel ih=>
  intro listed t m n si hsz hdc hfree hfix hwf hr hy H;refine⟨fun h=>(by rw[h]at hr;cases hr),fun j hj=> ?_⟩;by_cases hji:j=i
  ·subst hji;exact hgi hy H
  ·have hG':=H.2 j (ready_mono hj hji);obtain⟨hjun,oj,hoj,hall⟩:=mem_ready.1 hj;have hiun:=(mem_ready.1 hr).1
   have hnw:jf0 ops i ops.size j=false:=by
    cases hw:jf0 ops i ops.size j
    ·rfl
    ·have:=DC_waits hdc ops.size j hw fun ok hok=>by rw[hoj]at hok;cases hok;exact hall
     rcases Nat.lt_or_ge i listed.size with h' | h'
     ·simp[h']at hiun this;rw[hiun]at this;cases this
     ·simp[Array.getElem?_eq_none h']at hiun
   obtain⟨hdj,hap,hma⟩:=hfree j oj hoj hji hjun hnw;unfold ji3 at hG';simp only[hoj,hdj]at hG';obtain⟨sij,h1,h1'⟩:=hG';obtain⟨sj,h2,h3⟩:=swapv hfix hi hoj (detS_new hdi) (detS_new hdj) (Ne.symm hji) hap hma hwf hy h1;simp only[ji3,hoj,hdj];refine⟨sj,h2,?_⟩
   have hdc':DC ops (listed.setIfInBounds j true):=fun k ok hok hk e he hb=>by
    by_cases hjk:k=j
    ·subst hjk;rw[hoj]at hok;cases hok;exact getD_set_true (hall e he hb)
    ·have:listed.getD k false=true:=by rw[getD_set_ne false (Ne.symm hjk)]at hk;exact hk
     exact getD_set_true (hdc k ok hok this e he hb)
   refine ih (listed.setIfInBounds j true) sj.1 sj.2 n sij (by simpa using hsz) hdc' (fun k ok hk hki hun hno=> ?_) (hfix.stepv h2) (jfd hwf h2) (ready_mono hr (Ne.symm hji)) h3 ?_
   ·refine hfree k ok hk hki ?_ hno;by_cases hjk:j=k
    ·subst hjk;exact hjun
    ·rw[getD_set_ne true hjk]at hun;exact hun
   ·rw[Array.setIfInBounds_comm _ _ hji];exact h1'
theorem DC_set{listed:Array Bool}{i:Nat}(hdc:DC ops listed)(hr:i∈Region.ready .any ops listed):DC ops (listed.setIfInBounds i true):=have _:=tbs;fun k ok hok hk e he hb=>by
 obtain⟨_,oi,hoi,hall⟩:=mem_ready.1 hr;by_cases hjk:k=i
 ·subst hjk;rw[hoi]at hok;cases hok;exact getD_set_true (hall e he hb)
 ·have:listed.getD k false=true:=by rw[getD_set_ne false (Ne.symm hjk)]at hk;exact hk
  exact getD_set_true (hdc k ok hok this e he hb)
theorem freeG_spec{t0:Tmps}{i:Nat}{oi:Oper}{listed:Array Bool}(hi:ops[i]?=some oi)(h:jka G ops t0 listed i=true):detS G oi=true∧ ∀(j:Nat)(oj:Oper),
  ops[j]?=some oj→j≠i→listed.getD j true=false→jf0 ops i ops.size j=false→detS G oj=true∧oi.apart ops oj=true∧memD ops t0 oi oj=true:=by
 have _:=tbs;simp only[jka,hi,jaf,List.all_eq_true,List.mem_range]at h;refine⟨h.1,fun j oj hj hne hun hnw=> ?_⟩;have h1:=h.2 j (Array.getElem?_eq_some_iff.1 hj).1;simp only[hj,Bool.or_eq_true,beq_iff_eq,hne,false_or,hun,Bool.false_eq_true,jaf,hnw]at h1;exact⟨h1.1.1,h1.1.2,h1.2⟩
end
section
variable (P : Program) (G : Env)
def jjy(nt:Nat)(o:Oper)(t:Tmps)(m:Lk)(K:Tmps→Lk→Prop):Prop:=
 match jbq nt o with
 | false=>False
 | true=>match aop P G o (ev t) m with
  | some (c,r)=>match jhm r with
   | true=>match c with
    | true=>K (tput t o.dst (resV 0 r)) (jcq 0 r m)
    | false=>False
   | false=>False
  | none=>False
def opRV(ops:Array Oper)(nt:Nat)(o:Oper)(t:Tmps)(m:Lk)(K:Tmps→Lk→Prop):Prop:=
 match o.guard with
 | none=>jjy P G nt o t m K
 | some (j,want)=>match (ops[j]?).bind (·.dst)with
  | some d=>match Nat.blt d nt with
   | true=>match t d with
    | .bool b=>match b with
     | true=>match want with
      | true=>jjy P G nt o (tput t (some d) (.bool true)) m K
      | false=>K (tput (tput t (some d) (.bool true)) o.dst undef) m
     | false=>match want with
      | false=>jjy P G nt o (tput t (some d) (.bool false)) m K
      | true=>K (tput (tput t (some d) (.bool false)) o.dst undef) m
    | _=>K (tput t o.dst undef) m
   | false=>False
  | none=>False
def allP:List Nat→(Nat→Prop)→Prop
 | [],_=>True
 | [i],p=>p i
 | i::j::r,p=>p i∧allP (j::r) p
def anyG(ops:Array Oper)(nt:Nat)(K:Tmps→Lk→Nat→Prop):Nat→Array Bool→Tmps→Lk→Nat→Prop
 | 0,listed,t,m,n=>match Region.ready .any ops listed with
  | []=>K t m n
  | _::_=>False
 | fuel+1,listed,t,m,n=>match Region.ready .any ops listed with
  | []=>K t m n
  | i0::l=>match (i0::l).find? (jka G ops t listed)with
   | some i=>match ops[i]? with
    | some o=>opRV P G ops nt o t m fun t m=>anyG ops nt K fuel (listed.setIfInBounds i true) t m n
    | none=>False
   | none=>allP (i0::l) fun i=>match ops[i]? with
    | some o=>match detS G o with
     | true=>opRV P G ops nt o t m fun t m=>anyG ops nt K fuel (listed.setIfInBounds i true) t m n
     | false=>opR P G ops nt false o t m n (anyG ops nt K fuel (listed.setIfInBounds i true))
    | none=>False
end
section
variable {P : Program} {G : Env} {ops : Array Oper} {nt n : Nat} {N : Nat} {w0 : World} {t : Tmps} {m : Lk} {ι : Nm} {a : Act} {w : World} {o : Oper}
theorem jgp{k:Nat}(hk:ops[k]?=some o){K:Tmps→Lk→Prop}(h:opRV P G ops nt o t m K):∃s',jcs P G ops nt k (t,m)=some s'∧K s'.1 s'.2:=by
 have hdo:∀{t},jbb ops nt t o=true→jjy P G nt o t m K→ ∃s',jcs P G ops nt k (t,m)=some s'∧K s'.1 s'.2:=fun{t} hw h=>by
  unfold jjy at h;split at h
  ·exact h.elim
  ·rename_i hok;split at h
   ·rename_i c r hr;split at h
    ·rename_i hn;split at h
     ·exact⟨(tput t o.dst (resV 0 r),jcq 0 r m),by simp only[jcs,hk,hw,hok,hr,hn],h⟩
     ·exact h.elim
    ·exact h.elim
   ·exact h.elim
 have hskip:∀{t},jbb ops nt t o=false→K (tput t o.dst undef) m→ ∃s',jcs P G ops nt k (t,m)=some s'∧K s'.1 s'.2:=fun{t} hw h=>
  ⟨(tput t o.dst undef,m),by simp only[jcs,hk,hw],h⟩
 unfold opRV at h;split at h
 ·rename_i hg;exact hdo (by simp only[jbb,hg]) h
 ·rename_i j want hg;split at h
  ·rename_i d hd;split at h
   ·rename_i hlt;split at h
    ·rename_i b hb;split at h
     ·rw[jb8 hb]at h;split at h
      ·exact hdo (by simp only[jbb,hg,hd,hlt,hb];rfl) h
      ·exact hskip (by simp only[jbb,hg,hd,hlt,hb];rfl) h
     ·rw[jb8 hb]at h;split at h
      ·exact hdo (by simp only[jbb,hg,hd,hlt,hb];rfl) h
      ·exact hskip (by simp only[jbb,hg,hd,hlt,hb];rfl) h
    ·rename_i hb;exact hskip (wantedA_other hg hd hlt hb) h
   ·exact h.elim
  ·exact h.elim
theorem allP_mem{p:Nat→Prop}:∀{l:List Nat},allP l p→ ∀i∈l,p i
 | [],_,_,h=>by have _:=tbs;cases h
 | [j],h,i,hi=>by simp only[List.mem_singleton]at hi;subst hi;exact h
 | j::k::r,h,i,hi=>by
  rcases List.mem_cons.1 hi with rfl | hi
  ·exact h.1
  ·exact allP_mem h.2 i hi
theorem jd3{K:Tmps→Lk→Nat→Prop}:∀(fuel:Nat)(listed:Array Bool)(t:Tmps)(m:Lk)(n:Nat),listed.size=ops.size→DC ops listed→WF (· <n) nt t m→anyG P G ops nt K fuel listed t m n→
  GAny P G ops nt K fuel listed t m n
 | 0,listed,t,m,n,_,_,_,h=>by
  simp only[anyG]at h;cases h0:Region.ready .any ops listed with
  | nil=>rw[h0]at h;exact⟨h0,h⟩
  | cons i l=>rw[h0]at h;exact h.elim
 | fuel+1,listed,t,m,n,hsz,hdc,hwf,h=>by
  simp only[anyG]at h;split at h
  ·rename_i h0;exact⟨fun _=>h,fun i hi=>(by rw[h0]at hi;cases hi)⟩
  ·rename_i i0 l h0;split at h
   ·rename_i i hfind;have hi:i∈Region.ready .any ops listed:=h0▸List.mem_of_find?_eq_some hfind;have hfree:=List.find?_some hfind;split at h
    ·rename_i o ho;obtain⟨s',hs,hrest⟩:=jgp ho h;obtain⟨hd,hall⟩:=freeG_spec ho hfree
     exact GAny_first (t0:=t) ho hd fuel listed t m n s' hsz hdc hall (Fix.refl t) hwf hi hs
      (jd3 fuel _ s'.1 s'.2 n (by simpa using hsz) (DC_set hdc hi) (jfd hwf hs) hrest)
    ·exact h.elim
   ·refine⟨fun h1=>(by rw[h0]at h1;cases h1),fun i hi=> ?_⟩;have hp:=allP_mem h i (h0▸hi);unfold ji3;split at hp
    ·rename_i o ho;simp only[ho];split at hp
     ·rename_i hd
      try simp only[hd]
      obtain⟨s',hs,hrest⟩:=jgp ho hp;exact⟨s',hs,jd3 fuel _ s'.1 s'.2 n (by simpa using hsz) (DC_set hdc hi) (jfd hwf hs) hrest⟩
     ·rename_i hd
      try simp only[hd]
      exact⟨_,hp,fun t' m' n' hk hwf'=>jd3 fuel _ t' m' n' (by simpa using hsz) (DC_set hdc hi) hwf' hk⟩
    ·exact hp.elim
theorem jet(hG:jao P G)(hm:P.follows .mixedOrders=true){id:Nat}{K:Tmps→Lk→Nat→Prop}(h:anyG P G ops nt K ops.size (Array.replicate ops.size false) t m n)
  {Q:Exit→Act→World→Prop} (hrel:RelS N w0 (· <n) nt t m ι a w)
  (hQ:∀t' m' n' ι' a' w',K t' m' n'→n≤n'→(∀k,k<n→ι' k=ι k)→RelS N w0 (· <n') nt t' m' ι' a' w'→Q .normal a' w'):(Code.region id ops true).wp P Q a w:=by
 refine wp_region_any hm ?_
 have hgetD:∀d,(Array.replicate ops.size false).getD d false=false:=fun d=>by
  rcases Nat.lt_or_ge d ops.size with hlt | hge
  ·simp[hlt]
  ·simp[Array.getElem?_eq_none,hge]
 have hrel':RelS N w0 (· <n) nt t m ι a {w with drawn:=w.drawn+1}:=
  ⟨hrel.tmps,hrel.defers,⟨hrel.mem.below.drew,hrel.mem.base,hrel.mem.blk,hrel.mem.view,hrel.mem.inj⟩,hrel.wf⟩
 exact jdd hG (n0:=n) (ι0:=ι) (fun t' m' n' ι' a' w' hk hn hι hr=>hQ t' m' n' ι' a' w' hk hn hι hr) ops.size _ t m n ι a _ (Nat.le_refl n) (fun _ _=>rfl) hrel'
  (jd3 ops.size _ t m n (by simp) (fun j oj _ hl=>by rw[hgetD]at hl;cases hl) hrel.wf h)
def jjb(G:Env)(ops:Array Oper):Bool:=ops.toList.any fun o=>match o.op with
 | .call c=>match c.callee with
  | .value (.func f)=>match G f with
   | some (.pure _)=>false
   | _=>true
  | .builtin _=>false
  | _=>true
 | _=>false
end
section
variable (P : Program) (G : Env)
abbrev jbr:=Tmps→Lk→Nat→(Exit→Tmps→Lk→Nat→Prop)→Prop
def jjx(body:jbr):Nat→jbr
 | 0=>fun _ _ _ _=>False
 | q+1=>fun t m n K=>body t m n fun e t m n=>match e with
  | .normal=>jjx body q t m n K
  | e=>K e t m n
def jf7(L:Nat→Option jbr)(nt:Nat):Code→Tmps→Lk→Nat→(Exit→Tmps→Lk→Nat→Prop)→Prop
 | .skip,t,m,n,K=>K .normal t m n
 | .label _,t,m,n,K=>K .normal t m n
 | .region _ ops d,t,m,n,K=>match d with
  | false=>opsR P G ops nt false ops.toList t m n (K .normal)
  | true=>match jjb G ops with
   | true=>anyG P G ops nt (K .normal) ops.size (Array.replicate ops.size false) t m n
   | false=>match lexA ops t with
    | true=>opsR P G ops nt true ops.toList t m n (K .normal)
    | false=>False
 | .seq a b,t,m,n,K=>jf7 L nt a t m n fun e t m n=>match e with
  | .normal=>jf7 L nt b t m n K
  | e=>K e t m n
 | .cond c x y,t,m,n,K=>match opOk nt c with
  | false=>False
  | true=>match ev t c with
   | .bool b=>match b with
    | true=>jf7 L nt x (setC c t true) m n K
    | false=>jf7 L nt y (setC c t false) m n K
   | _=>False
 | .block id b,t,m,n,K=>(match L id with | some h=>h | none=>jf7 L nt b) t m n fun e t m n=>match e with
  | .exit id'=>match Nat.beq id' id with
   | true=>K .normal t m n
   | false=>K (.exit id') t m n
  | e=>K e t m n
 | .loop b,t,m,n,K=>jjx (jf7 L nt b) 64 t m n K
 | .scope b,t,m,n,K=>jf7 L nt b t m n fun e t m n=>match e with
  | .goto _=>False
  | e=>K e t m n
 | .exit id,t,m,n,K=>K (.exit id) t m n
 | .ret,t,m,n,K=>K .ret t m n
 | _,_,_,_,_=>False
def jbv:Code→Bool
 | .region _ _ _=>true
 | .seq a b | .cond _ a b | .rangeFunc _ _ a b=>jbv a&&jbv b
 | .block _ b | .loop b | .scope b=>jbv b
 | _=>true
def Sem(nt:Nat)(c:Code)(t:Tmps)(m:Lk)(n:Nat)(K:Exit→Tmps→Lk→Nat→Prop):Prop:=
 ∀(N:Nat)(w0:World)(ι:Nm)(a:Act)(w:World),RelS N w0 (· <n) nt t m ι a w→ ∀Q:Exit→Act→World→Prop,
  (∀e t' m' n' ι' a' w',K e t' m' n'→n≤n'→(∀k,k<n→ι' k=ι k)→RelS N w0 (· <n') nt t' m' ι' a' w'→Q e a' w')→c.wp P Q a w
def LOK(L:Nat→Option jbr)(nt:Nat):Code→Prop
 | .seq a b | .cond _ a b=>LOK L nt a∧LOK L nt b
 | .block id b=>(match L id with | some h=>∀t m n K,h t m n K→Sem P nt b t m n K | none=>LOK L nt b)
 | .loop b | .scope b=>LOK L nt b
 | _=>True
end
section
variable {P : Program} {G : Env} {ops : Array Oper} {nt n : Nat} {N : Nat} {w0 : World} {t : Tmps} {m : Lk} {ι : Nm} {a : Act} {w : World} {o : Oper}
def jg2(P:Program)(c:Code)(Q:Exit→Act→World→Prop)(a:Act)(w:World):Prop:=
 ∀(b:Frame)(k:List Item)(cs:List Frame),∃e a' w',Q e a' w'∧Arrives P (lone (b.at a (.code c:: .inLoop c::k)) cs w) b k cs e a' w'
theorem inLoop_loop{c:Code}{Q:Exit→Act→World→Prop}(h:jg2 P c Q a w):(Code.loop c).wp P Q a w:=have _:=tbs;
 fun b k cs=>let ⟨e,a',w',q,r⟩:=h b k cs;⟨e,a',w',q,.of_steps (.one step_loop) r⟩
theorem inLoop_step{c:Code}{Q:Exit→Act→World→Prop}(h:c.wp P (Exit.then (jg2 P c Q) Q) a w):jg2 P c Q a w:=by
 have _:=tbs;intro b k cs;obtain⟨e,a₁,w₁,hq,harr⟩:=h b (.inLoop c::k) cs;cases e with
 | normal=>
  obtain⟨e₂,a₂,w₂,hq₂,harr₂⟩:=hq b k cs;exact⟨e₂,a₂,w₂,hq₂,.of_steps (Steps.trans harr (.one step_inLoop)) harr₂⟩
 | exit id=>exact⟨_,a₁,w₁,hq,.pass (x:= .inLoop c) rfl (fun _ _=> .inl (by simp)) harr⟩
 | goto l=>exact⟨_,a₁,w₁,hq,.pass (x:= .inLoop c) rfl (fun _ _=> .inl (by simp)) harr⟩
 | ret=>exact⟨_,a₁,w₁,hq,.pass (x:= .inLoop c) rfl (fun _ _=> .inl (by simp)) harr⟩
 | panic ch=>exact⟨_,a₁,w₁,hq,.pass (x:= .inLoop c) rfl (fun _ _=> .inl (by simp)) harr⟩
 | outgrown=>exact⟨_,a₁,w₁,hq,.pass (x:= .inLoop c) rfl (fun _ _=> .inl (by simp)) harr⟩
theorem je7{c:Code}{body:jbr}(hb:∀t m n K,body t m n K→Sem P nt c t m n K):∀(q:Nat)(t:Tmps)(m:Lk)(n:Nat)(K:Exit→Tmps→Lk→Nat→Prop),jjx body q t m n K→
  ∀(N:Nat)(w0:World)(ι:Nm)(a:Act)(w:World),RelS N w0 (· <n) nt t m ι a w→ ∀Q:Exit→Act→World→Prop,
   (∀e t' m' n' ι' a' w',K e t' m' n'→n≤n'→(∀k,k<n→ι' k=ι k)→RelS N w0 (· <n') nt t' m' ι' a' w'→Q e a' w')→jg2 P c Q a w
 | 0,_,_,_,_,h=>h.elim
 | q+1,t,m,n,K,h=>fun N w0 ι a w hrel Q hQ=>by
  simp only[jjx]at h;refine inLoop_step (hb t m n _ h N w0 ι a w hrel _ fun e t' m' n' ι' a' w' hk hn hι hr=> ?_);cases e with
  | normal=>exact je7 hb q t' m' n' K hk N w0 ι' a' w' hr Q fun e t2 m2 n2 ι2 a2 w2 hk2 hn2 hι2 hr2=>hQ e t2 m2 n2 ι2 a2 w2 hk2 (by omega) (fun k hk=>(hι2 k (by omega)).trans (hι k hk)) hr2
  | _=>exact hQ _ t' m' n' ι' a' w' hk hn hι hr
theorem jco(hG:jao P G)(hm:P.follows .mixedOrders=true){L:Nat→Option jbr}:∀(c:Code)(t:Tmps)(m:Lk)(n:Nat)(K:Exit→Tmps→Lk→Nat→Prop),jbv c=true→LOK P L nt c→jf7 P G L nt c t m n K→Sem P nt c t m n K
 | .skip,t,m,n,K,_,_,h=>fun N w0 ι a w hrel Q hQ=>wp_skip (hQ _ t m n ι a w h (Nat.le_refl _) (fun _ _=>rfl) hrel)
 | .label _,t,m,n,K,_,_,h=>fun N w0 ι a w hrel Q hQ=>wp_label (hQ _ t m n ι a w h (Nat.le_refl _) (fun _ _=>rfl) hrel)
 | .exit id,t,m,n,K,_,_,h=>fun N w0 ι a w hrel Q hQ=>wp_exit (hQ _ t m n ι a w h (Nat.le_refl _) (fun _ _=>rfl) hrel)
 | .ret,t,m,n,K,_,_,h=>fun N w0 ι a w hrel Q hQ=>wp_ret (hQ _ t m n ι a w h (Nat.le_refl _) (fun _ _=>rfl) hrel)
 | .region id ops d,t,m,n,K,hl,_,h=>fun N w0 ι a w hrel Q hQ=>by
  simp only[jf7]at h;split at h
  ·exact jct hG hm rfl h hrel fun t' m' n' ι' a' w' hk hn hι hr=>hQ _ t' m' n' ι' a' w' hk hn hι hr
  ·split at h
   ·exact jet hG hm h hrel fun t' m' n' ι' a' w' hk hn hι hr=>hQ _ t' m' n' ι' a' w' hk hn hι hr
   ·split at h
    ·rename_i hB;exact jct hG hm (by simp[hB]) h hrel fun t' m' n' ι' a' w' hk hn hι hr=>hQ _ t' m' n' ι' a' w' hk hn hι hr
    ·exact h.elim
 | .seq x y,t,m,n,K,hl,hL,h=>fun N w0 ι a w hrel Q hQ=>by
  simp only[jbv,jaf]at hl;refine wp_seq (jco hG hm x t m n _ hl.1 hL.1 h N w0 ι a w hrel _ fun e t' m' n' ι' a' w' hk hn hι hr=> ?_);cases e with
  | normal=>exact jco hG hm y t' m' n' K hl.2 hL.2 hk N w0 ι' a' w' hr Q fun e t2 m2 n2 ι2 a2 w2 hk2 hn2 hι2 hr2=>hQ e t2 m2 n2 ι2 a2 w2 hk2 (by omega) (fun k hk=>(hι2 k (by omega)).trans (hι k hk)) hr2
  | _=>exact hQ _ t' m' n' ι' a' w' hk hn hι hr
 | .cond c x y,t,m,n,K,hl,hL,h=>fun N w0 ι a w hrel Q hQ=>by
  simp only[jbv,jaf]at hl;simp only[jf7]at h;split at h
  ·exact h.elim
  ·rename_i hok;have he:=hrel.eval hok;split at h
   ·rename_i b hb
    have hself:∀b',ev t c= .bool b'→setC c t b'=t:=fun b' hb'=>by
     cases c with
     | tmp d=>exact jb8 hb'
     | _=>rfl
    rw[hb]at he;split at h
    ·rw[hself _ hb]at h;exact wp_cond (t:=true) (by rw[he];rfl) (jco hG hm x t m n K hl.1 hL.1 h N w0 ι a w hrel Q hQ)
    ·rw[hself _ hb]at h;exact wp_cond (t:=false) (by rw[he];rfl) (jco hG hm y t m n K hl.2 hL.2 h N w0 ι a w hrel Q hQ)
   ·exact h.elim
 | .block id b,t,m,n,K,hl,hL,h=>fun N w0 ι a w hrel Q hQ=>by
  have hfin:Sem P nt b t m n (fun e t m n=>match e with
    | .exit id'=>match Nat.beq id' id with
     | true=>K .normal t m n
     | false=>K (.exit id') t m n
    | e=>K e t m n):=by
   simp only[jf7]at h;simp only[LOK]at hL;cases hLi:L id with
   | some hh=>rw[hLi]at h hL;exact hL t m n _ h
   | none=>rw[hLi]at h hL;exact jco hG hm b t m n _ (by simpa[jbv]using hl) hL h
  refine wp_block (hfin N w0 ι a w hrel _ fun e t' m' n' ι' a' w' hk hn hι hr=> ?_);cases e with
  | exit id'=>
   simp only[Exit.inBlock];by_cases hid:id'=id
   ·subst hid;simp only[Nat.beq_refl]at hk;simp only[if_true];exact hQ _ t' m' n' ι' a' w' hk hn hι hr
   ·have:Nat.beq id' id=false:=by
     cases hb:Nat.beq id' id
     ·rfl
     ·exact absurd (jah hb) hid
    simp only[this]at hk;rw[if_neg hid];exact hQ _ t' m' n' ι' a' w' hk hn hι hr
  | _=>exact hQ _ t' m' n' ι' a' w' hk hn hι hr
 | .loop b,t,m,n,K,hl,hL,h=>fun N w0 ι a w hrel Q hQ=>
  inLoop_loop (je7 (fun t m n K hb=>jco hG hm b t m n K (by simpa[jbv]using hl) hL hb) 64 t m n K h N w0 ι a w hrel Q hQ)
 | .scope b,t,m,n,K,hl,hL,h=>fun N w0 ι a w hrel Q hQ=>by
  refine wp_scope_straight (jco hG hm b t m n _ (by simpa[jbv]using hl) hL h N w0 ι a w hrel _ fun e t' m' n' ι' a' w' hk hn hι hr=> ?_);cases e with
  | goto l=>exact hk.elim
  | _=>exact hQ _ t' m' n' ι' a' w' hk hn hι hr
 | .rangeFunc ..,_,_,_,_,_,_,h=>h.elim
 | .goto ..,_,_,_,_,_,_,h=>h.elim
 | .refuse ..,_,_,_,_,_,_,h=>h.elim
end
end Go.Ab
