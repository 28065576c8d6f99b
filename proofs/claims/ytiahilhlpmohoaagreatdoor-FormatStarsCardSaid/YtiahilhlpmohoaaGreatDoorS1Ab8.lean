/-
  Ab8: the run and laws.
-/
import Derived.Test.YtiahilhlpmohoaaGreatDoorS1AbE
import Derived.Scope
set_option linter.unusedVariables false
set_option linter.unusedSimpArgs false
set_option linter.unusedSectionVars false
noncomputable section
namespace Go.Ab
open Go Go.RowKit
variable [Tabs]
def jcw(P:Program)(f:FuncId)(h:J→Lk→Nat→(Value→Lk→Nat→Prop)→Prop):Prop:=
 jbt P f∧ ∀(args:J)(m:Lk)(n:Nat)(K:Value→Lk→Nat→Prop),h args m n K→ ∀(N:Nat)(w0:World)(ι:Nm)(w:World),RelM N w0 m ι w→
  (∀k b,m k=some b→k<n∧ ∀j∈idsL b.c,j<n)→(∀v∈args,∀j∈ids v,j<n)→
  Calls P f (args.map (ren ι)).toArray w fun e w'=>∃v m' n' ι',e= .returned (ren ι' v)∧K v m' n'∧n≤n'∧(∀k,k<n→ι' k=ι k)∧RelM N w0 m' ι' w'∧
   (∀k b,m' k=some b→k<n'∧ ∀j∈idsL b.c,j<n')∧ ∀j∈ids v,j<n'
def ja3(P:Program)(G:Env):Prop:=jfq P G∧ ∀f h,G f=some (.gen h)→jcw P f h
def jnt(G:Env)(o:Oper)(e:Operand→Value):Option ((J→Lk→Nat→(Value→Lk→Nat→Prop)→Prop)×J):=
 match o.op with
 | .call c=>match c.callee with
  | .value x=>match e x with
   | .func (.func f) ⟨first⟩ ⟨captured⟩=>match G f with
    | some (.gen h)=>some (h,first++c.args.toList.map e++captured)
    | _=>none
   | _=>none
  | _=>none
 | _=>none
def setC(c:Operand)(t:Tmps)(b:Bool):Tmps:=
 match c with
 | .tmp d=>tput t (some d) (.bool b)
 | _=>t
section
variable (P : Program) (G : Env)
def doOp(nt:Nat)(dr:Bool)(o:Oper)(t:Tmps)(m:Lk)(n:Nat)(K:Tmps→Lk→Nat→Prop):Prop:=
 match jb7 nt o with
 | false=>False
 | true=>match jnt G o (ev t)with
  | some (h,args)=>match dr with
   | false=>h args m (n+1) fun v m' n'=>K (tput t o.dst v) m' n'
   | true=>False
  | none=>match aop P G o (ev t) m with
   | some (c,r)=>match c with
    | true=>K (tput t o.dst (resV n r)) (jc5 n r m) (n+1)
    | false=>False
   | none=>match dr with
    | false=>extR P o (ev t) m n fun v m'=>K (tput t o.dst v) m' (n+1)
    | true=>False
def opR(ops:Array Oper)(nt:Nat)(dr:Bool)(o:Oper)(t:Tmps)(m:Lk)(n:Nat)(K:Tmps→Lk→Nat→Prop):Prop:=
 match o.guard with
 | none=>doOp P G nt dr o t m n K
 | some (j,want)=>match (ops[j]?).bind (·.dst)with
  | some d=>match Nat.blt d nt with
   | true=>match t d with
    | .bool b=>match b with
     | true=>match want with
      | true=>doOp P G nt dr o (tput t (some d) (.bool true)) m n K
      | false=>K (tput (tput t (some d) (.bool true)) o.dst undef) m (n+1)
     | false=>match want with
      | false=>doOp P G nt dr o (tput t (some d) (.bool false)) m n K
      | true=>K (tput (tput t (some d) (.bool false)) o.dst undef) m (n+1)
    | _=>K (tput t o.dst undef) m (n+1)
   | false=>False
  | none=>False
def opsR(ops:Array Oper)(nt:Nat)(dr:Bool):List Oper→Tmps→Lk→Nat→(Tmps→Lk→Nat→Prop)→Prop
 | [],t,m,n,K=>K t m n
 | o::r,t,m,n,K=>opR P G ops nt dr o t m n fun t m n=>opsR ops nt dr r t m n K
end
section
variable {P : Program} {G : Env} {ops : Array Oper} {nt n : Nat} {N : Nat} {w0 : World} {t : Tmps} {m : Lk} {ι : Nm} {a : Act} {w : World} {o : Oper}
theorem jcq{d:Tmp}{v:Value}(h:t d=v):tput t (some d) v=t:=by
 funext j;rw[tput_get];split
 ·subst_vars;rfl
 ·rfl
theorem wantedA_other{j:Nat}{want:Bool}{d:Tmp}(hg:o.guard=some (j,want))(hd:(ops[j]?).bind (·.dst)=some d)(hlt:Nat.blt d nt=true)(hb:∀b,t d= .bool b→False):jbq ops nt t o=false:=by
 have _:=tbs;cases hv:t d with
 | bool b=>exact(hb b hv).elim
 | _=>simp only[jbq,hg,hd,hlt,hv]
theorem opR_step{n0 k:Nat}(hk:ops[k]?=some o){K:Tmps→Lk→Nat→Prop}(h:opR P G ops nt true o t m (n0+k) K):
  ∃s',jd6 P G ops nt n0 k (t,m)=some s'∧K s'.1 s'.2 (n0+k+1):=by
 have hdo:∀{t},jbq ops nt t o=true→doOp P G nt true o t m (n0+k) K→ ∃s',jd6 P G ops nt n0 k (t,m)=some s'∧K s'.1 s'.2 (n0+k+1):=fun{t} hw h=>by
  unfold doOp at h;split at h
  ·exact h.elim
  ·rename_i hok;split at h
   ·exact h.elim
   ·split at h
    ·rename_i c r hr;split at h
     ·exact⟨(tput t o.dst (resV (n0+k) r),jc5 (n0+k) r m),by simp only[jd6,hk,hw,hok,hr],h⟩
     ·exact h.elim
    ·exact h.elim
 have hskip:∀{t},jbq ops nt t o=false→K (tput t o.dst undef) m (n0+k+1)→ ∃s',jd6 P G ops nt n0 k (t,m)=some s'∧K s'.1 s'.2 (n0+k+1):=fun{t} hw h=>
  ⟨(tput t o.dst undef,m),by simp only[jd6,hk,hw],h⟩
 unfold opR at h;split at h
 ·rename_i hg;exact hdo (by simp only[jbq,hg]) h
 ·rename_i j want hg;split at h
  ·rename_i d hd;split at h
   ·rename_i hlt;split at h
    ·rename_i b hb;split at h
     all_goals
      rw[jcq hb]at h;split at h
      ·exact hdo (by simp only[jbq,hg,hd,hlt,hb];rfl) h
      ·exact hskip (by simp only[jbq,hg,hd,hlt,hb];rfl) h
    ·rename_i hb;exact hskip (wantedA_other hg hd hlt hb) h
   ·exact h.elim
  ·exact h.elim
theorem opsR_draw{n0:Nat}{K:Tmps→Lk→Nat→Prop}:∀(l:List Oper)(k:Nat)(t:Tmps)(m:Lk),(∀j,l[j]?=ops[k+j]?)→opsR P G ops nt true l t m (n0+k) K→
  ∃s',runL P G ops nt n0 l.length k (t,m)=some s'∧K s'.1 s'.2 (n0+k+l.length)
 | [],k,t,m,_,h=>⟨(t,m),rfl,h⟩
 | o::l,k,t,m,hl,h=>by
  have h0:ops[k]?=some o:=by simpa using(hl 0).symm
  simp only[opsR]at h;obtain⟨s1,hs1,h1⟩:=opR_step h0 h;have hl':∀j,l[j]?=ops[k+1+j]?:=fun j=>by have:=hl (j+1);simpa[Nat.add_assoc,Nat.add_comm 1 j]using this
  obtain⟨s',hs',h2⟩:=opsR_draw l (k+1) s1.1 s1.2 hl' (by rw[←Nat.add_assoc];exact h1);refine⟨s',?_,?_⟩
  ·simp only[List.length_cons,runL,hs1,Option.bind_some];exact hs'
  ·rw[List.length_cons];have:n0+k+(l.length+1)=n0+(k+1)+l.length:=by omega
   rw[this];exact h2
theorem gen_real(hG:ja3 P G){h:J→Lk→Nat→(Value→Lk→Nat→Prop)→Prop}{args:J}(hg:jnt G o (ev t)=some (h,args))(hok:jb7 nt o=true)
  (hrel:RelS N w0 (· <n) nt t m ι a w) {K:Tmps→Lk→Nat→Prop} (hh:h args m (n+1) fun v m' n'=>K (tput t o.dst v) m' n')
  {K':Act→World→Prop} {Q:Exit→Act→World→Prop}
  (hK:∀t' m' n' ι' a' w',K t' m' n'→n≤n'→(∀k,k<n→ι' k=ι k)→RelS N w0 (· <n') nt t' m' ι' a' w'→K' a' w'):o.wp P a w K' Q:=by
 unfold jnt at hg;split at hg
 ·rename_i c hop;split at hg
  ·rename_i y hf;split at hg
   ·rename_i f first captured hfv
    split at hg
    ·rename_i h' hGf;simp only[Kb,Ke]at hg;obtain⟨rfl,rfl⟩:=hg;obtain⟨hcal,hcon⟩:=hG.2 f h' hGf;obtain⟨cal,args,tys⟩:=c;simp only at hf;subst hf;have hmem:∀x∈args,x∈o.op.operands:=fun x hx=>by simp[hop,Op.operands,Call.operands,hx]
     have hmemy:y∈o.op.operands:=by simp[hop,Op.operands,Call.operands]
     have hye:a.eval y=ren ι (ev t y):=hrel.eval (opndsOk_spec hok hmemy)
     have hmap:args.map a.eval=((args.toList.map (ev t)).map (ren ι)).toArray:=by
      apply Array.toList_inj.1;simp only[Array.toList_map,List.map_map];exact Ku fun x hx=>by simpa using hrel.eval (opndsOk_spec hok (hmem x (by simpa using hx)))
     have hrun:(execOp a.eval o).run P w= .ok (.enter f ((first++args.toList.map (ev t)++captured).map (ren ι)).toArray) w:=by
      simp only[execOp,hop,resolve,Sem.run_bind,hye,hfv,ren,Deferred.ofValue];simp only[Sem.run_pure,Result.andThen_ok,invoke,hmap];rw[run_callFunc hcal];simp[jb1]
     unfold Oper.wp;rw[hrun,Oper.upon_enter];refine(hcon _ m (n+1) _ hh N w0 ι w hrel.mem (fun k b hk=> ?_) (fun v hv j hj=> ?_)).mono fun e' w' ⟨v,m',n',ι',he,hKv,hn,hι,hm',hwf,hv⟩=> ?_
     ·obtain⟨h1,h2⟩:=hrel.wf.mem k b hk;exact⟨Ki h1,fun j hj=>Ki (h2 j hj)⟩
     ·have hyid:∀j∈ids (ev t y),j<n:=jcr hrel.wf hok hmemy;rw[hfv]at hyid;simp only[ids,Kq]at hyid;simp only[Kq]at hv;rcases hv with(hv | hv) | hv
      ·exact Ki (hyid j (.inl (jay.2 ⟨v,hv,hj⟩)))
      ·obtain⟨x,hx,rfl⟩:=KB.1 hv;exact Ki (jcr hrel.wf hok (hmem x (by simpa using hx)) j hj)
      ·exact Ki (hyid j (.inr (jay.2 ⟨v,hv,hj⟩)))
     ·subst he;refine hK _ m' n' ι' _ w' hKv (by omega) (fun k hk=>hι k (by omega)) ⟨?_,by rw[put_defers];exact hrel.defers,hm',⟨fun i hi j hj=> ?_,hwf⟩⟩
      ·rw[put_tmps,hrel.tmps,Tm_congr (ι':=ι') fun i hi k hk=>(hι k (Ki (hrel.wf.tmps i hi k hk))).symm];exact jjd t ι' nt o.dst v
      ·cases hd:o.dst with
       | none=>rw[hd]at hj;have:=hrel.wf.tmps i hi j hj;omega
       | some d=>
        rw[hd,tput_get]at hj;split at hj
        ·exact hv j hj
        ·have:=hrel.wf.tmps i hi j hj;omega
    ·cases hg
   ·cases hg
  ·cases hg
 ·cases hg
theorem jjn(hG:ja3 P G){dr:Bool}{i:Nat}(hi:ops[i]?=some o)(hrel:RelS N w0 (· <n) nt t m ι a w){K:Tmps→Lk→Nat→Prop}(h:opR P G ops nt dr o t m n K)
  {K':Act→World→Prop} {Q:Exit→Act→World→Prop}
  (hK:∀t' m' n' ι' a' w',K t' m' n'→n≤n'→(∀k,k<n→ι' k=ι k)→RelS N w0 (· <n') nt t' m' ι' a' w'→K' a' w'):wpOp P ops Q i K' a w:=by
 have hdo:∀{t},RelS N w0 (· <n) nt t m ι a w→jbq ops nt t o=true→doOp P G nt dr o t m n K→wpOp P ops Q i K' a w:=fun{t} hrel hw h=>by
  unfold wpOp;simp only[hi,hrel.wanted o,hw,if_true];refine .inl ?_
  have hop:jb7 nt o=true→ ∀{r},aop P G o (ev t) m=some (true,r)→K (tput t o.dst (resV n r)) (jc5 n r m) (n+1)→o.wp P a w K' Q:=fun hok {r} hr hk=>
   op_real hG.1 hrel hok (id:=n) (by omega) hr fun ι' a' w' hι hrel'=>hK _ _ _ ι' a' w' hk (Nat.le_succ n) hι ⟨hrel'.tmps,hrel'.defers,hrel'.mem,hrel'.wf.mono fun k hk=>by omega⟩
  unfold doOp at h;split at h
  ·exact h.elim
  ·rename_i hok;split at h
   ·rename_i hh args hg;split at h
    ·exact gen_real hG hg hok hrel h hK
    ·exact h.elim
   ·split at h
    ·rename_i c r hr;split at h
     ·exact hop hok hr h
     ·exact h.elim
    ·split at h
     ·exact ext_real hrel hok h hK
     ·exact h.elim
 have hskip:∀{t},RelS N w0 (· <n) nt t m ι a w→jbq ops nt t o=false→K (tput t o.dst undef) m (n+1)→wpOp P ops Q i K' a w:=fun{t} hrel hw h=>by
  unfold wpOp;simp only[hi,hrel.wanted o,hw,Bool.false_eq_true,if_false];have:=hrel.put_skip o.dst;exact hK _ _ _ ι _ w h (Nat.le_succ n) (fun _ _=>rfl) ⟨this.tmps,this.defers,this.mem,this.wf.mono fun k hk=>by omega⟩
 unfold opR at h;split at h
 ·rename_i hg;exact hdo hrel (by simp only[jbq,hg]) h
 ·rename_i j want hg;split at h
  ·rename_i d hd;split at h
   ·rename_i hlt;split at h
    ·rename_i b hb;split at h
     all_goals
      rw[jcq hb]at h;split at h
      ·exact hdo hrel (by simp only[jbq,hg,hd,hlt,hb];rfl) h
      ·exact hskip hrel (by simp only[jbq,hg,hd,hlt,hb];rfl) h
    ·rename_i hb;exact hskip hrel (wantedA_other hg hd hlt hb) h
   ·exact h.elim
  ·exact h.elim
theorem opsR_text(hG:ja3 P G){dr:Bool}{Q:Exit→Act→World→Prop}{K:Tmps→Lk→Nat→Prop}:
  ∀(l:List Oper)(k n:Nat)(t:Tmps)(m:Lk)(ι:Nm)(a:Act)(w:World),(∀j,l[j]?=ops[k+j]?)→RelS N w0 (· <n) nt t m ι a w→opsR P G ops nt dr l t m n K→
   (∀t' m' n' ι' a' w',K t' m' n'→n≤n'→(∀k,k<n→ι' k=ι k)→RelS N w0 (· <n') nt t' m' ι' a' w'→Q .normal a' w')→wpOps P ops Q (List.range' k l.length) a w
 | [],k,n,t,m,ι,a,w,_,hrel,h,hQ=>by
  simp only[List.length_nil,List.range'_zero,wpOps];exact hQ t m n ι a w h (Kv _) (fun _ _=>rfl) hrel
 | o::l,k,n,t,m,ι,a,w,hl,hrel,h,hQ=>by
  have h0:ops[k]?=some o:=by simpa using(hl 0).symm
  simp only[opsR]at h;rw[List.length_cons,List.range'_succ,wpOps_cons];refine jjn hG h0 hrel h fun t1 m1 n1 ι1 a1 w1 h1 hn1 hι1 hrel1=> ?_
  exact opsR_text hG l (k+1) n1 t1 m1 ι1 a1 w1 (fun j=>by have:=hl (j+1);simpa[Nat.add_assoc,Nat.add_comm 1 j]using this) hrel1 h1
   fun t' m' n' ι' a' w' hk hn hι hr=>hQ t' m' n' ι' a' w' hk (by omega) (fun k hk=>(hι k (by omega)).trans (hι1 k hk)) hr
theorem jeg(hG:ja3 P G)(hm:P.follows .mixedOrders=true){id:Nat}{d:Bool}(hB:(!d || lexA ops t)=true){K:Tmps→Lk→Nat→Prop}(h:opsR P G ops nt d ops.toList t m n K)
  {Q:Exit→Act→World→Prop} (hrel:RelS N w0 (· <n) nt t m ι a w)
  (hQ:∀t' m' n' ι' a' w',K t' m' n'→n≤n'→(∀k,k<n→ι' k=ι k)→RelS N w0 (· <n') nt t' m' ι' a' w'→Q .normal a' w'):(Code.region id ops d).wp P Q a w:=by
 cases d with
 | false=>
  refine wp_region ?_;have:=opsR_text (ops:=ops) hG (dr:=false) (Q:=Q) ops.toList 0 n t m ι a w (by simp) hrel h hQ;rw[List.range_eq_range'];simpa using this
 | true=>
  obtain⟨s',hs',hk⟩:=opsR_draw (ops:=ops) (n0:=n) ops.toList 0 t m (by simp) (by simpa using h);refine region_draw hG.1 hm (by simpa using hB) (s':=s') (by simpa using hs') hrel fun ι' a' w' hι hr=> ?_
  exact hQ s'.1 s'.2 (n+ops.size) ι' a' w' (by simpa using hk) (by omega) hι hr
end
def jkk:Res→Bool
 | .val _ | .upd _ _=>true
 | _=>false
def jdc(P:Program)(G:Env)(ops:Array Oper)(nt i:Nat)(s:Tmps×Lk):Option (Tmps×Lk):=
 match ops[i]? with
 | none=>some s
 | some o=>match jbq ops nt s.1 o with
  | true=>match jb7 nt o,aop P G o (ev s.1) s.2 with
   | true,some (true,r)=>match jkk r with
    | true=>some (tput s.1 o.dst (resV 0 r),jc5 0 r s.2)
    | false=>none
   | _,_=>none
  | false=>some (tput s.1 o.dst undef,s.2)
theorem noNew_res{r:Res}(h:jkk r=true)(x y:Nat)(m:Lk):resV x r=resV y r∧jc5 x r m=jc5 y r m:=by
 have _:=tbs;cases r<;>first | exact⟨rfl,rfl⟩ | cases h
section
variable {P : Program} {G : Env} {ops : Array Oper} {nt n : Nat} {N : Nat} {w0 : World} {t : Tmps} {m : Lk} {ι : Nm} {a : Act} {w : World} {o : Oper}
theorem jef{i:Nat}{s s':Tmps×Lk}(h:jdc P G ops nt i s=some s')(n0:Nat):jd6 P G ops nt n0 i s=some s':=by
 unfold jdc at h;unfold jd6;split at h
 ·rename_i h0;simp only[h0];exact h
 ·rename_i o h0;simp only[h0];split at h
  ·rename_i hw;simp only[hw];split at h
   ·rename_i r hok hr;simp only[hok,hr];split at h
    ·rename_i hn;cases h;rw[(noNew_res hn (n0+i) 0 s.2).1,(noNew_res hn (n0+i) 0 s.2).2]
    ·cases h
   ·cases h
  ·rename_i hw;simp only[hw];exact h
theorem jgj{S:Nat→Prop}{i:Nat}(hwf:WF S nt t m){s':Tmps×Lk}(h:jdc P G ops nt i (t,m)=some s'):WF S nt s'.1 s'.2:=by
 unfold jdc at h;split at h
 ·cases h;exact hwf
 ·rename_i o _;split at h
  ·split at h
   ·rename_i r hok hr;split at h
    ·rename_i hn;cases h;have h1:=jkv hwf hok (id:=0) hr;have hids:=jfp hr;refine⟨fun i hi j hj=> ?_,fun k b hk=> ?_⟩
     ·cases hd:o.dst with
      | none=>rw[hd]at hj;exact hwf.tmps i hi j hj
      | some d=>
       simp only[hd,tput_get]at hj;split at hj
       ·have hr':j∈idsR r:=by
         cases r with
         | val v=>exact hj
         | upd k b=>simp[resV,ids_undef]at hj
         | _=>cases hn
        rcases hids.1 j hr' with⟨x,hx,hjx⟩ | ⟨k,b,hk,hjb⟩
        ·exact jcr hwf hok hx j hjx
        ·exact(hwf.mem k b hk).2 j hjb
       ·exact hwf.tmps i hi j hj
     ·cases r with
      | val v=>exact hwf.mem k b hk
      | upd q b'=>
       obtain⟨⟨b0,hb0⟩,_⟩:=hids.2 q b' rfl;by_cases e:k=q
       ·subst e;simp only[jc5,Lk.upd_same,Kb]at hk;subst hk;refine⟨(hwf.mem k b0 hb0).1,fun j hj=> ?_⟩;rcases hids.1 j hj with⟨x,hx,hjx⟩ | ⟨k',b2,hk',hjb⟩
        ·exact jcr hwf hok hx j hjx
        ·exact(hwf.mem k' b2 hk').2 j hjb
       ·simp only[jc5,Lk.upd_other _ _ e]at hk;exact hwf.mem k b hk
      | _=>cases hn
    ·cases h
   ·cases h
  ·cases h;exact jkw hwf _
theorem step1v_real(hG:jfq P G)(hrel:RelS N w0 (· <n) nt t m ι a w){i:Nat}{s':Tmps×Lk}(h:jdc P G ops nt i (t,m)=some s')
  {K:Act→World→Prop} {Q:Exit→Act→World→Prop}
  (hK:∀ι' a' w',(∀k,k<n→ι' k=ι k)→RelS N w0 (· <n) nt s'.1 s'.2 ι' a' w'→K a' w'):wpOp P ops Q i K a w:=
 step1_real hG hrel (n0:=n) (i:=i) (by omega) (jef h n) fun ι' a' w' hι hr=>
  hK ι' a' w' hι ⟨hr.tmps,hr.defers,hr.mem,jgj hrel.wf h⟩
theorem Fix.stepv{t0:Tmps}(h:Fix ops t0 t){i:Nat}{s':Tmps×Lk}(hs:jdc P G ops nt i (t,m)=some s'):Fix ops t0 s'.1:=h.step (n0:=0) (jef hs 0)
theorem binR_noNew{e:Operand→Value}{op:BinOp}{ty:TypeId}{x y:Operand}{c:Bool}{r:Res}(h:binR P o e op ty x y=some (c,r)):jkk r=true:=by
 have _:=tbs;unfold binR jbr at h
 repeat' split at h
 all_goals first | (cases h;rfl) | (simp only[Kb,Ke]at h;obtain⟨_,rfl⟩:=h;rfl) | cases h
theorem generic_noNew{e:Operand→Value}{c:Bool}{r:Res}(h:jbr P o e=some (c,r)):jkk r=true:=by
 have _:=tbs;unfold jbr at h
 repeat' split at h
 all_goals first | (cases h;rfl) | cases h
theorem loadB_noNew{ty:TypeId}{b:Blk}{off sp:Nat}{c:Bool}{r:Res}(h:jid P ty b off sp=some (c,r)):jkk r=true:=by
 have _:=tbs;unfold jid at h
 repeat' split at h
 all_goals first | (cases h;rfl) | cases h
theorem callR_noNew{e:Operand→Value}{q:Call}{c:Bool}{r:Res}(h:jlo P G o e m q=some (c,r)):jkk r=true:=by
 have _:=tbs;unfold jlo jbr at h
 repeat' split at h
 all_goals first | (cases h;rfl) | (simp only[Kb,Ke]at h;obtain⟨_,rfl⟩:=h;rfl) | cases h
def jkl(o:Oper):Bool:=match o.op with
 | .alloc _ | .box _ _ | .buildSlice _ _ _ | .range _ _=>true
 | _=>false
theorem aop_noNew{e:Operand→Value}{c:Bool}{r:Res}(hn:jkl o=false)(h:aop P G o e m=some (c,r)):jkk r=true:=by
 unfold aop at h;unfold jkl at hn;split at h
 all_goals first
  | exact generic_noNew h
  | exact binR_noNew h
  | exact callR_noNew h
  | (rename_i hop;simp only[hop]at hn;cases hn;done)
  | skip
 all_goals try unfold jd2 at h
 all_goals try unfold ji8 at h
 all_goals try unfold jkh at h
 all_goals try unfold jnf at h
 all_goals try unfold jdl at h
 all_goals try unfold jh3 at h
 all_goals try unfold jjh at h
 all_goals try unfold jid at h
 all_goals try unfold jk8 at h
 all_goals repeat' split at h
 all_goals first | (cases h;rfl) | (simp only[Kb,Ke]at h;obtain⟨_,rfl⟩:=h;rfl) | exact generic_noNew h | exact loadB_noNew h | cases h
theorem step1_step1v{n0 i:Nat}{s s':Tmps×Lk}(hi:ops[i]?=some o)(hn:jkl o=false)(h:jd6 P G ops nt n0 i s=some s'):jdc P G ops nt i s=some s':=by
 unfold jd6 at h;unfold jdc;simp only[hi]at h ⊢;split at h
 ·rename_i hw;simp only[hw];split at h
  ·rename_i r hok hr;have hnn:=aop_noNew hn hr;simp only[hok,hr,hnn];cases h;rw[(noNew_res hnn (n0+i) 0 s.2).1,(noNew_res hnn (n0+i) 0 s.2).2]
  ·cases h
 ·rename_i hw;simp only[hw];exact h
theorem swapv{t0:Tmps}(hfix:Fix ops t0 t){i j:Nat}{oi oj:Oper}(hi:ops[i]?=some oi)(hj:ops[j]?=some oj)(hni:jkl oi=false)(hnj:jkl oj=false)(hne:i≠j)(hap:oi.apart ops oj=true)(hma:memD ops t0 oi oj=true)
  (hwf:WF (· <n) nt t m) {si sij:Tmps×Lk} (h1:jdc P G ops nt i (t,m)=some si) (h2:jdc P G ops nt j si=some sij):
  ∃sj,jdc P G ops nt j (t,m)=some sj∧jdc P G ops nt i sj=some sij:=by
 obtain⟨sj,g1,g2⟩:=swap hfix hi hj hne hap hma hwf (n0:=n) (by omega) (by omega) (jef h1 n) (jef h2 n);exact⟨sj,step1_step1v hj hnj g1,step1_step1v hi hni g2⟩
def detS(G:Env)(o:Oper):Bool:= !jkl o&&match o.op with
 | .call c=>match c.callee with
  | .value (.func f)=>match G f with
   | some (.pure _)=>true
   | _=>false
  | .builtin _=>true
  | _=>false
 | _=>true
def jlq(P:Program)(G:Env)(ops:Array Oper)(nt i:Nat)(t:Tmps)(m:Lk)(n:Nat)(K:Tmps→Lk→Nat→Prop):Prop:=match ops[i]? with
 | none=>False
 | some o=>match detS G o with
  | true=>∃s',jdc P G ops nt i (t,m)=some s'∧K s'.1 s'.2 n
  | false=>∃K0,opR P G ops nt false o t m n K0∧ ∀t' m' n',K0 t' m' n'→WF (· <n') nt t' m'→K t' m' n'
def GAny(P:Program)(G:Env)(ops:Array Oper)(nt:Nat)(K:Tmps→Lk→Nat→Prop):Nat→Array Bool→Tmps→Lk→Nat→Prop
 | 0,listed,t,m,n=>Region.ready .any ops listed=[]∧K t m n
 | fuel+1,listed,t,m,n=>
  (Region.ready .any ops listed=[]→K t m n)∧
  ∀i∈Region.ready .any ops listed,jlq P G ops nt i t m n (GAny P G ops nt K fuel (listed.setIfInBounds i true))
theorem jdx(hG:ja3 P G){n0:Nat}{ι0:Nm}{K:Tmps→Lk→Nat→Prop}{Q:Exit→Act→World→Prop}
  (hK:∀t m n ι a w,K t m n→n0≤n→(∀k,k<n0→ι k=ι0 k)→RelS N w0 (· <n) nt t m ι a w→Q .normal a w):
  ∀(fuel:Nat)(listed:Array Bool)(t:Tmps)(m:Lk)(n:Nat)(ι:Nm)(a:Act)(w:World),n0≤n→(∀k,k<n0→ι k=ι0 k)→RelS N w0 (· <n) nt t m ι a w→
   GAny P G ops nt K fuel listed t m n→wpAny P .any ops Q fuel listed a w
 | 0,listed,t,m,n,ι,a,w,hn,hι,hrel,h=>⟨h.1,hK t m n ι a w h.2 hn hι hrel⟩
 | fuel+1,listed,t,m,n,ι,a,w,hn,hι,hrel,h=>by
  refine⟨fun h0=>hK t m n ι a w (h.1 h0) hn hι hrel,fun i hi=> ?_⟩;have hs:=h.2 i hi;unfold jlq at hs;split at hs
  ·exact hs.elim
  ·rename_i o ho;split at hs
   ·obtain⟨s',hs',hrest⟩:=hs
    exact step1v_real hG.1 hrel hs' fun ι' a' w' hι' hrel'=>
     jdx hG hK fuel _ s'.1 s'.2 n ι' a' w' hn (fun k hk=>(hι' k (by omega)).trans (hι k hk)) hrel' hrest
   ·obtain⟨K0,hs,himp⟩:=hs
    exact jjn hG ho hrel hs fun t' m' n' ι' a' w' hk hn' hι' hrel'=>
     jdx hG hK fuel _ t' m' n' ι' a' w' (by omega) (fun k hk=>(hι' k (by omega)).trans (hι k hk)) hrel' (himp _ _ _ hk hrel'.wf)
def jhd(ops:Array Oper)(i:Nat):Nat→Nat→Bool
 | 0,_=>false
 | f+1,j=>match ops[j]? with
  | some oj=>oj.after.any fun e=>Region.binds .any e&& (e.on==i || jhd ops i f e.on)
  | none=>false
def DC(ops:Array Oper)(listed:Array Bool):Prop:=∀j oj,ops[j]?=some oj→listed.getD j false=true→ ∀e∈oj.after,Region.binds .any e=true→listed.getD e.on false=true
theorem DC_waits{listed:Array Bool}{i:Nat}(hdc:DC ops listed):∀(f j:Nat),jhd ops i f j=true→(∀oj,ops[j]?=some oj→ ∀e∈oj.after,Region.binds .any e=true→listed.getD e.on false=true)→listed.getD i false=true
 | 0,_,h,_=>by have _:=tbs;cases h
 | f+1,j,h,hall=>by
  simp only[jhd]at h;split at h
  ·rename_i oj hoj;obtain⟨e,he,hb⟩:=Array.any_eq_true'.1 h;simp only[jaf,Ko,K4]at hb;have h1:=hall oj hoj e he hb.1;rcases hb.2 with h2 | h2
   ·rw[←h2];exact h1
   ·exact DC_waits hdc f e.on h2 fun ok hok=>hdc e.on ok hok h1
  ·cases h
def jnu(G:Env)(ops:Array Oper)(t0:Tmps)(listed:Array Bool)(i:Nat):Bool:=
 match ops[i]? with
 | none=>false
 | some oi => detS G oi && (List.range ops.size).all fun j => j == i || listed.getD j true || jhd ops i ops.size j || match ops[j]? with
   | some oj=>detS G oj&&oi.apart ops oj&&memD ops t0 oi oj
   | none=>true
theorem detS_new{o:Oper}(h:detS G o=true):jkl o=false:=by
 have _:=tbs;unfold detS at h;simp only[jaf,Ks]at h;exact h.1
theorem GAny_first{t0:Tmps}{K:Tmps→Lk→Nat→Prop}{i:Nat}{oi:Oper}(hi:ops[i]?=some oi)(hdi:detS G oi=true):
  ∀(fuel:Nat)(listed:Array Bool)(t:Tmps)(m:Lk)(n:Nat)(si:Tmps×Lk),listed.size=ops.size→DC ops listed→
   (∀j oj,ops[j]?=some oj→j≠i→listed.getD j true=false→jhd ops i ops.size j=false→detS G oj=true∧oi.apart ops oj=true∧memD ops t0 oi oj=true)→Fix ops t0 t→
   WF (· <n) nt t m→i∈Region.ready .any ops listed→jdc P G ops nt i (t,m)=some si→
   GAny P G ops nt K fuel (listed.setIfInBounds i true) si.1 si.2 n→GAny P G ops nt K (fuel+1) listed t m n:=by
 have hgi:∀{t m n s'}{K':Tmps→Lk→Nat→Prop},jdc P G ops nt i (t,m)=some s'→K' s'.1 s'.2 n→jlq P G ops nt i t m n K':=fun{t m n s' K'} h1 h2=>by
  simp only[jlq,hi,hdi];exact⟨s',h1,h2⟩
 intro fuel
 induction fuel with
 | zero=>
  intro listed t m n si hsz hdc hfree hfix hwf hr hy H;refine⟨fun h=>(by rw[h]at hr;cases hr),fun j hj=> ?_⟩;by_cases hji:j=i
  ·subst hji;exact hgi hy H
  ·have:=ready_mono hj hji;rw[H.1]at this;cases this
 | succ fuel ih=>
  intro listed t m n si hsz hdc hfree hfix hwf hr hy H;refine⟨fun h=>(by rw[h]at hr;cases hr),fun j hj=> ?_⟩;by_cases hji:j=i
  ·subst hji;exact hgi hy H
  ·have hG':=H.2 j (ready_mono hj hji);obtain⟨hjun,oj,hoj,hall⟩:=mem_ready.1 hj;have hiun:=(mem_ready.1 hr).1
   have hnw:jhd ops i ops.size j=false:=by
    cases hw:jhd ops i ops.size j
    ·rfl
    ·have:=DC_waits hdc ops.size j hw fun ok hok=>by rw[hoj]at hok;cases hok;exact hall
     rcases Nat.lt_or_ge i listed.size with h' | h'
     ·simp[h']at hiun this;rw[hiun]at this;cases this
     ·simp[Array.getElem?_eq_none h']at hiun
   obtain⟨hdj,hap,hma⟩:=hfree j oj hoj hji hjun hnw;unfold jlq at hG';simp only[hoj,hdj]at hG';obtain⟨sij,h1,h1'⟩:=hG';obtain⟨sj,h2,h3⟩:=swapv hfix hi hoj (detS_new hdi) (detS_new hdj) (Ne.symm hji) hap hma hwf hy h1;simp only[jlq,hoj,hdj];refine⟨sj,h2,?_⟩
   have hdc':DC ops (listed.setIfInBounds j true):=fun k ok hok hk e he hb=>by
    by_cases hjk:k=j
    ·subst hjk;rw[hoj]at hok;cases hok;exact getD_set_true (hall e he hb)
    ·have:listed.getD k false=true:=by rw[getD_set_ne false (Ne.symm hjk)]at hk;exact hk
     exact getD_set_true (hdc k ok hok this e he hb)
   refine ih (listed.setIfInBounds j true) sj.1 sj.2 n sij (by simpa using hsz) hdc' (fun k ok hk hki hun hno=> ?_) (hfix.stepv h2) (jgj hwf h2) (ready_mono hr (Ne.symm hji)) h3 ?_
   ·refine hfree k ok hk hki ?_ hno;by_cases hjk:j=k
    ·subst hjk;exact hjun
    ·rw[getD_set_ne true hjk]at hun;exact hun
   ·rw[Array.setIfInBounds_comm _ _ hji];exact h1'
theorem DC_set{listed:Array Bool}{i:Nat}(hdc:DC ops listed)(hr:i∈Region.ready .any ops listed):DC ops (listed.setIfInBounds i true):=have _:=tbs;fun k ok hok hk e he hb=>by
 obtain⟨_,oi,hoi,hall⟩:=mem_ready.1 hr;by_cases hjk:k=i
 ·subst hjk;rw[hoi]at hok;cases hok;exact getD_set_true (hall e he hb)
 ·have:listed.getD k false=true:=by rw[getD_set_ne false (Ne.symm hjk)]at hk;exact hk
  exact getD_set_true (hdc k ok hok this e he hb)
theorem freeG_spec{t0:Tmps}{i:Nat}{oi:Oper}{listed:Array Bool}(hi:ops[i]?=some oi)(h:jnu G ops t0 listed i=true):detS G oi=true∧ ∀(j:Nat)(oj:Oper),
  ops[j]?=some oj→j≠i→listed.getD j true=false→jhd ops i ops.size j=false→detS G oj=true∧oi.apart ops oj=true∧memD ops t0 oi oj=true:=by
 have _:=tbs;simp only[jnu,hi,jaf,Kf,List.mem_range]at h;refine⟨h.1,fun j oj hj hne hun hnw=> ?_⟩;have h1:=h.2 j (Array.getElem?_eq_some_iff.1 hj).1;simp only[hj,Ko,K4,hne,false_or,hun,Bool.false_eq_true,jaf,hnw]at h1;exact⟨h1.1.1,h1.1.2,h1.2⟩
end
section
variable (P : Program) (G : Env)
def jnc(nt:Nat)(o:Oper)(t:Tmps)(m:Lk)(K:Tmps→Lk→Prop):Prop:=
 match jb7 nt o with
 | false=>False
 | true=>match aop P G o (ev t) m with
  | some (c,r)=>match jkk r with
   | true=>match c with
    | true=>K (tput t o.dst (resV 0 r)) (jc5 0 r m)
    | false=>False
   | false=>False
  | none=>False
def opRV(ops:Array Oper)(nt:Nat)(o:Oper)(t:Tmps)(m:Lk)(K:Tmps→Lk→Prop):Prop:=
 match o.guard with
 | none=>jnc P G nt o t m K
 | some (j,want)=>match (ops[j]?).bind (·.dst)with
  | some d=>match Nat.blt d nt with
   | true=>match t d with
    | .bool b=>match b with
     | true=>match want with
      | true=>jnc P G nt o (tput t (some d) (.bool true)) m K
      | false=>K (tput (tput t (some d) (.bool true)) o.dst undef) m
     | false=>match want with
      | false=>jnc P G nt o (tput t (some d) (.bool false)) m K
      | true=>K (tput (tput t (some d) (.bool false)) o.dst undef) m
    | _=>K (tput t o.dst undef) m
   | false=>False
  | none=>False
def allP:List Nat→(Nat→Prop)→Prop
 | [],_=>True
 | [i],p=>p i
 | i::j::r,p=>p i∧allP (j::r) p
def anyG(ops:Array Oper)(nt:Nat)(K:Tmps→Lk→Nat→Prop):Nat→Array Bool→Tmps→Lk→Nat→Prop
 | 0,listed,t,m,n=>match Region.ready .any ops listed with
  | []=>K t m n
  | _::_=>False
 | fuel+1,listed,t,m,n=>match Region.ready .any ops listed with
  | []=>K t m n
  | i0::l=>match (i0::l).find? (jnu G ops t listed)with
   | some i=>match ops[i]? with
    | some o=>opRV P G ops nt o t m fun t m=>anyG ops nt K fuel (listed.setIfInBounds i true) t m n
    | none=>False
   | none=>allP (i0::l) fun i=>match ops[i]? with
    | some o=>match detS G o with
     | true=>opRV P G ops nt o t m fun t m=>anyG ops nt K fuel (listed.setIfInBounds i true) t m n
     | false=>opR P G ops nt false o t m n (anyG ops nt K fuel (listed.setIfInBounds i true))
    | none=>False
end
section
variable {P : Program} {G : Env} {ops : Array Oper} {nt n : Nat} {N : Nat} {w0 : World} {t : Tmps} {m : Lk} {ι : Nm} {a : Act} {w : World} {o : Oper}
theorem jia{k:Nat}(hk:ops[k]?=some o){K:Tmps→Lk→Prop}(h:opRV P G ops nt o t m K):∃s',jdc P G ops nt k (t,m)=some s'∧K s'.1 s'.2:=by
 have hdo:∀{t},jbq ops nt t o=true→jnc P G nt o t m K→ ∃s',jdc P G ops nt k (t,m)=some s'∧K s'.1 s'.2:=fun{t} hw h=>by
  unfold jnc at h;split at h
  ·exact h.elim
  ·rename_i hok;split at h
   ·rename_i c r hr;split at h
    ·rename_i hn;split at h
     ·exact⟨(tput t o.dst (resV 0 r),jc5 0 r m),by simp only[jdc,hk,hw,hok,hr,hn],h⟩
     ·exact h.elim
    ·exact h.elim
   ·exact h.elim
 have hskip:∀{t},jbq ops nt t o=false→K (tput t o.dst undef) m→ ∃s',jdc P G ops nt k (t,m)=some s'∧K s'.1 s'.2:=fun{t} hw h=>
  ⟨(tput t o.dst undef,m),by simp only[jdc,hk,hw],h⟩
 unfold opRV at h;split at h
 ·rename_i hg;exact hdo (by simp only[jbq,hg]) h
 ·rename_i j want hg;split at h
  ·rename_i d hd;split at h
   ·rename_i hlt;split at h
    ·rename_i b hb;split at h
     all_goals
      rw[jcq hb]at h;split at h
      ·exact hdo (by simp only[jbq,hg,hd,hlt,hb];rfl) h
      ·exact hskip (by simp only[jbq,hg,hd,hlt,hb];rfl) h
    ·rename_i hb;exact hskip (wantedA_other hg hd hlt hb) h
   ·exact h.elim
  ·exact h.elim
theorem allP_mem{p:Nat→Prop}:∀{l:List Nat},allP l p→ ∀i∈l,p i
 | [],_,_,h=>by have _:=tbs;cases h
 | [j],h,i,hi=>by simp only[List.mem_singleton]at hi;subst hi;exact h
 | j::k::r,h,i,hi=>by
  rcases Kg.1 hi with rfl | hi
  ·exact h.1
  ·exact allP_mem h.2 i hi
theorem jex{K:Tmps→Lk→Nat→Prop}:∀(fuel:Nat)(listed:Array Bool)(t:Tmps)(m:Lk)(n:Nat),listed.size=ops.size→DC ops listed→WF (· <n) nt t m→anyG P G ops nt K fuel listed t m n→
  GAny P G ops nt K fuel listed t m n
 | 0,listed,t,m,n,_,_,_,h=>by
  simp only[anyG]at h;cases h0:Region.ready .any ops listed with
  | nil=>rw[h0]at h;exact⟨h0,h⟩
  | cons i l=>rw[h0]at h;exact h.elim
 | fuel+1,listed,t,m,n,hsz,hdc,hwf,h=>by
  simp only[anyG]at h;split at h
  ·rename_i h0;exact⟨fun _=>h,fun i hi=>(by rw[h0]at hi;cases hi)⟩
  ·rename_i i0 l h0;split at h
   ·rename_i i hfind;have hi:i∈Region.ready .any ops listed:=h0▸List.mem_of_find?_eq_some hfind;have hfree:=List.find?_some hfind;split at h
    ·rename_i o ho;obtain⟨s',hs,hrest⟩:=jia ho h;obtain⟨hd,hall⟩:=freeG_spec ho hfree
     exact GAny_first (t0:=t) ho hd fuel listed t m n s' hsz hdc hall (Fix.refl t) hwf hi hs
      (jex fuel _ s'.1 s'.2 n (by simpa using hsz) (DC_set hdc hi) (jgj hwf hs) hrest)
    ·exact h.elim
   ·refine⟨fun h1=>(by rw[h0]at h1;cases h1),fun i hi=> ?_⟩;have hp:=allP_mem h i (h0▸hi);unfold jlq;split at hp
    ·rename_i o ho;simp only[ho];split at hp
     ·rename_i hd
      try simp only[hd]
      obtain⟨s',hs,hrest⟩:=jia ho hp;exact⟨s',hs,jex fuel _ s'.1 s'.2 n (by simpa using hsz) (DC_set hdc hi) (jgj hwf hs) hrest⟩
     ·rename_i hd
      try simp only[hd]
      exact⟨_,hp,fun t' m' n' hk hwf'=>jex fuel _ t' m' n' (by simpa using hsz) (DC_set hdc hi) hwf' hk⟩
    ·exact hp.elim
theorem jgz(hG:ja3 P G)(hm:P.follows .mixedOrders=true){id:Nat}{K:Tmps→Lk→Nat→Prop}(h:anyG P G ops nt K ops.size (Array.replicate ops.size false) t m n)
  {Q:Exit→Act→World→Prop} (hrel:RelS N w0 (· <n) nt t m ι a w)
  (hQ:∀t' m' n' ι' a' w',K t' m' n'→n≤n'→(∀k,k<n→ι' k=ι k)→RelS N w0 (· <n') nt t' m' ι' a' w'→Q .normal a' w'):(Code.region id ops true).wp P Q a w:=by
 refine wp_region_any hm ?_
 have hgetD:∀d,(Array.replicate ops.size false).getD d false=false:=fun d=>by
  rcases Nat.lt_or_ge d ops.size with hlt | hge
  ·simp[hlt]
  ·simp[Array.getElem?_eq_none,hge]
 have hrel':RelS N w0 (· <n) nt t m ι a {w with drawn:=w.drawn+1}:=
  ⟨hrel.tmps,hrel.defers,⟨hrel.mem.below.drew,hrel.mem.base,hrel.mem.blk,hrel.mem.view,hrel.mem.inj⟩,hrel.wf⟩
 exact jdx hG (n0:=n) (ι0:=ι) (fun t' m' n' ι' a' w' hk hn hι hr=>hQ t' m' n' ι' a' w' hk hn hι hr) ops.size _ t m n ι a _ (Kv n) (fun _ _=>rfl) hrel'
  (jex ops.size _ t m n (by simp) (fun j oj _ hl=>by rw[hgetD]at hl;cases hl) hrel.wf h)
def jl7(G:Env)(ops:Array Oper):Bool:=ops.toList.any fun o=>match o.op with
 | .call c=>match c.callee with
  | .value (.func f)=>match G f with
   | some (.pure _)=>false
   | _=>true
  | .builtin _=>false
  | _=>true
 | _=>false
end
section
variable (P : Program) (G : Env)
abbrev jcb:=Tmps→Lk→Nat→(Exit→Tmps→Lk→Nat→Prop)→Prop
def jm1(body:jcb):Nat→jcb
 | 0=>fun _ _ _ _=>False
 | q+1=>fun t m n K=>body t m n fun e t m n=>match e with
  | .normal=>jm1 body q t m n K
  | e=>K e t m n
def jku(L:Nat→Option jcb)(nt:Nat):Code→Tmps→Lk→Nat→(Exit→Tmps→Lk→Nat→Prop)→Prop
 | .skip,t,m,n,K=>K .normal t m n
 | .label _,t,m,n,K=>K .normal t m n
 | .region _ ops d,t,m,n,K=>match d with
  | false=>opsR P G ops nt false ops.toList t m n (K .normal)
  | true=>match jl7 G ops with
   | true=>anyG P G ops nt (K .normal) ops.size (Array.replicate ops.size false) t m n
   | false=>match lexA ops t with
    | true=>opsR P G ops nt true ops.toList t m n (K .normal)
    | false=>False
 | .seq a b,t,m,n,K=>jku L nt a t m n fun e t m n=>match e with
  | .normal=>jku L nt b t m n K
  | e=>K e t m n
 | .cond c x y,t,m,n,K=>match opOk nt c with
  | false=>False
  | true=>match ev t c with
   | .bool b=>match b with
    | true=>jku L nt x (setC c t true) m n K
    | false=>jku L nt y (setC c t false) m n K
   | _=>False
 | .block id b,t,m,n,K=>(match L id with | some h=>h | none=>jku L nt b) t m n fun e t m n=>match e with
  | .exit id'=>match Nat.beq id' id with
   | true=>K .normal t m n
   | false=>K (.exit id') t m n
  | e=>K e t m n
 | .loop b,t,m,n,K=>jm1 (jku L nt b) 64 t m n K
 | .scope b,t,m,n,K=>jku L nt b t m n fun e t m n=>match e with
  | .goto _=>False
  | e=>K e t m n
 | .exit id,t,m,n,K=>K (.exit id) t m n
 | .ret,t,m,n,K=>K .ret t m n
 | _,_,_,_,_=>False
def jch:Code→Bool
 | .region _ _ _=>true
 | .seq a b | .cond _ a b | .rangeFunc _ _ a b=>jch a&&jch b
 | .block _ b | .loop b | .scope b=>jch b
 | _=>true
def Sem(nt:Nat)(c:Code)(t:Tmps)(m:Lk)(n:Nat)(K:Exit→Tmps→Lk→Nat→Prop):Prop:=
 ∀(N:Nat)(w0:World)(ι:Nm)(a:Act)(w:World),RelS N w0 (· <n) nt t m ι a w→ ∀Q:Exit→Act→World→Prop,
  (∀e t' m' n' ι' a' w',K e t' m' n'→n≤n'→(∀k,k<n→ι' k=ι k)→RelS N w0 (· <n') nt t' m' ι' a' w'→Q e a' w')→c.wp P Q a w
def LOK(L:Nat→Option jcb)(nt:Nat):Code→Prop
 | .seq a b | .cond _ a b=>LOK L nt a∧LOK L nt b
 | .block id b=>(match L id with | some h=>∀t m n K,h t m n K→Sem P nt b t m n K | none=>LOK L nt b)
 | .loop b | .scope b=>LOK L nt b
 | _=>True
end
section
variable {P : Program} {G : Env} {ops : Array Oper} {nt n : Nat} {N : Nat} {w0 : World} {t : Tmps} {m : Lk} {ι : Nm} {a : Act} {w : World} {o : Oper}
def ji1(P:Program)(c:Code)(Q:Exit→Act→World→Prop)(a:Act)(w:World):Prop:=
 ∀(b:Frame)(k:List Item)(cs:List Frame),∃e a' w',Q e a' w'∧Arrives P (lone (b.at a (.code c:: .inLoop c::k)) cs w) b k cs e a' w'
theorem inLoop_loop{c:Code}{Q:Exit→Act→World→Prop}(h:ji1 P c Q a w):(Code.loop c).wp P Q a w:=have _:=tbs;
 fun b k cs=>let ⟨e,a',w',q,r⟩:=h b k cs;⟨e,a',w',q,.of_steps (.one step_loop) r⟩
theorem inLoop_step{c:Code}{Q:Exit→Act→World→Prop}(h:c.wp P (Exit.then (ji1 P c Q) Q) a w):ji1 P c Q a w:=by
 have _:=tbs;intro b k cs;obtain⟨e,a₁,w₁,hq,harr⟩:=h b (.inLoop c::k) cs;cases e with
 | normal=>
  obtain⟨e₂,a₂,w₂,hq₂,harr₂⟩:=hq b k cs;exact⟨e₂,a₂,w₂,hq₂,.of_steps (Steps.trans harr (.one step_inLoop)) harr₂⟩
 | exit id=>exact⟨_,a₁,w₁,hq,.pass (x:= .inLoop c) rfl (fun _ _=> .inl (by simp)) harr⟩
 | goto l=>exact⟨_,a₁,w₁,hq,.pass (x:= .inLoop c) rfl (fun _ _=> .inl (by simp)) harr⟩
 | ret=>exact⟨_,a₁,w₁,hq,.pass (x:= .inLoop c) rfl (fun _ _=> .inl (by simp)) harr⟩
 | panic ch=>exact⟨_,a₁,w₁,hq,.pass (x:= .inLoop c) rfl (fun _ _=> .inl (by simp)) harr⟩
 | outgrown=>exact⟨_,a₁,w₁,hq,.pass (x:= .inLoop c) rfl (fun _ _=> .inl (by simp)) harr⟩
theorem iter_inLoop{c:Code}{body:jcb}(hb:∀t m n K,body t m n K→Sem P nt c t m n K):∀(q:Nat)(t:Tmps)(m:Lk)(n:Nat)(K:Exit→Tmps→Lk→Nat→Prop),jm1 body q t m n K→
  ∀(N:Nat)(w0:World)(ι:Nm)(a:Act)(w:World),RelS N w0 (· <n) nt t m ι a w→ ∀Q:Exit→Act→World→Prop,
   (∀e t' m' n' ι' a' w',K e t' m' n'→n≤n'→(∀k,k<n→ι' k=ι k)→RelS N w0 (· <n') nt t' m' ι' a' w'→Q e a' w')→ji1 P c Q a w
 | 0,_,_,_,_,h=>h.elim
 | q+1,t,m,n,K,h=>fun N w0 ι a w hrel Q hQ=>by
  simp only[jm1]at h;refine inLoop_step (hb t m n _ h N w0 ι a w hrel _ fun e t' m' n' ι' a' w' hk hn hι hr=> ?_);cases e with
  | normal=>exact iter_inLoop hb q t' m' n' K hk N w0 ι' a' w' hr Q fun e t2 m2 n2 ι2 a2 w2 hk2 hn2 hι2 hr2=>hQ e t2 m2 n2 ι2 a2 w2 hk2 (by omega) (fun k hk=>(hι2 k (by omega)).trans (hι k hk)) hr2
  | _=>exact hQ _ t' m' n' ι' a' w' hk hn hι hr
end
end Go.Ab
