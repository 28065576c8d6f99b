/-
  Ab7: the run and laws.
-/
import Derived.Test.YtiahilhlpmohoaaGreatDoorS1Ab6
set_option linter.unusedVariables false
set_option linter.unusedSimpArgs false
set_option linter.unusedSectionVars false
noncomputable section
namespace Go.Ab
open Go Go.RowKit
variable [Tabs]
section
variable {P : Program} {G : Env} {ops : Array Oper} {nt n0 : Nat} {N : Nat} {w0 : World} {S : Nat → Prop} {t : Tmps} {m : Lk} {ι : Nm} {a : Act} {w : World} {o : Oper}
theorem ev_put{d:Option Tmp}{v:Value}(h:∀x,d=some x→x∉o.looksAt ops){x:Operand}(hx:x∈o.op.operands):ev (tput t d v) x=ev t x:=by
 cases d with
 | none=>rfl
 | some d=>
  cases x with
  | tmp i=>
   have hne:i≠d:=fun e=>h d rfl (List.mem_append_left _ (List.mem_filterMap.2 ⟨.tmp i,by simpa using hx,by rw[e]⟩))
   simp[ev,tput_get,hne]
  | _=>rfl
theorem wantedA_put{d:Option Tmp}{v:Value}(h:∀x,d=some x→x∉o.looksAt ops):jbq ops nt (tput t d v) o=jbq ops nt t o:=by
 cases d with
 | none=>rfl
 | some d=>
  unfold jbq;cases hg:o.guard with
  | none=>rfl
  | some gw=>
   obtain⟨j,want⟩:=gw;simp only;cases hd:(ops[j]?).bind (·.dst)with
   | none=>rfl
   | some d'=>
    have hne:d'≠d:=fun e=>h d rfl (by
     refine List.mem_append_right _ ?_;simp only[hg,hd,Option.toList];simp[e])
    simp only[tput_get,hne,if_false]
theorem jgi{x y:Option Tmp}(h:∀d,x=some d→y≠some d)(v u:Value):tput (tput t x v) y u=tput (tput t y u) x v:=by
 cases x with
 | none=>rfl
 | some d=>
  cases y with
  | none=>rfl
  | some e=>
   have hne:d≠e:=fun he=>h d rfl (he▸rfl)
   funext j;simp only[tput_get];by_cases h1:j=e
   ·subst h1;simp[Ne.symm hne]
   ·by_cases h2:j=d
    ·subst h2;simp[h1]
    ·simp[h1,h2]
theorem upd_comm(m:Lk){x y:Nat}(b c:Blk)(h:x≠y):(m.upd x b).upd y c=(m.upd y c).upd x b:=by
 have _:=tbs;funext j;by_cases h1:j=y
 ·subst h1;rw[Lk.upd_same,Lk.upd_other _ _ (Ne.symm h),Lk.upd_same]
 ·by_cases h2:j=x
  ·subst h2;rw[Lk.upd_other _ _ h1,Lk.upd_same,Lk.upd_same]
  ·rw[Lk.upd_other _ _ h1,Lk.upd_other _ _ h2,Lk.upd_other _ _ h2,Lk.upd_other _ _ h1]
def jfu(x y:Oper):Bool:= !(jdu x&&jd3 y) && !(jdu y&&jd3 x)
theorem memApart_comm{x y:Oper}(h:jfu x y=true):jfu y x=true:=by
 have _:=tbs;unfold jfu at*;rw[Bool.and_comm];exact h
theorem store_touches{x:Oper}(h:jdu x=true):jd3 x=true:=by
 have _:=tbs;unfold jdu at h;unfold jd3;split at h
 ·rename_i hop;rw[hop]
 ·cases h
def jg7(ops:Array Oper):Operand→Bool
 | .tmp d=>ops.toList.all fun o=>match o.dst with | some d'=> !(Nat.beq d' d) | none=>true
 | _=>false
def jja(t0:Tmps)(x y:Operand):Bool:=match own? (ev t0 x),own? (ev t0 y)with
 | some (k,_,_),some (k',_,_)=> !(Nat.beq k k')
 | _,_=>false
def ldst(ops:Array Oper)(t0:Tmps)(x y:Oper):Bool:=match x.op,y.op with
 | .load _ p,.store _ q _=>jg7 ops p&&jg7 ops q&&jja t0 p q
 | .store _ p _,.load _ q=>jg7 ops p&&jg7 ops q&&jja t0 p q
 | _,_=>false
def memD(ops:Array Oper)(t0:Tmps)(x y:Oper):Bool:=jfu x y || ldst ops t0 x y
def Fix(ops:Array Oper)(t0 t:Tmps):Prop:=∀x,jg7 ops x=true→ev t x=ev t0 x
theorem farPtr_comm{t0:Tmps}{x y:Operand}(h:jja t0 x y=true):jja t0 y x=true:=by
 have _:=tbs;unfold jja at*;split at h
 ·rename_i k _ _ k' _ _ h1 h2;rw[h1,h2];show(!(Nat.beq k' k))=true;cases hb:Nat.beq k' k
  ·rfl
  ·obtain rfl:=jah hb;rw[hb]at h;exact h
 ·cases h
theorem memD_comm{t0:Tmps}{x y:Oper}(h:memD ops t0 x y=true):memD ops t0 y x=true:=by
 unfold memD at*;rw[Ko]at*;rcases h with h | h
 ·exact .inl (memApart_comm h)
 ·refine .inr ?_;unfold ldst at*;split at h
  ·rename_i h1 h2;rw[h1,h2];simp only[jaf]at*;exact⟨⟨h.1.2,h.1.1⟩,farPtr_comm h.2⟩
  ·rename_i h1 h2;rw[h1,h2];simp only[jaf]at*;exact⟨⟨h.1.2,h.1.1⟩,farPtr_comm h.2⟩
  ·cases h
theorem Fix.refl(t:Tmps):Fix ops t t:=have _:=tbs;fun _ _=>rfl
theorem Fix.put{t0 t:Tmps}(h:Fix ops t0 t){i:Nat}{o:Oper}(ho:ops[i]?=some o)(v:Value):Fix ops t0 (tput t o.dst v):=by
 intro x hx;rw[←h x hx];cases x with
 | tmp d=>
  simp only[jg7,Kf]at hx;have:=hx o (by simpa using Array.mem_of_getElem? ho);simp only[ev];cases hd:o.dst with
  | none=>rfl
  | some d'=>
   rw[hd]at this;simp only[Ks]at this;rw[tput_get];split
   ·rename_i he;subst he;have:Nat.beq d d=true:=by simp
    simp_all
   ·rfl
 | _=>rfl
theorem Fix.step{t0:Tmps}(h:Fix ops t0 t){i:Nat}{s':Tmps×Lk}(hs:jd6 P G ops nt n0 i (t,m)=some s'):Fix ops t0 s'.1:=by
 unfold jd6 at hs;split at hs
 ·cases hs;exact h
 ·rename_i o ho;split at hs
  ·split at hs
   ·cases hs;exact h.put ho _
   ·cases hs
  ·cases hs;exact h.put ho _
theorem store_blk{o':Oper}{e':Operand→Value}{c':Bool}{q:Nat}{b:Blk}{ty:TypeId}{p v:Operand}(hop:o'.op= .store ty p v)(hr:aop P G o' e' m=some (c',.upd q b)):
  ∃off sp,own? (e' p)=some (q,off,sp):=by
 simp only[aop,hop]at hr;split at hr
 ·rename_i k off sp hk;split at hr
  ·unfold jh3 at hr;split at hr
   ·split at hr
    ·simp only[Kb,Ke,Res.upd.injEq]at hr;exact⟨off,sp,hr.2.1▸hk⟩
    ·cases hr
   ·cases hr
  ·cases hr
 ·cases hr
theorem own_ids{v:Value}{k off sp:Nat}(h:own? v=some (k,off,sp)):∀j∈ids v,j=k:=by
 have _:=tbs;unfold own? at h;split at h
 ·rename_i a;split at h
  ·rename_i s hs;simp only[Kb,Ke]at h;simp[ids,hs,h.1]
  ·cases h
 ·cases h
theorem aop_frame{o':Oper}{c':Bool}{r':Res}{t0:Tmps}(hfix:Fix ops t0 t)(hwf:WF S nt t m)(hok:jb7 nt o=true){id:Nat}(hid:¬S id)(hr:aop P G o' (ev t) m=some (c',r'))(hma:memD ops t0 o' o=true):
  aop P G o (ev t) (jc5 id r' m)=aop P G o (ev t) m:=by
 refine jiz (fun _ _=>rfl) fun ht x hx k hk=> ?_
 have hS:S k:=jcr hwf hok hx k hk
  |> fun h=>h
 cases r' with
 | val v=>rfl
 | ptr b=>exact Lk.upd_other _ _ fun e=>hid (e▸hS)
 | slc b n=>exact Lk.upd_other _ _ fun e=>hid (e▸hS)
 | upd q b=>
  have h1:=((jfp hr).2 q b rfl).2;unfold memD at hma;rw[Ko]at hma;rcases hma with hma | hma
  ·simp[jfu,h1,ht]at hma
  ·unfold ldst at hma;split at hma
   ·rename_i h2 _;simp[jdu,h2]at h1
   ·rename_i ty p v ty' p' h2 h3;simp only[jaf]at hma;obtain⟨⟨f1,f2⟩,f3⟩:=hma;obtain⟨off,sp,hq⟩:=store_blk h2 hr;unfold jja at f3;rw[←hfix _ f1,←hfix _ f2,hq]at f3;split at f3
    ·rename_i hA hB;simp only[Kb,Ke]at hA;simp only[h3,Op.operands,List.mem_toArray,List.mem_singleton]at hx;have hx':x=p':=by simpa using hx
     subst hx';have:=own_ids hB k hk;refine Lk.upd_other _ _ fun e=> ?_
     rw[←hA.1,←this,e]at f3;have hb:Nat.beq q q=true:=by simp
     simp[hb]at f3
    ·cases f3
   ·cases hma
theorem applyM_comm{o o':Oper}{e e':Operand→Value}{c c':Bool}{r r':Res}(hwf:WF S nt t m){id id':Nat}(hid:¬S id)(hid':¬S id')(hne:id≠id')
  (hr:aop P G o e m=some (c,r)) (hr':aop P G o' e' m=some (c',r')) {t0:Tmps} (hma:memD ops t0 o o'=true):jc5 id' r' (jc5 id r m)=jc5 id r (jc5 id' r' m):=by
 have key:∀q b,r= .upd q b→S q:=fun q b e=>by obtain⟨b0,h0⟩:=((jfp hr).2 q b e).1;exact(hwf.mem q b0 h0).1
 have key':∀q b,r'= .upd q b→S q:=fun q b e=>by obtain⟨b0,h0⟩:=((jfp hr').2 q b e).1;exact(hwf.mem q b0 h0).1
 cases r with
 | val v=>rfl
 | ptr b=>
  cases r' with
  | val v=>rfl
  | ptr b'=>exact upd_comm _ _ _ hne
  | slc b' n=>exact upd_comm _ _ _ hne
  | upd q b'=>exact upd_comm _ _ _ fun e=>hid (e▸key' q b' rfl)
 | slc b n=>
  cases r' with
  | val v=>rfl
  | ptr b'=>exact upd_comm _ _ _ hne
  | slc b' n=>exact upd_comm _ _ _ hne
  | upd q b'=>exact upd_comm _ _ _ fun e=>hid (e▸key' q b' rfl)
 | upd q b=>
  cases r' with
  | val v=>rfl
  | ptr b'=>exact upd_comm _ _ _ fun e=>hid' (e▸key q b rfl)
  | slc b' n=>exact upd_comm _ _ _ fun e=>hid' (e▸key q b rfl)
  | upd q' b'=>
   have h1:=((jfp hr).2 q b rfl).2;have h2:=store_touches ((jfp hr').2 q' b' rfl).2;have h3:=((jfp hr').2 q' b' rfl).2;unfold memD at hma;rw[Ko]at hma;rcases hma with hma | hma
   ·simp[jfu,h1,h2]at hma
   ·unfold ldst at hma;split at hma
    ·rename_i h4 _;simp[jdu,h4]at h1
    ·rename_i h4;simp[jdu,h4]at h3
    ·cases hma
theorem swap{t0:Tmps}(hfix:Fix ops t0 t){i j:Nat}{oi oj:Oper}(hi:ops[i]?=some oi)(hj:ops[j]?=some oj)(hne:i≠j)(hap:oi.apart ops oj=true)(hma:memD ops t0 oi oj=true)(hwf:WF S nt t m)(hSi:¬S (n0+i))(hSj:¬S (n0+j))
  {si sij:Tmps×Lk} (h1:jd6 P G ops nt n0 i (t,m)=some si) (h2:jd6 P G ops nt n0 j si=some sij):
  ∃sj,jd6 P G ops nt n0 j (t,m)=some sj∧jd6 P G ops nt n0 i sj=some sij:=by
 obtain⟨a1,a2,a3⟩:=Oper.apart_spec hap;have a2':∀d,oj.dst=some d→oi.dst≠some d:=fun d hd hd'=>a2 d hd' hd
 have ejw:∀v,jbq ops nt (tput t oi.dst v) oj=jbq ops nt t oj:=fun v=>wantedA_put a1
 have eiw:∀v,jbq ops nt (tput t oj.dst v) oi=jbq ops nt t oi:=fun v=>wantedA_put a3
 have eja:∀v mm,aop P G oj (ev (tput t oi.dst v)) mm=aop P G oj (ev t) mm:=fun v mm=>jiz (fun x hx=>ev_put a1 hx) fun _ _ _ _ _=>rfl
 have eia:∀v mm,aop P G oi (ev (tput t oj.dst v)) mm=aop P G oi (ev t) mm:=fun v mm=>jiz (fun x hx=>ev_put a3 hx) fun _ _ _ _ _=>rfl
 have hnid:n0+i≠n0+j:=by omega
 unfold jd6 at h1 h2 ⊢;simp only[hi,hj]at h1 h2 ⊢;cases hwi:jbq ops nt t oi with
 | false=>
  simp only[hwi,Kb]at h1;subst h1;simp only[ejw]at h2;cases hwj:jbq ops nt t oj with
  | false=>
   simp only[hwj,Kb]at h2;subst h2;refine⟨_,rfl,?_⟩;simp only[eiw,hwi];rw[jgi a2]
  | true=>
   simp only[hwj,eja]at h2;cases hok:jb7 nt oj with
   | false=>simp[hok]at h2
   | true=>
    simp only[hok]at h2;split at h2
    ·rename_i r _ hr;simp only[Kb]at h2;subst h2;simp only[hr];refine⟨_,rfl,?_⟩;simp only[eiw,hwi];rw[jgi a2]
    ·cases h2
 | true=>
  simp only[hwi]at h1;cases hoki:jb7 nt oi with
  | false=>simp[hoki]at h1
  | true=>
   simp only[hoki]at h1;split at h1
   ·rename_i ri _ hri;simp only[Kb]at h1;subst h1;simp only[ejw]at h2;cases hwj:jbq ops nt t oj with
    | false=>
     simp only[hwj,Kb]at h2;subst h2;refine⟨_,rfl,?_⟩;simp only[eiw,hwi,hoki,eia,hri];rw[jgi a2]
    | true=>
     simp only[hwj,eja]at h2;cases hok:jb7 nt oj with
     | false=>simp[hok]at h2
     | true=>
      simp only[hok]at h2;rw[aop_frame hfix hwf hok hSi hri hma]at h2;split at h2
      ·rename_i rj _ hrj;simp only[Kb]at h2;subst h2;simp only[hrj];refine⟨_,rfl,?_⟩;simp only[eiw,hwi,hoki,eia];rw[aop_frame hfix hwf hoki hSj hrj (memD_comm hma),hri];simp only;rw[jgi a2,applyM_comm hwf hSi hSj hnid hri hrj hma]
      ·cases h2
   ·cases h1
def AAny(P:Program)(G:Env)(ops:Array Oper)(nt n0:Nat)(K:Tmps×Lk→Prop):Nat→Array Bool→Tmps×Lk→Prop
 | 0,listed,s=>Region.ready .any ops listed=[]∧K s
 | fuel+1,listed,s=>
  (Region.ready .any ops listed=[]→K s)∧
  ∀i∈Region.ready .any ops listed,∃s',jd6 P G ops nt n0 i s=some s'∧AAny P G ops nt n0 K fuel (listed.setIfInBounds i true) s'
def Sn(n0:Nat)(listed:Array Bool):Nat→Prop:=fun k=>k<n0∨ ∃d,listed.getD d false=true∧k=n0+d
theorem Sn_set{listed:Array Bool}{i:Nat}{k:Nat}(h:Sn n0 listed k∨k=n0+i)(hi:i<listed.size):Sn n0 (listed.setIfInBounds i true) k:=by
 have _:=tbs;rcases h with(h | ⟨d,hd,rfl⟩) | rfl
 ·exact .inl h
 ·exact .inr ⟨d,getD_set_true hd,rfl⟩
 ·exact .inr ⟨i,by simp[hi],rfl⟩
theorem not_Sn{listed:Array Bool}{i:Nat}(h:listed.getD i true=false):¬Sn n0 listed (n0+i):=by
 have _:=tbs;rintro (h' | ⟨d,hd,he⟩)
 ·omega
 ·have:d=i:=by omega
  subst this;rcases Nat.lt_or_ge d listed.size with hlt | hge
  ·simp[hlt]at h hd;rw[h]at hd;cases hd
  ·simp[Array.getElem?_eq_none hge]at h
theorem getD_lt{listed:Array Bool}{i:Nat}(h:listed.getD i true=false):i<listed.size:=by
 have _:=tbs;rcases Nat.lt_or_ge i listed.size with hlt | hge
 ·exact hlt
 ·simp[Array.getElem?_eq_none hge]at h
theorem wpAny_of_AAny(hG:jfq P G){ι0:Nm}{K:Tmps×Lk→Prop}{Q:Exit→Act→World→Prop}
  (hK:∀listed t m ι a w,K (t,m)→(∀k,k<n0→ι k=ι0 k)→RelS N w0 (Sn n0 listed) nt t m ι a w→listed.size=ops.size→Q .normal a w):
  ∀(fuel:Nat)(listed:Array Bool)(t:Tmps)(m:Lk)(ι:Nm)(a:Act)(w:World),(∀k,k<n0→ι k=ι0 k)→listed.size=ops.size→RelS N w0 (Sn n0 listed) nt t m ι a w→
   AAny P G ops nt n0 K fuel listed (t,m)→wpAny P .any ops Q fuel listed a w
 | 0,listed,t,m,ι,a,w,hι,hsz,hrel,h=>⟨h.1,hK listed t m ι a w h.2 hι hrel hsz⟩
 | fuel+1,listed,t,m,ι,a,w,hι,hsz,hrel,h=>by
  refine⟨fun h0=>hK listed t m ι a w (h.1 h0) hι hrel hsz,fun i hi=> ?_⟩;obtain⟨s',hs',hrest⟩:=h.2 i hi;have hun:=(mem_ready.1 hi).1;refine step1_real hG hrel (not_Sn hun) hs' fun ι' a' w' hι' hrel'=> ?_
  refine wpAny_of_AAny hG hK fuel _ s'.1 s'.2 ι' a' w' (fun k hk=>(hι' k (.inl hk)).trans (hι k hk)) (by simpa using hsz) ⟨hrel'.tmps,hrel'.defers,hrel'.mem,hrel'.wf.mono fun k hk=>Sn_set hk (getD_lt hun)⟩ hrest
theorem step1_wf{i:Nat}(hwf:WF S nt t m){s':Tmps×Lk}(h:jd6 P G ops nt n0 i (t,m)=some s'):WF (fun k=>S k∨k=n0+i) nt s'.1 s'.2:=by
 unfold jd6 at h;split at h
 ·cases h;exact hwf.mono fun _=> .inl
 ·split at h
  ·split at h
   ·rename_i hok hr;cases h;exact jkv hwf hok hr
   ·cases h
  ·cases h;exact(jkw hwf _).mono fun _=> .inl
def joa(ops:Array Oper)(t0:Tmps)(listed:Array Bool)(i:Nat):Bool:=
 match ops[i]? with
 | none=>false
 | some oi => (List.range ops.size).all fun j => j == i || listed.getD j true || match ops[j]? with
   | some oj=>oj.after.any (fun e=>Region.binds .any e&&e.on==i) || (oi.apart ops oj&&memD ops t0 oi oj)
   | none=>true
theorem freeA_spec{t0:Tmps}{i:Nat}{oi:Oper}{listed:Array Bool}(hi:ops[i]?=some oi)(h:joa ops t0 listed i=true)(j:Nat)(oj:Oper)
  (hj:ops[j]?=some oj) (hne:j≠i) (hun:listed.getD j true=false) (hno:∀e∈oj.after,Region.binds .any e=true→e.on≠i):
  oi.apart ops oj=true∧memD ops t0 oi oj=true:=by
 have _:=tbs;simp only[joa,hi,Kf,List.mem_range]at h;have h1:=h j (Array.getElem?_eq_some_iff.1 hj).1;simp only[hj,Ko,K4,hne,false_or,hun,Bool.false_eq_true,jaf]at h1;rcases h1 with h1 | h1
 ·obtain⟨e,he,hb⟩:=Array.any_eq_true'.1 h1;simp only[jaf,K4]at hb;exact absurd hb.2 (hno e he hb.1)
 ·exact h1
theorem AAny_first{t0:Tmps}{K:Tmps×Lk→Prop}{i:Nat}{oi:Oper}(hi:ops[i]?=some oi):
  ∀(fuel:Nat)(listed:Array Bool)(t:Tmps)(m:Lk)(si:Tmps×Lk),listed.size=ops.size→
   (∀j oj,ops[j]?=some oj→j≠i→listed.getD j true=false→(∀e∈oj.after,Region.binds .any e=true→e.on≠i)→oi.apart ops oj=true∧memD ops t0 oi oj=true)→Fix ops t0 t→
   WF (Sn n0 listed) nt t m→i∈Region.ready .any ops listed→jd6 P G ops nt n0 i (t,m)=some si→
   AAny P G ops nt n0 K fuel (listed.setIfInBounds i true) si→AAny P G ops nt n0 K (fuel+1) listed (t,m):=by
 intro fuel
 induction fuel with
 | zero=>
  intro listed t m si hsz hfree hfix hwf hr hy H;refine⟨fun h=>(by rw[h]at hr;cases hr),fun j hj=> ?_⟩;by_cases hji:j=i
  ·subst hji;exact⟨si,hy,H⟩
  ·have:=ready_mono hj hji;rw[H.1]at this;cases this
 | succ fuel ih=>
  intro listed t m si hsz hfree hfix hwf hr hy H;refine⟨fun h=>(by rw[h]at hr;cases hr),fun j hj=> ?_⟩;by_cases hji:j=i
  ·subst hji;exact⟨si,hy,H⟩
  ·obtain⟨sij,h1,h1'⟩:=H.2 j (ready_mono hj hji);obtain⟨hjun,oj,hoj,hall⟩:=mem_ready.1 hj;have hiun:=(mem_ready.1 hr).1
   have hnot:∀e∈oj.after,Region.binds .any e=true→e.on≠i:=fun e he hb heq=>by
    have h1:=hall e he hb;rw[heq]at h1;rcases Nat.lt_or_ge i listed.size with h' | h'
    ·simp[h']at hiun h1;rw[hiun]at h1;cases h1
    ·simp[Array.getElem?_eq_none h']at h1
   obtain⟨hap,hma⟩:=hfree j oj hoj hji hjun hnot;obtain⟨sj,h2,h3⟩:=swap hfix hi hoj (Ne.symm hji) hap hma hwf (not_Sn hiun) (not_Sn hjun) hy h1;refine⟨sj,h2,?_⟩
   have hfree':∀k ok,ops[k]?=some ok→k≠i→(listed.setIfInBounds j true).getD k true=false→
     (∀e∈ok.after,Region.binds .any e=true→e.on≠i)→oi.apart ops ok=true∧memD ops t0 oi ok=true:=fun k ok hk hki hun hno=>by
    refine hfree k ok hk hki ?_ hno;by_cases hjk:j=k
    ·subst hjk;exact hjun
    ·rw[getD_set_ne true hjk]at hun;exact hun
   refine ih (listed.setIfInBounds j true) sj.1 sj.2 sij (by simpa using hsz) hfree' (hfix.step h2) ((step1_wf hwf h2).mono fun k hk=>Sn_set hk (getD_lt hjun)) (ready_mono hr (Ne.symm hji)) h3 ?_;rw[Array.setIfInBounds_comm _ _ hji];exact h1'
def jgr(ops:Array Oper)(t0:Tmps):Nat→Nat→Array Bool→Bool
 | 0,_,listed=>(Region.ready .any ops listed).isEmpty
 | fuel+1,k,listed=>(Region.ready .any ops listed).contains k&&joa ops t0 listed k&&jgr ops t0 fuel (k+1) (listed.setIfInBounds k true)
def lexA(ops:Array Oper)(t0:Tmps):Bool:=jgr ops t0 ops.size 0 (Array.replicate ops.size false)
def runL(P:Program)(G:Env)(ops:Array Oper)(nt n0:Nat):Nat→Nat→Tmps×Lk→Option (Tmps×Lk)
 | 0,_,s=>some s
 | n+1,k,s=>(jd6 P G ops nt n0 k s).bind (runL P G ops nt n0 n (k+1))
theorem AAny_lex{t0:Tmps}{K:Tmps×Lk→Prop}:∀(n k:Nat)(listed:Array Bool)(t:Tmps)(m:Lk)(s':Tmps×Lk),listed.size=ops.size→k+n=ops.size→Fix ops t0 t→WF (Sn n0 listed) nt t m→
  jgr ops t0 n k listed=true→runL P G ops nt n0 n k (t,m)=some s'→K s'→AAny P G ops nt n0 K n listed (t,m)
 | 0,_,_,t,m,s',_,_,_,_,hB,h,hK=>by
  simp only[runL,Kb]at h;subst h;exact⟨by simpa[jgr]using hB,hK⟩
 | n+1,k,listed,t,m,s',hsz,hk,hfix,hwf,hB,h,hK=>by
  simp only[jgr,jaf]at hB;obtain⟨⟨hr,hf⟩,hB'⟩:=hB;have hlt:k<ops.size:=by omega
  have h0:ops[k]?=some ops[k]:=Array.getElem?_eq_getElem hlt;have hr':k∈Region.ready .any ops listed:=by simpa using hr
  simp only[runL,Option.bind_eq_some_iff]at h;obtain⟨si,hs,hrest⟩:=h;have hun:=(mem_ready.1 hr').1
  exact AAny_first h0 n listed t m si hsz (freeA_spec h0 hf) hfix hwf hr' hs
   (AAny_lex n (k+1) _ si.1 si.2 s' (by simpa using hsz) (by omega) (hfix.step hs) ((step1_wf hwf hs).mono fun q hq=>Sn_set hq (getD_lt hun)) hB' hrest hK)
theorem region_draw(hG:jfq P G)(hm:P.follows .mixedOrders=true)(hB:lexA ops t=true){id:Nat}{s':Tmps×Lk}(h:runL P G ops nt n0 ops.size 0 (t,m)=some s')
  (hrel:RelS N w0 (· <n0) nt t m ι a w) {Q:Exit→Act→World→Prop}
  (hQ:∀ι' a' w',(∀k,k<n0→ι' k=ι k)→RelS N w0 (· <n0+ops.size) nt s'.1 s'.2 ι' a' w'→Q .normal a' w'):(Code.region id ops true).wp P Q a w:=by
 refine wp_region_any hm ?_
 have hgetD:∀d,(Array.replicate ops.size false).getD d false=false:=fun d=>by
  rcases Nat.lt_or_ge d ops.size with hlt | hge
  ·simp[hlt]
  ·simp[Array.getElem?_eq_none,hge]
 have hrel':RelS N w0 (Sn n0 (Array.replicate ops.size false)) nt t m ι a {w with drawn:=w.drawn+1}:=
  ⟨hrel.tmps,hrel.defers,⟨hrel.mem.below.drew,hrel.mem.base,hrel.mem.blk,hrel.mem.view,hrel.mem.inj⟩,hrel.wf.mono fun k hk=> .inl hk⟩
 refine wpAny_of_AAny hG (ι0:=ι) (K:=fun s=>s=s') (fun listed t1 m1 ι1 a1 w1 hk hι hr hsz=> ?_) ops.size _ t m ι a _ (fun _ _=>rfl) (by simp) hrel'
  (AAny_lex ops.size 0 _ t m s' (by simp) (by omega) (Fix.refl t) hrel'.wf hB h rfl)
 subst hk;refine hQ ι1 a1 w1 hι ⟨hr.tmps,hr.defers,hr.mem,hr.wf.mono fun k hk=> ?_⟩;rcases hk with hk | ⟨d,hd,rfl⟩
 ·omega
 ·have:d<listed.size:=by
   rcases Nat.lt_or_ge d listed.size with hlt | hge
   ·exact hlt
   ·simp[Array.getElem?_eq_none hge]at hd
  omega
end
end Go.Ab
