/-
  Ab15: the run and laws.
-/
import Derived.Test.YtiahilhlpmohoaaGreatDoorS1Ab14
import Derived.Test.YtiahilhlpmohoaaGreatDoorS1AbW
set_option linter.unusedVariables false
set_option linter.unusedSimpArgs false
set_option linter.unusedSectionVars false
noncomputable section
namespace Go.Ab
open Go Go.RowKit
variable [Tabs]
def appOp(o:Oper):Bool:=match o.op with
 | .call c=>match c.callee with
  | .builtin .append=>true
  | _=>false
 | _=>false
def hasNew(ops:Array Oper):Bool:=ops.toList.any fun o=>jkl o || appOp o || jdu o
def joinsOn(L:Nat→Option jcb):Bool:=match L 4611686018427387904 with | some _=>true | none=>false
def jvar(L:Nat→Option jcb)(i:Nat):Bool:=match L (4611686018427387905+i)with | some _=>true | none=>false
def jV(l:List Nat):Nat→Option jcb:=fun j=>match Nat.ble 4611686018427387904 j with
 | true=>match Nat.beq j 4611686018427387904 || l.any (fun i=>Nat.beq j (4611686018427387905+i))with
  | true=>some fun _ _ _ _=>False
  | false=>none
 | false=>none
def asgC:Code→Nat→Bool
 | .region _ ops _,i=>asgd ops.toList i
 | .seq a b,i | .cond _ a b,i=>asgC a i || asgC b i
 | .block _ b,i=>asgC b i
 | _,_=>false
def jnx:List Oper→List Nat
 | []=> []
 | o::r=>match o.op,o.dst with
  | .assign _,some d=>d::jnx r
  | _,_=>jnx r
def jmo:Code→List Nat
 | .region _ ops _=>jnx ops.toList
 | .seq a b | .cond _ a b=>jmo a++jmo b
 | .block _ b=>jmo b
 | _=> []
def canM:Value→Value→Bool
 | .bool _,.bool _=>true
 | .int k _,.int k' _=>k==k'
 | .string _,.string _=>true
 | _,_=>false
def opsC:Code→Nat
 | .region _ ops _=>ops.toList.length
 | .seq a b | .cond _ a b=>opsC a+opsC b
 | .block _ b=>opsC b
 | _=>0
def frc{α:Sort _}(v:Value)(k:Value→α):α:=match v with
 | .int a b=>k (.int a b)
 | .bool b=>k (.bool b)
 | .string s=>k (.string s)
 | .pointer a=>k (.pointer a)
 | .slice a b c=>k (.slice a b c)
 | .agg c=>k (.agg c)
 | .tuple c=>k (.tuple c)
 | .iface t v=>k (.iface t v)
 | .func f a b=>k (.func f a b)
 | .float a b=>k (.float a b)
 | .complex a b c=>k (.complex a b c)
 | .map a=>k (.map a)
 | .chan a=>k (.chan a)
 | .nilFunc=>k .nilFunc
 | .nilIface=>k .nilIface
theorem frc_eq{α:Sort _}(v:Value)(k:Value→α):frc v k=k v:=by have _:=tbs;cases v<;>rfl
def frcL{α:Sort _}(f:Nat→Bool):List Nat→Tmps→Tmps→(Tmps→α)→α
 | [],_,t,k=>k t
 | i::r,t1,t,k=>match f i with
  | true=>frc (t1 i) fun v=>frcL f r t1 (tput t (some i) v) k
  | false=>frcL f r t1 (tput t (some i) (t1 i)) k
def jhj:List Nat→Tmps→Tmps→Tmps
 | [],_,t=>t
 | i::r,t1,t=>jhj r t1 (tput t (some i) (t1 i))
theorem jij{α:Sort _}(f:Nat→Bool):∀(l:List Nat)(t1 t:Tmps)(k:Tmps→α),frcL f l t1 t k=k (jhj l t1 t)
 | [],_,_,_=>rfl
 | i::r,t1,t,k=>by
  simp only[frcL,jhj,frc_eq,jij f r];split<;>rfl
theorem jew:∀(l:List Nat)(t1 t:Tmps)(i:Nat),(i∈l∧jhj l t1 t i=t1 i)∨(i∉l∧jhj l t1 t i=t i)
 | [],t1,t,i=> .inr ⟨by simp,rfl⟩
 | j::r,t1,t,i=>by
  simp only[jhj];rcases jew r t1 (tput t (some j) (t1 j)) i with⟨h1,h2⟩ | ⟨h1,h2⟩
  ·exact .inl ⟨Kj _ h1,h2⟩
  ·rw[tput_get]at h2;by_cases e:i=j
   ·subst e;rw[Kd rfl]at h2;exact .inl ⟨Kh ..,h2⟩
   ·rw[Kc e]at h2;exact .inr ⟨by simp[e,h1],h2⟩
def jks:List Oper→List Nat
 | []=> []
 | o::r=>match o.dst with
  | some d=>d::jks r
  | none=>jks r
def jfl:Code→List Nat
 | .region _ ops _=>jks ops.toList
 | .seq a b | .cond _ a b=>jfl a++jfl b
 | .block _ b=>jfl b
 | _=> []
def freeD(l:List Oper)(i:Nat):Bool:=l.all fun o=>match o.dst,o.guard with
 | some d,some _=> !Nat.beq i d
 | _,_=>true
theorem dstsL_asgd:∀(l:List Oper)(i:Nat),i∉jks l→asgd l i=false
 | [],i,_=>have _:=tbs;rfl
 | o::r,i,h=>by
  simp only[jks]at h;simp only[asgd,List.any_cons,Kr];cases hd:o.dst with
  | none=>rw[hd]at h;exact⟨rfl,dstsL_asgd r i h⟩
  | some d=>
   rw[hd]at h;simp only[Kg,not_or]at h;refine⟨?_,dstsL_asgd r i h.2⟩;simp only;cases hb:Nat.beq i d
   ·rfl
   ·exact absurd (jah hb) h.1
theorem jeu:∀(c:Code)(i:Nat),i∉jfl c→asgC c i=false
 | .region _ ops _,i,h=>dstsL_asgd _ i h
 | .seq a b,i,h | .cond _ a b,i,h=>by
  simp only[jfl,Kq,not_or]at h;simp only[asgC,jeu a i h.1,jeu b i h.2,Bool.or_self]
 | .block _ b,i,h=>jeu b i h
 | .skip,_,_ | .label _,_,_ | .exit _,_,_ | .ret,_,_ | .goto _,_,_ | .loop _,_,_ | .scope _,_,_ | .rangeFunc ..,_,_ | .refuse _,_,_=>rfl
section
variable (P : Program) (G : Env)
def cJ(L:Nat→Option jcb)(nt:Nat)(m:Lk):Code→Tmps→Option (Bool×Tmps)
 | .skip,t=>some (true,t)
 | .region _ ops d,t=>match jl7 G ops || hasNew ops with
  | true=>none
  | false=>match !d || lexA ops t with
   | true=>match opsJ P G ops nt m ops.toList [] t with
    | (c,t1)=>frcL (freeD ops.toList) (jks ops.toList) t1 t fun t'=>some (c,t')
   | false=>none
 | .seq a b,t=>match cJ L nt m a t with
  | some (c1,t1)=>match cJ L nt m b t1 with
   | some (c2,t2)=>some (bif c1 then c2 else false,t2)
   | none=>none
  | none=>none
 | .cond c x y,t=>match opOk nt c with
  | false=>none
  | true=>match ev t c with
   | .bool b=>match cJ L nt m x t,cJ L nt m y t with
    | some (cx,tx),some (cy,ty)=>match (jmo x++jmo y).all fun i=> !jvar L i || canM (tx i) (ty i)with
     | true=>frcL (jvar L) (jfl x++jfl y) (fun i=>jfg b (tx i) (ty i)) t fun t'=>some (bif b then cx else cy,t')
     | false=>none
    | _,_=>none
   | _=>none
 | .block id b,t=>match L id with
  | some _=>none
  | none=>cJ L nt m b t
 | _,_=>none
end
section
variable {P : Program} {G : Env} {nt n : Nat} {m : Lk}
theorem je8{L:Nat→Option jcb}:∀(c:Code)(t:Tmps){ok:Bool}{t':Tmps}(i:Nat),cJ P G L nt m c t=some (ok,t')→asgC c i=false→t' i=t i
 | .skip,t,ok,t',i,h,_=>by cases h;rfl
 | .region _ ops d,t,ok,t',i,h,ha=>by
  simp only[cJ]at h;split at h
  ·cases h
  ·split at h
   ·rw[jij]at h;cases h;rcases jew (jks ops.toList) (opsJ P G ops nt m ops.toList [] t).2 t i with⟨_,h2⟩ | ⟨_,h2⟩
    ·rw[h2];exact jep (P:=P) (G:=G) (ops:=ops) (nt:=nt) (m:=m) ops.toList [] t i ha
    ·exact h2
   ·cases h
 | .seq a b,t,ok,t',i,h,ha=>by
  simp only[asgC,Kr]at ha;simp only[cJ]at h;split at h
  ·rename_i c1 t1 h1;split at h
   ·rename_i c2 t2 h2;cases h;rw[je8 b t1 i h2 ha.2,je8 a t i h1 ha.1]
   ·cases h
  ·cases h
 | .cond c x y,t,ok,t',i,h,ha=>by
  simp only[cJ]at h;split at h
  ·cases h
  ·split at h
   ·split at h
    ·rename_i b _ _ _ cx tx cy ty hx hy;split at h
     ·rw[jij]at h;cases h;simp only[asgC,Kr]at ha;rcases jew (jfl x++jfl y) (fun i=>jfg b (tx i) (ty i)) t i with⟨_,h2⟩ | ⟨_,h2⟩
      ·rw[h2,je8 x t i hx ha.1,je8 y t i hy ha.2];cases b
       ·exact mergeV_false _ _
       ·exact mergeV_true _ _
      ·exact h2
     ·cases h
    ·cases h
   ·cases h
 | .block id b,t,ok,t',i,h,ha=>by
  simp only[cJ]at h;split at h
  ·cases h
  ·exact je8 b t i h ha
 | .label _,_,_,_,_,h,_ | .exit _,_,_,_,_,h,_ | .ret,_,_,_,_,h,_ | .goto _,_,_,_,_,h,_ | .loop _,_,_,_,_,h,_ | .scope _,_,_,_,_,h,_ | .rangeFunc ..,_,_,_,_,h,_ | .refuse _,_,_,_,_,h,_=>by cases h
theorem jf1(hG:ja3 P G)(hm:P.follows .mixedOrders=true){L:Nat→Option jcb}:∀(c:Code)(t:Tmps){t':Tmps}(n:Nat)(K:Exit→Tmps→Lk→Nat→Prop),jch c=true→cJ P G L nt m c t=some (true,t')→
  K .normal t' m (n+opsC c)→Sem P nt c t m n K
 | .skip,t,t',n,K,_,h,hk=>fun N w0 ι a w hrel Q hQ=>by
  cases h;exact wp_skip (hQ _ t m n ι a w hk (Kv _) (fun _ _=>rfl) hrel)
 | .region id ops d,t,t',n,K,hl,h,hk=>fun N w0 ι a w hrel Q hQ=>by
  simp only[cJ]at h;split at h
  ·cases h
  ·split at h
   ·rename_i hB;rw[jij]at h;simp only[Kb,Ke]at h;obtain⟨h1,h2⟩:=h
    have e:(opsJ P G ops nt m ops.toList [] t).2=t':=by
     rw[←h2];funext i;rcases jew (jks ops.toList) (opsJ P G ops nt m ops.toList [] t).2 t i with⟨_,q⟩ | ⟨q1,q⟩
     ·exact q.symm
     ·rw[q];exact jep (P:=P) (G:=G) (ops:=ops) (nt:=nt) (m:=m) ops.toList [] t i (dstsL_asgd _ i q1)
    have hs:opsR P G ops nt d ops.toList t m n fun t m n=>K .normal t m n:=jft ops.toList [] t n h1 (by rw[e];exact hk)
    exact jeg hG hm hB hs hrel fun t' m' n' ι' a' w' hk hn hι hr=>hQ _ t' m' n' ι' a' w' hk hn hι hr
   ·cases h
 | .seq x y,t,t',n,K,hl,h,hk=>fun N w0 ι a w hrel Q hQ=>by
  simp only[jch,jaf]at hl;simp only[cJ]at h;split at h
  ·rename_i c1 t1 h1;split at h
   ·rename_i c2 t2 h2;cases c1
    ·cases h
    ·simp only[cond_true,Kb,Ke]at h;obtain⟨rfl,rfl⟩:=h;refine wp_seq (jf1 hG hm x t n (fun e t m' n'=>e= .normal∧t=t1∧m'=m∧n'=n+opsC x) hl.1 h1 ⟨rfl,rfl,rfl,rfl⟩ N w0 ι a w hrel _ fun e t' m' n' ι' a' w' ⟨q1,q2,q3,q4⟩ hn hι hr=> ?_);subst q1;rw[q2,q3,q4]at hr;exact jf1 hG hm y t1 (n+opsC x) K hl.2 h2 (by rw[Nat.add_assoc];exact hk) N w0 ι' a' w' hr Q fun e t2 m2 n2 ι2 a2 w2 hk2 hn2 hι2 hr2=>hQ e t2 m2 n2 ι2 a2 w2 hk2 (by omega) (fun k hk=>(hι2 k (by omega)).trans (hι k hk)) hr2
   ·cases h
  ·cases h
 | .cond c x y,t,t',n,K,hl,h,hk=>fun N w0 ι a w hrel Q hQ=>by
  simp only[jch,jaf]at hl;simp only[cJ]at h;split at h
  ·cases h
  ·rename_i hok;have he:=hrel.eval hok;split at h
   ·rename_i b hb;rw[hb]at he;split at h
    ·rename_i cx tx cy ty hx hy;split at h
     ·rw[jij]at h;simp only[Kb,Ke]at h;obtain⟨h1,rfl⟩:=h;cases b
      ·simp only[cond_false]at h1;subst h1
       have e:jhj (jfl x++jfl y) (fun i=>jfg false (tx i) (ty i)) t=ty:=by
        funext i;rcases jew (jfl x++jfl y) (fun i=>jfg false (tx i) (ty i)) t i with⟨_,q⟩ | ⟨q1,q⟩
        ·rw[q];exact mergeV_false _ _
        ·rw[q];simp only[Kq,not_or]at q1;exact(je8 y t i hy (jeu y i q1.2)).symm
       rw[e]at hk;refine wp_cond (t:=false) (by rw[he];rfl) (jf1 hG hm y t n (fun e t m' n'=>e= .normal∧t=ty∧m'=m∧n'=n+opsC y) hl.2 hy ⟨rfl,rfl,rfl,rfl⟩ N w0 ι a w hrel Q fun e t' m' n' ι' a' w' ⟨q1,q2,q3,q4⟩ hn hι hr=> ?_);subst q1;rw[q2,q3,q4]at hr;exact hQ _ _ _ _ ι' a' w' hk (by simp only[opsC];omega) hι (hr.mono fun k hk=>by simp only[opsC];omega)
      ·simp only[cond_true]at h1;subst h1
       have e:jhj (jfl x++jfl y) (fun i=>jfg true (tx i) (ty i)) t=tx:=by
        funext i;rcases jew (jfl x++jfl y) (fun i=>jfg true (tx i) (ty i)) t i with⟨_,q⟩ | ⟨q1,q⟩
        ·rw[q];exact mergeV_true _ _
        ·rw[q];simp only[Kq,not_or]at q1;exact(je8 x t i hx (jeu x i q1.1)).symm
       rw[e]at hk;refine wp_cond (t:=true) (by rw[he];rfl) (jf1 hG hm x t n (fun e t m' n'=>e= .normal∧t=tx∧m'=m∧n'=n+opsC x) hl.1 hx ⟨rfl,rfl,rfl,rfl⟩ N w0 ι a w hrel Q fun e t' m' n' ι' a' w' ⟨q1,q2,q3,q4⟩ hn hι hr=> ?_);subst q1;rw[q2,q3,q4]at hr;exact hQ _ _ _ _ ι' a' w' hk (by simp only[opsC];omega) hι (hr.mono fun k hk=>by simp only[opsC];omega)
     ·cases h
    ·cases h
   ·cases h
 | .block id b,t,t',n,K,hl,h,hk=>fun N w0 ι a w hrel Q hQ=>by
  simp only[cJ]at h;split at h
  ·cases h
  ·refine wp_block (jf1 hG hm b t n (fun e t m' n'=>e= .normal∧t=t'∧m'=m∧n'=n+opsC b) (by simpa[jch]using hl) h ⟨rfl,rfl,rfl,rfl⟩ N w0 ι a w hrel _ fun e t' m' n' ι' a' w' ⟨q1,q2,q3,q4⟩ hn hι hr=> ?_);subst q1;rw[q2,q3,q4]at hr;simp only[Exit.inBlock];exact hQ _ _ _ _ ι' a' w' hk (by simp only[opsC];omega) hι hr
 | .label _,_,_,_,_,_,h,_ | .exit _,_,_,_,_,_,h,_ | .ret,_,_,_,_,_,h,_ | .goto _,_,_,_,_,_,h,_ | .loop _,_,_,_,_,_,h,_ | .scope _,_,_,_,_,_,h,_ | .rangeFunc ..,_,_,_,_,_,h,_ | .refuse _,_,_,_,_,_,h,_=>by cases h
end
section
variable (P : Program) (G : Env)
def jbn(L:Nat→Option jcb)(nt:Nat):Code→Tmps→Lk→Nat→(Exit→Tmps→Lk→Nat→Prop)→Prop
 | .skip,t,m,n,K=>K .normal t m n
 | .label _,t,m,n,K=>K .normal t m n
 | .region _ ops d,t,m,n,K=>match hasGuard ops&& !jl7 G ops&& !hasNew ops with
  | true=>match !d || lexA ops t with
   | true=>match opsJ P G ops nt m ops.toList [] t with
    | (c,t')=>bif cnd c then K .normal t' m (n+ops.toList.length)else False
   | false=>anyG P G ops nt (K .normal) ops.size (Array.replicate ops.size false) t m n
  | false=>match d with
   | false=>opsP P G ops nt ops.toList t m n (K .normal)
   | true=>match jl7 G ops with
    | true=>match Tabs.wide&&jn2 ops with
     | true=>anyW P G ops nt (K .normal) ops.size (Array.replicate ops.size false) t m n
     | false=>anyG P G ops nt (K .normal) ops.size (Array.replicate ops.size false) t m n
    | false=>match lexA ops t with
     | true=>opsR P G ops nt true ops.toList t m n (K .normal)
     | false=>anyG P G ops nt (K .normal) ops.size (Array.replicate ops.size false) t m n
 | .seq a b,t,m,n,K=>jbn L nt a t m n fun e t m n=>match e with
  | .normal=>jbn L nt b t m n K
  | e=>K e t m n
 | .cond c x y,t,m,n,K=>match (match joinsOn L with | true=>cJ P G L nt m (.cond c x y) t | false=>none)with
  | some (ok,t')=>bif cnd ok then K .normal t' m (n+opsC (.cond c x y))else False
  | none=>match opOk nt c with
   | false=>False
   | true=>match ev t c with
    | .bool b=>match b with
     | true=>jbn L nt x (setC c t true) m n K
     | false=>jbn L nt y (setC c t false) m n K
    | _=>False
 | .block id b,t,m,n,K=>(match L id with | some h=>h | none=>jbn L nt b) t m n fun e t m n=>match e with
  | .exit id'=>match Nat.beq id' id with
   | true=>K .normal t m n
   | false=>K (.exit id') t m n
  | e=>K e t m n
 | .loop b,t,m,n,K=>jm1 (jbn L nt b) 64 t m n K
 | .scope b,t,m,n,K=>jbn L nt b t m n fun e t m n=>match e with
  | .goto _=>False
  | e=>K e t m n
 | .exit id,t,m,n,K=>K (.exit id) t m n
 | .ret,t,m,n,K=>K .ret t m n
 | _,_,_,_,_=>False
end
section
variable {P : Program} {G : Env} {ops : Array Oper} {nt n : Nat} {N : Nat} {w0 : World} {t : Tmps} {m : Lk} {ι : Nm} {a : Act} {w : World} {o : Oper}
theorem jcg(hG:ja3 P G)(hm:P.follows .mixedOrders=true){L:Nat→Option jcb}:∀(c:Code)(t:Tmps)(m:Lk)(n:Nat)(K:Exit→Tmps→Lk→Nat→Prop),jch c=true→LOK P L nt c→jbn P G L nt c t m n K→Sem P nt c t m n K
 | .skip,t,m,n,K,_,_,h=>fun N w0 ι a w hrel Q hQ=>wp_skip (hQ _ t m n ι a w h (Kv _) (fun _ _=>rfl) hrel)
 | .label _,t,m,n,K,_,_,h=>fun N w0 ι a w hrel Q hQ=>wp_label (hQ _ t m n ι a w h (Kv _) (fun _ _=>rfl) hrel)
 | .exit id,t,m,n,K,_,_,h=>fun N w0 ι a w hrel Q hQ=>wp_exit (hQ _ t m n ι a w h (Kv _) (fun _ _=>rfl) hrel)
 | .ret,t,m,n,K,_,_,h=>fun N w0 ι a w hrel Q hQ=>wp_ret (hQ _ t m n ι a w h (Kv _) (fun _ _=>rfl) hrel)
 | .region id ops d,t,m,n,K,hl,_,h=>fun N w0 ι a w hrel Q hQ=>by
  simp only[jbn]at h;split at h
  ·split at h
   ·rename_i hB;cases hc:(opsJ P G ops nt m ops.toList [] t).1
    ·rw[hc]at h;cases h
    ·rw[hc]at h;have hs:opsR P G ops nt d ops.toList t m n fun t m n=>K .normal t m n:=jft ops.toList [] t n hc h
     exact jeg hG hm hB hs hrel fun t' m' n' ι' a' w' hk hn hι hr=>hQ _ t' m' n' ι' a' w' hk hn hι hr
   ·rename_i hB;simp only[Kr,Bool.not_eq_false']at hB;obtain⟨rfl,_⟩:=hB;exact jgz hG hm h hrel fun t' m' n' ι' a' w' hk hn hι hr=>hQ _ t' m' n' ι' a' w' hk hn hι hr
  ·split at h
   ·exact jeg hG hm rfl (opsP_sound h) hrel fun t' m' n' ι' a' w' hk hn hι hr=>hQ _ t' m' n' ι' a' w' hk hn hι hr
   ·split at h
    ·split at h
     ·rename_i hW;simp only[jaf]at hW;exact region_anyW hG hm hW.2 h hrel fun t' m' n' ι' a' w' hk hn hι hr=>hQ _ t' m' n' ι' a' w' hk hn hι hr
     ·exact jgz hG hm h hrel fun t' m' n' ι' a' w' hk hn hι hr=>hQ _ t' m' n' ι' a' w' hk hn hι hr
    ·split at h
     ·rename_i hB;exact jeg hG hm (by simp[hB]) h hrel fun t' m' n' ι' a' w' hk hn hι hr=>hQ _ t' m' n' ι' a' w' hk hn hι hr
     ·exact jgz hG hm h hrel fun t' m' n' ι' a' w' hk hn hι hr=>hQ _ t' m' n' ι' a' w' hk hn hι hr
 | .seq x y,t,m,n,K,hl,hL,h=>fun N w0 ι a w hrel Q hQ=>by
  simp only[jch,jaf]at hl;refine wp_seq (jcg hG hm x t m n _ hl.1 hL.1 h N w0 ι a w hrel _ fun e t' m' n' ι' a' w' hk hn hι hr=> ?_);cases e with
  | normal=>exact jcg hG hm y t' m' n' K hl.2 hL.2 hk N w0 ι' a' w' hr Q fun e t2 m2 n2 ι2 a2 w2 hk2 hn2 hι2 hr2=>hQ e t2 m2 n2 ι2 a2 w2 hk2 (by omega) (fun k hk=>(hι2 k (by omega)).trans (hι k hk)) hr2
  | _=>exact hQ _ t' m' n' ι' a' w' hk hn hι hr
 | .cond c x y,t,m,n,K,hl,hL,h=>fun N w0 ι a w hrel Q hQ=>by
  have hl0:=hl;simp only[jch,jaf]at hl;simp only[jbn]at h;split at h
  ·rename_i ok t' hj;cases ok
   ·exact h.elim
   ·split at hj
    ·exact jf1 hG hm _ t n K hl0 hj h N w0 ι a w hrel Q hQ
    ·cases hj
  split at h
  ·exact h.elim
  ·rename_i hok;have he:=hrel.eval hok;split at h
   ·rename_i b hb
    have hself:∀b',ev t c= .bool b'→setC c t b'=t:=fun b' hb'=>by
     cases c with
     | tmp d=>exact jcq hb'
     | _=>rfl
    rw[hb]at he;split at h
    ·rw[hself _ hb]at h;exact wp_cond (t:=true) (by rw[he];rfl) (jcg hG hm x t m n K hl.1 hL.1 h N w0 ι a w hrel Q hQ)
    ·rw[hself _ hb]at h;exact wp_cond (t:=false) (by rw[he];rfl) (jcg hG hm y t m n K hl.2 hL.2 h N w0 ι a w hrel Q hQ)
   ·exact h.elim
 | .block id b,t,m,n,K,hl,hL,h=>fun N w0 ι a w hrel Q hQ=>by
  have hfin:Sem P nt b t m n (fun e t m n=>match e with
    | .exit id'=>match Nat.beq id' id with
     | true=>K .normal t m n
     | false=>K (.exit id') t m n
    | e=>K e t m n):=by
   simp only[jbn]at h;simp only[LOK]at hL;cases hLi:L id with
   | some hh=>rw[hLi]at h hL;exact hL t m n _ h
   | none=>rw[hLi]at h hL;exact jcg hG hm b t m n _ (by simpa[jch]using hl) hL h
  refine wp_block (hfin N w0 ι a w hrel _ fun e t' m' n' ι' a' w' hk hn hι hr=> ?_);cases e with
  | exit id'=>
   simp only[Exit.inBlock];by_cases hid:id'=id
   ·subst hid;simp only[Nat.beq_refl]at hk;simp only[if_true];exact hQ _ t' m' n' ι' a' w' hk hn hι hr
   ·have:Nat.beq id' id=false:=by
     cases hb:Nat.beq id' id
     ·rfl
     ·exact absurd (jah hb) hid
    simp only[this]at hk;rw[Kc hid];exact hQ _ t' m' n' ι' a' w' hk hn hι hr
  | _=>exact hQ _ t' m' n' ι' a' w' hk hn hι hr
 | .loop b,t,m,n,K,hl,hL,h=>fun N w0 ι a w hrel Q hQ=>
  inLoop_loop (iter_inLoop (fun t m n K hb=>jcg hG hm b t m n K (by simpa[jch]using hl) hL hb) 64 t m n K h N w0 ι a w hrel Q hQ)
 | .scope b,t,m,n,K,hl,hL,h=>fun N w0 ι a w hrel Q hQ=>by
  refine wp_scope_straight (jcg hG hm b t m n _ (by simpa[jch]using hl) hL h N w0 ι a w hrel _ fun e t' m' n' ι' a' w' hk hn hι hr=> ?_);cases e with
  | goto l=>exact hk.elim
  | _=>exact hQ _ t' m' n' ι' a' w' hk hn hι hr
 | .rangeFunc ..,_,_,_,_,_,_,h=>h.elim
 | .goto ..,_,_,_,_,_,_,h=>h.elim
 | .refuse ..,_,_,_,_,_,_,h=>h.elim
end
def jax(P:Program)(G:Env)(L:Nat→Option jcb)(f:Func)(args:J)(m:Lk)(n:Nat)(R:Value→Lk→Nat→Prop):Prop:=
 match f.body with
 | some c=>jbn P G L f.ntmps c (argT args) m n fun e t m n=>match e with
  | .normal | .ret=>match resR P f.ntmps t m f.results.toList with
   | some vs=>R (retV vs) m n
   | none=>False
  | _=>False
 | none=>False
section
variable {P : Program} {G : Env} {nt n : Nat} {N : Nat} {w0 : World} {S : Nat → Prop} {t : Tmps} {m : Lk} {ι : Nm} {a : Act} {w : World}
theorem jee{G:Env}(hG:ja3 P G)(hm:P.follows .mixedOrders=true){L:Nat→Option jcb}{f:FuncId}{fn:Func}{c:Code}(hf:P.funcs[f]?=some fn)(hb:fn.body=some c)
  (hl:jch c=true) (hL:LOK P L fn.ntmps c) {args:J} (hlen:args.length≤fn.ntmps) {R:Value→Lk→Nat→Prop} (h:jax P G L fn args m n R)
  (hmem:RelM N w0 m ι w) (hwf:∀k b,m k=some b→k<n∧ ∀j∈idsL b.c,j<n) (hargs:∀v∈args,∀j∈ids v,j<n):
  Calls P f (args.map (ren ι)).toArray w fun e w'=>∃v m' n' ι',e= .returned (ren ι' v)∧R v m' n'∧n≤n'∧(∀k,k<n→ι' k=ι k)∧RelM N w0 m' ι' w'∧
   (∀k b,m' k=some b→k<n'∧ ∀j∈idsL b.c,j<n')∧ ∀j∈ids v,j<n':=by
 refine calls_of_wp hf hb ?_;simp only[jax,hb]at h
 have htm:(args.map (ren ι)).toArray++Array.replicate (fn.ntmps-(args.map (ren ι)).toArray.size) undef=Tm (argT args) ι fn.ntmps:=by
  apply Array.ext_getElem?;intro i;rw[Array.getElem?_append];by_cases hi:i<fn.ntmps
  ·rw[Tm_get _ _ hi];split
   ·rename_i h1;simp at h1;simp[argT,h1]
   ·rename_i h1;simp at h1;have:i-args.length<fn.ntmps-args.length:=by omega
    simp[argT,List.getElem?_eq_none h1,this];simp[undef,ren,renL]
  ·have h2:(Tm (argT args) ι fn.ntmps)[i]?=none:=by simp[Tm,Nat.le_of_not_lt hi]
   rw[h2];split
   ·rename_i h1;simp at h1;omega
   ·simp;omega
 refine jcg hG hm c _ m n _ hl hL h N w0 ι _ w ⟨htm,rfl,hmem,⟨fun i hi j hj=> ?_,hwf⟩⟩ _ fun e t' m' n' ι' a' w' hk hn hι hr=> ?_
 ·simp only[argT,List.getD_eq_getElem?_getD]at hj;cases hv:args[i]? with
  | none=>rw[hv]at hj;simp[ids_undef]at hj
  | some v=>rw[hv]at hj;exact hargs v (List.mem_of_getElem? hv) j hj
 ·have fin:(match resR P fn.ntmps t' m' fn.results.toList with
    | some vs=>R (retV vs) m' n'
    | none=>False)→a'.defers=[]∧ ∃v,(results fn a'.tmps).run P w'= .ok v w'∧ ∃u m' n' ι',Ending.returned v= .returned (ren ι' u)∧R u m' n'∧n≤n'∧(∀k,k<n→ι' k=ι k)∧RelM N w0 m' ι' w'∧
     (∀k b,m' k=some b→k<n'∧ ∀j∈idsL b.c,j<n')∧ ∀j∈ids u,j<n':=fun hk=>by
   split at hk
   ·rename_i vs hvs;refine⟨hr.defers,_,results_sound hr hvs,retV vs,m',n',ι',rfl,hk,hn,hι,hr.mem,hr.wf.mem,fun j hj=> ?_⟩;obtain⟨v,hv,hjv⟩:=ids_retV hj;exact(jfs hr _ _ hvs).1 v hv j hjv
   ·exact hk.elim
  cases e with
  | normal=>exact fin hk
  | ret=>exact fin hk
  | _=>exact hk.elim
theorem pure_of_bodyQ{G:Env}(hG:ja3 P G)(hm:P.follows .mixedOrders=true){L:Nat→Option jcb}{f:FuncId}{fn:Func}{c:Code}(hf:P.funcs[f]?=some fn)(hb:fn.body=some c)
  (hn : (fn.name == "runtime.NumGoroutine") = false) (hl : jch c = true) (hL : LOK P L fn.ntmps c) {s : Spec}
  (h:∀args bs v,s args bs=some (true,v)→ja1 args=true∧args.length≤fn.ntmps∧jax P G L fn args (fun _=>none) 0 fun v' _ _=>v'=v):jan P f s:=by
 refine⟨⟨fn,hf,hn,by rw[hb];rfl⟩,fun args v N w0 lk ι w hrel hs hp=> ?_⟩;obtain⟨h1,h2,h3⟩:=h _ _ _ hs;have hnone:∀v∈args,ids v=[]:=fun v hv=>jbm (ja7.1 h1 v hv)
 have hren:args.map (ren ι)=args.map (ren fun _=>(0,0)):=Ku fun v hv=>by rw[ja9 _ (ja7.1 h1 v hv),ja9 _ (ja7.1 h1 v hv)]
 rw[hren]
 refine(jee (N:=w.heap.size) (w0:=w) (ι:=fun _=>(0,0)) hG hm hf hb hl hL h2 h3 (relM_none w hrel.tabs)
  (fun _ _ h=>by cases h) (fun v hv j hj=>by rw[hnone v hv]at hj;cases hj)).mono fun e w' ⟨v',m',n',ι',he,hv',_,_,hm',_,_⟩=> ?_
 subst hv';exact⟨by rw[he,ja9 _ hp],hm'.below⟩
end
@[irreducible] def ja4 (P:Program) (G:Env) (L:Nat→Option jcb) (fn:Func) (args:J) (v:Value):Prop:=
 jax P G L fn args (fun _=>none) 0 fun v' _ _=>v'=v
section
variable {P : Program} {G : Env} {L : Nat → Option jcb} {f : FuncId} {fn : Func}
theorem jdd(hG:ja3 P G)(hm:P.follows .mixedOrders=true)(hf:Fn1 P f fn)(hL:LOKf P L fn){s:Spec}
  (h:∀args bs v,s args bs=some (true,v)→ja1 args=true∧args.length≤fn.ntmps∧ja4 P G L fn args v):jan P f s:=by
 obtain⟨h1,h2,h3,h4⟩:=hf;cases hb:fn.body with
 | none=>rw[hb]at h2;cases h2
 | some c=>
  simp only[hb]at h4;simp only[LOKf,hb]at hL;exact pure_of_bodyQ hG hm h1 hb h3 h4 hL fun args bs v hs=>by have q:=h args bs v hs;rw[ja4]at q;exact q
variable {α β γ δ ε ζ η : Type} [Enc α] [Enc β] [Enc γ] [Enc δ] [Enc ε] [Enc ζ] [Enc η]
theorem qure0(hG:ja3 P G)(hm:P.follows .mixedOrders=true)(hf:Fn1 P f fn)(hL:LOKf P L fn){g:Bool×Value}(h:g.1=true→ja4 P G L fn [] g.2):jan P f (sp0 g):=by
 refine jdd hG hm hf hL fun args bs v hs=> ?_
 simp only[sp0]at hs;split at hs
 ·simp only[Kb]at hs;subst hs;exact⟨rfl,Nat.zero_le _,h rfl⟩
 ·cases hs
theorem jb6(hG:ja3 P G)(hm:P.follows .mixedOrders=true)(hf:Fn1 P f fn)(hL:LOKf P L fn){g:α→Bool×Value}(hn:1≤fn.ntmps)
  (h:∀a,(g a).1=true→ja4 P G L fn [Enc.enc a] (g a).2):jan P f (sp1 g):=by
 refine jdd hG hm hf hL fun args bs v hs=> ?_
 simp only[sp1]at hs;split at hs
 ·split at hs
  ·rename_i ha;simp only[Kb]at hs;obtain rfl:=Enc.dec_some ha;exact⟨by simp[ja1,Enc.plain_enc],hn,by have q:=h _ (by rw[hs]);rw[hs]at q;exact q⟩
  ·cases hs
 ·cases hs
theorem jcz(hG:ja3 P G)(hm:P.follows .mixedOrders=true)(hf:Fn1 P f fn)(hL:LOKf P L fn){g:α→β→Bool×Value}(hn:2≤fn.ntmps)
  (h:∀a b,(g a b).1=true→ja4 P G L fn [Enc.enc a,Enc.enc b] (g a b).2):jan P f (sp2 g):=by
 refine jdd hG hm hf hL fun args bs v hs=> ?_
 simp only[sp2]at hs;split at hs
 ·split at hs
  ·rename_i ha hb;simp only[Kb]at hs;obtain rfl:=Enc.dec_some ha;obtain rfl:=Enc.dec_some hb;exact⟨by simp[ja1,Enc.plain_enc],hn,by have q:=h _ _ (by rw[hs]);rw[hs]at q;exact q⟩
  ·cases hs
 ·cases hs
theorem jh7(hG:ja3 P G)(hm:P.follows .mixedOrders=true)(hf:Fn1 P f fn)(hL:LOKf P L fn){g:α→β→γ→Bool×Value}(hn:3≤fn.ntmps)
  (h:∀a b c,(g a b c).1=true→ja4 P G L fn [Enc.enc a,Enc.enc b,Enc.enc c] (g a b c).2):jan P f (sp3 g):=by
 refine jdd hG hm hf hL fun args bs v hs=> ?_
 simp only[sp3]at hs;split at hs
 ·split at hs
  ·rename_i ha hb hc;simp only[Kb]at hs;obtain rfl:=Enc.dec_some ha;obtain rfl:=Enc.dec_some hb;obtain rfl:=Enc.dec_some hc;exact⟨by simp[ja1,Enc.plain_enc],hn,by have q:=h _ _ _ (by rw[hs]);rw[hs]at q;exact q⟩
  ·cases hs
 ·cases hs
end
section
variable {P : Program} {G : Env} {L : Nat → Option jcb} {f : FuncId} {fn : Func}
def inlQ(P:Program)(G:Env)(L:Nat→Option jcb)(fn:Func):J→Lk→Nat→(Value→Lk→Nat→Prop)→Prop:=
 fun args m n K=>match Nat.ble args.length fn.ntmps with
  | true=>jax P G L fn args m n K
  | false=>False
theorem jbh(hG:ja3 P G)(hm:P.follows .mixedOrders=true)(hf:Fn1 P f fn)(hL:LOKf P L fn):jcw P f (inlQ P G L fn):=by
 obtain⟨h1,h2,h3,h4⟩:=hf;cases hb:fn.body with
 | none=>rw[hb]at h2;cases h2
 | some c=>
  simp only[hb]at h4;simp only[LOKf,hb]at hL;refine⟨⟨fn,h1,h3,by rw[hb];rfl⟩,fun args m n K h N w0 ι w hrel hwf hargs=> ?_⟩;unfold inlQ at h;split at h
  ·rename_i hle;exact jee hG hm h1 hb h4 hL (jag hle) h hrel hwf hargs
  ·exact h.elim
end
section
variable {P : Program} {G : Env} {nt : Nat} {N : Nat} {w0 : World} {ι : Nm} {a : Act} {w : World}
theorem ja6(hG:ja3 P G)(hm:P.follows .mixedOrders=true){L:Nat→Option jcb}{c:Code}(hl:jch c=true)(hL:LOK P L nt c){σ:Type}(S:LSpec σ)
  (V:σ→J) (B:σ→Ya) (μ:σ→Nat) (hdec:∀{vs bs s},S.dec vs bs=some s→vs=V s∧bs=B s)
  (hid:∀n s s',(jaw n (V s) &&jbs n (B s))=true→(jaw n (V s') &&jbs n (B s'))=true)
  (round:∀s x Z,S.pre s=true→S.fin s Z→jbn P G L nt c (tl S.live (V s) x) (ml S.mid (B s)) S.n fun e t' m' _=>S.step V B μ s Z e (S.live.map t') (S.mid.map m')) (t:Tmps) (m:Lk) (n:Nat) (K:Exit→Tmps→Lk→Nat→Prop) (h:S.h t m n K):Sem P nt (.loop c) t m n K:=by
 intro N w0 ι a w hrel Q hQ;simp only[LSpec.h]at h;split at h
 case h_2=>exact h.elim
 rename_i hok;split at h
 case h_2=>exact h.elim
 rename_i s hs;split at h
 case h_2=>exact h.elim
 rename_i hpre;simp only[jaf]at hok;obtain⟨⟨⟨hn,hmid⟩,hv⟩,hb⟩:=hok;have hn:=jag hn;obtain⟨e1,e2⟩:=hdec hs;obtain⟨x,hx⟩:=hrel.forget hv hb hmid;rw[e1,e2]at hx;rw[e1]at hv;rw[e2]at hb
 have key:∀q s,μ s=q→S.pre s=true→S.fin s (lout S.live S.mid S.n K)→(jaw S.n (V s) &&jbs S.n (B s))=true→ ∀(x:Tmps)(ι:Nm)(a:Act)(w:World),
   RelS N w0 (· <S.n) nt (tl S.live (V s) x) (ml S.mid (B s)) ι a w→ ∀Q:Exit→Act→World→Prop,
   (∀e t' m' ι' a' w',K e t' m' S.n→(∀k,k<S.n→ι' k=ι k)→RelS N w0 (· <S.n) nt t' m' ι' a' w'→Q e a' w')→ji1 P c Q a w:=by
  intro q
  induction q using Nat.strongRecOn with
  | _ q ih=>
   intro s hq hpre hfin hids x ι a w hrel Q hQ;refine inLoop_step (jcg hG hm c _ _ _ _ hl hL (round s x _ hpre hfin) N w0 ι a w hrel _ fun e t' m' n' ι' a' w' hk hn hι hr=> ?_)
   have fin:∀e,lout S.live S.mid S.n K e (S.live.map t') (S.mid.map m')→Q e a' w':=by
    intro e ho;simp only[lout]at ho;split at ho
    case h_2=>exact ho.elim
    rename_i hii;simp only[jaf]at hii;obtain⟨x',hx'⟩:=hr.forget hii.1 hii.2 hmid;exact hQ e _ _ ι' a' w' (ho x') hι hx'
   cases e with
   | normal=>
    obtain⟨s',h1,h2,h3,h4,h5⟩:=hk;have hids':=hid _ _ s' hids;have hids'':=hids';simp only[jaf]at hids'';obtain⟨x',hx'⟩:=hr.forget (n:=S.n) (live:=S.live) (mid:=S.mid) (by rw[h1];exact hids''.1) (by rw[h2];exact hids''.2) hmid;rw[h1,h2]at hx';exact ih (μ s') (hq▸h4) s' rfl h3 h5 hids' x' ι' a' w' hx' Q fun e t2 m2 ι2 a2 w2 hk2 hι2 hr2=>hQ e t2 m2 ι2 a2 w2 hk2 (fun k hk=>(hι2 k hk).trans (hι k hk)) hr2
   | _=>exact fin _ hk
 refine inLoop_loop (key _ s rfl hpre h (by simp[hv,hb]) x ι a w hx Q fun e t' m' ι' a' w' hk hι hr=> ?_);exact hQ e t' m' S.n ι' a' w' hk hn (fun k hk=>hι k (by omega)) hr
end
section
variable {P : Program}
@[irreducible] def jb3 (P:Program) (G:Env) (L:Nat→Option jcb) (fn:Func) (args:J) (bs:Ya) (n:Nat) (v:Value):Prop:=
 jax P G L fn args (jem bs) n fun v' _ _=>v'=v
theorem jcl{G:Env}{L:Nat→Option jcb}{f:FuncId}{fn:Func}(hG:ja3 P G)(hm:P.follows .mixedOrders=true)(hf:Fn1 P f fn)(hL:LOKf P L fn){s:Spec}
  (h:∀args bs v,s args bs=some (true,v)→ ∃args' n,jjc 0 args=some args'∧args.length=n∧args'.length≤fn.ntmps∧jb3 P G L fn args' bs n v):jan P f s:=by
 obtain⟨h1,h2,h3,h4⟩:=hf;cases hb:fn.body with
 | none=>rw[hb]at h2;cases h2
 | some c=>
  simp only[hb]at h4;simp only[LOKf,hb]at hL;refine⟨⟨fn,h1,h3,by rw[hb];rfl⟩,fun args v N w0 lk ι w hrel hs hp=> ?_⟩;obtain⟨args',n,ha,rfl,hle,hbody⟩:=h _ _ _ hs;rw[jb3]at hbody;have hren:=canonL_ren (ι:=ι) (all:=args) args 0 (fun j=>by simp) ha;rw[←hren];refine(jee (N:=w.heap.size) (w0:=w) (ι:=nmOf ι args) (w:=w) hG hm h1 hb h4 hL hle hbody ⟨Below.refl _ _,⟨Kv _,hrel.tabs⟩,?_,?_,?_⟩ ?_ ?_).mono fun e w' ⟨v',m',n',ι',he,hv',_,_,hm',_,_⟩=> ?_
  ·intro k b hk ho;obtain⟨b',_,_,rfl⟩:=viewL_get _ _ hk;cases ho
  ·intro k b hk _;obtain⟨b',hb',hp',rfl⟩:=viewL_get _ _ hk;rw[List.getElem?_map]at hb';cases hak:args[k]? with
   | none=>rw[hak]at hb';cases hb'
   | some x=>
    rw[hak]at hb';simp only[Option.map_some,Kb]at hb'
    have key:∀a:Addr,nmOf ι args k=ι a.block→noIt (lk a.block)=some b'→(nmOf ι args k).1<w.heap.size∧ ∀i v,b'.c[i]?=some v→w.cell? ⟨(nmOf ι args k).1,(nmOf ι args k).2+i,none⟩=some (ren (nmOf ι args) v):=by
     intro a hn hl;obtain⟨hl,hit⟩:=jib hl;rw[hn]
     have hpl:∀i v,b'.c[i]?=some v→ren (nmOf ι args) v=v∧ren ι v=v:=fun i v hv=>by
      have:=ja7.1 hp' v (List.mem_of_getElem? hv);exact⟨ja9 _ this,ja9 _ this⟩
     cases ho:b'.own with
     | true=>
      obtain⟨q1,q2,q3⟩:=hrel.blk _ _ hl ho;rw[objOf_any (by simpa[ho]using hit)]at q3;refine⟨hrel.lt hl ho,fun i v hv=> ?_⟩;rw[World.cell?,q3,q1];simp[hv,(hpl i v hv).1,(hpl i v hv).2]
     | false=>
      obtain⟨q1,q2⟩:=hrel.view _ _ hl ho;refine⟨q1,fun i v hv=> ?_⟩;rw[q2 i v hv,(hpl i v hv).1,(hpl i v hv).2]
    unfold blkOf at hb';split at hb'
    ·rename_i a;split at hb'
     ·exact key a (by simp[nmOf,hak]) hb'
     ·cases hb'
    ·rename_i a _ _;split at hb'
     ·exact key a (by simp[nmOf,hak]) hb'
     ·cases hb'
    ·cases hb'
  ·intro k k' b b' hk _ ho _ _;obtain⟨b',_,_,rfl⟩:=viewL_get _ _ hk;cases ho
  ·intro k b hk;obtain⟨b',hb',hp',rfl⟩:=viewL_get _ _ hk;refine⟨?_,fun j hj=> ?_⟩
   ·rcases Nat.lt_or_ge k args.length with hlt | hge
    ·exact hlt
    ·rw[List.getElem?_eq_none (by simpa using hge)]at hb';cases hb'
   ·rw[jao hp']at hj;cases hj
  ·have:=canonL_ids args 0 ha;simpa using this
  ·subst hv';exact⟨by rw[he,ja9 _ hp],hm'.below⟩
end
end Go.Ab
