/-
  Ab18: the run and laws.
-/
import Derived.Test.YtiahilhlpmohoaaGreatDoorS1Ab17
set_option linter.unusedVariables false
set_option linter.unusedSimpArgs false
set_option linter.unusedSectionVars false
noncomputable section
namespace Go.Ab
open Go Go.RowKit
variable [Tabs]
def rl:List (Nat×Nat)→Nat→Nat
 | [],i=>i
 | (k,q)::r,i=>match Nat.beq i k with | true=>q | false=>rl r i
def ur:List (Nat×Nat)→Nat→Nat
 | [],i=>i
 | (k,q)::r,i=>match Nat.beq i q with | true=>k | false=>ur r i
mutual
def rlb(ps:List (Nat×Nat)):Value→Value
 | .pointer (some a)=>match a.spot with | some s=> .pointer (some ⟨rl ps a.block,a.off,some s⟩) | none=> .pointer (some a)
 | .slice (some a) l c=>match a.spot with | some s=> .slice (some ⟨rl ps a.block,a.off,some s⟩) l c | none=> .slice (some a) l c
 | .agg ⟨l⟩=> .agg ⟨rlbL ps l⟩
 | .tuple ⟨l⟩=> .tuple ⟨rlbL ps l⟩
 | .iface t v=> .iface t (rlb ps v)
 | .func f ⟨a⟩ ⟨b⟩=> .func f ⟨rlbL ps a⟩ ⟨rlbL ps b⟩
 | .chan (some k)=> .chan (some (rl ps k))
 | v=>v
def rlbL(ps:List (Nat×Nat)):J→J
 | []=> []
 | v::r=>rlb ps v::rlbL ps r
end
theorem rlbL_eq(ps:List (Nat×Nat)):∀l:J,rlbL ps l=l.map (rlb ps)
 | []=>by have _:=tbs;simp[rlbL]
 | v::r=>by simp[rlbL,rlbL_eq ps r]
def jas(ps:List (Nat×Nat))(vs:J):Bool:=(idsL vs).all fun i=>Nat.beq (ur ps (rl ps i)) i
def jmk(ps:List (Nat×Nat)):Ya→Bool
 | []=>true
 | some b::r=>jas ps b.c&&jmk ps r
 | none::r=>jmk ps r
theorem goodL_iff{ps:List (Nat×Nat)}{vs:J}:jas ps vs=true↔ ∀v∈vs,∀i∈ids v,ur ps (rl ps i)=i:=by
 have _:=tbs;simp only[jas,Kf];constructor
 ·exact fun h v hv i hi=>jah (h i (jay.2 ⟨v,hv,hi⟩))
 ·intro h i hi;obtain⟨v,hv,hi⟩:=jay.1 hi;rw[h v hv i hi];simp
theorem goodB_mem{ps:List (Nat×Nat)}:∀{bs:Ya},jmk ps bs=true→ ∀b,some b∈bs→jas ps b.c=true
 | some b::r,h,b',hb=>by
  have _:=tbs;simp only[jmk,jaf]at h;rcases Kg.1 hb with hb | hb
  ·cases hb;exact h.1
  ·exact goodB_mem h.2 b' hb
 | none::r,h,b',hb=>by
  rcases Kg.1 hb with hb | hb
  ·cases hb
  ·exact goodB_mem (bs:=r) h b' hb
theorem goodL_plain{ps:List (Nat×Nat)}{vs:J}(h:ja1 vs=true):jas ps vs=true:=by
 have _:=tbs;simp[jas,jao h]
mutual
theorem ren_rlb{ps:List (Nat×Nat)}{ι:Nm}:∀{v:Value},(∀i∈ids v,ur ps (rl ps i)=i)→ren (fun q=>ι (ur ps q)) (rlb ps v)=ren ι v
 | .pointer (some a),h=>by
  have _:=tbs;cases hs:a.spot<;>simp[ren,ren1,rlb,hs];have:=h a.block (by simp[ids,hs]);simp[this]
 | .pointer none,_=>by simp[ren,rlb]
 | .slice (some a) _ _,h=>by
  cases hs:a.spot<;>simp[ren,ren1,rlb,hs];have:=h a.block (by simp[ids,hs]);simp[this]
 | .slice none _ _,_=>by simp[ren,rlb]
 | .agg ⟨l⟩,h=>by simp only[ren,rlb];rw[ren_rlbL (by simpa[ids]using h)]
 | .tuple ⟨l⟩,h=>by simp only[ren,rlb];rw[ren_rlbL (by simpa[ids]using h)]
 | .iface _ v,h=>by simp only[ren,rlb];rw[ren_rlb (by simpa[ids]using h)]
 | .func _ ⟨a⟩ ⟨b⟩,h=>by
  simp only[ren,rlb];rw[ren_rlbL (l:=a) fun k hk=>h k (by simp[ids,hk]),ren_rlbL (l:=b) fun k hk=>h k (by simp[ids,hk])]
 | .bool _,_ | .int _ _,_ | .float _ _,_ | .complex _ _ _,_ | .string _,_ | .map _,_ | .chan none,_ | .nilFunc,_ | .nilIface,_=>by simp[ren,rlb]
 | .chan (some k),h=>by
  have:=h k (by simp[ids]);simp[ren,rlb,this]
theorem ren_rlbL{ps:List (Nat×Nat)}{ι:Nm}:∀{l:J},(∀i∈idsL l,ur ps (rl ps i)=i)→renL (fun q=>ι (ur ps q)) (rlbL ps l)=renL ι l
 | [],_=>by have _:=tbs;simp[renL,rlbL]
 | v::r,h=>by
  simp only[renL,rlbL];rw[ren_rlb fun k hk=>h k (by simp[idsL,hk]),ren_rlbL fun k hk=>h k (by simp[idsL,hk])]
end
mutual
theorem rlb_plain(ps:List (Nat×Nat)):∀{v:Value},plain v=true→rlb ps v=v
 | .pointer (some a),h=>by
  have _:=tbs;cases hs:a.spot<;>simp[plain,hs]at h;simp[rlb,hs]
 | .pointer none,_=>by simp[rlb]
 | .slice (some a) _ _,h=>by
  cases hs:a.spot<;>simp[plain,hs]at h;simp[rlb,hs]
 | .slice none _ _,_=>by simp[rlb]
 | .agg ⟨l⟩,h=>by simp only[rlb];rw[rlbL_plain ps (by simpa[plain]using h)]
 | .tuple ⟨l⟩,h=>by simp only[rlb];rw[rlbL_plain ps (by simpa[plain]using h)]
 | .iface _ v,h=>by simp only[rlb];rw[rlb_plain ps (by simpa[plain]using h)]
 | .func _ ⟨a⟩ ⟨b⟩,h=>by
  simp only[plain,jaf]at h;simp only[rlb,rlbL_plain ps h.1,rlbL_plain ps h.2]
 | .bool _,_ | .int _ _,_ | .float _ _,_ | .complex _ _ _,_ | .string _,_ | .map _,_ | .chan none,_ | .nilFunc,_ | .nilIface,_=>by simp[rlb]
 | .chan (some _),h=>by simp[plain]at h
theorem rlbL_plain(ps:List (Nat×Nat)):∀{l:J},ja1 l=true→rlbL ps l=l
 | [],_=>by have _:=tbs;simp[rlbL]
 | v::r,h=>by
  simp only[ja1,jaf]at h;simp only[rlbL,rlb_plain ps h.1,rlbL_plain ps h.2]
end
def rlB(ps:List (Nat×Nat)):Option Blk→Option Blk
 | some b=>some ⟨rlbL ps b.c,b.ty,b.own⟩
 | none=>none
theorem mapEs_rlb{ps:List (Nat×Nat)}{ι:Nm}:∀(l:J)(n:Nat),jas ps l=true→jdy (fun q=>ι (ur ps q)) (rlbL ps l) n=jdy ι l n
 | [],_,_ | [_],_,_=>rfl
 | k::v::r,n,h=>by
  have hg:=goodL_iff.1 h;simp only[rlbL,jdy];rw[ren_rlb (hg k (by simp)),ren_rlb (hg v (by simp)),mapEs_rlb r (n+1) (goodL_iff.2 fun u hu=>hg u (by simp[hu]))]
theorem objOf_rlB{ps:List (Nat×Nat)}{ι:Nm}{b:Blk}(h:jas ps b.c=true):jcu (fun q=>ι (ur ps q)) ⟨rlbL ps b.c,b.ty,b.own⟩=jcu ι b:=by
 have hll:(rlbL ps b.c).length=b.c.length:=by rw[rlbL_eq,K9]
 unfold jcu;split
 ·rename_i heq;have heq:Nat.beq b.ty itTy=true:=heq
  have h0:jhl (rlbL ps b.c) 0=jhl b.c 0:=by
   unfold jhl;rw[rlbL_eq,List.getElem?_map];cases b.c[0]? with
   | none=>rfl
   | some v=>
    cases v with
    | pointer a=>cases a with
     | none=>simp[rlb]
     | some a=>cases hs:a.spot<;>simp[rlb,hs]
    | slice a l c=>cases a with
     | none=>simp[rlb]
     | some a=>cases hs:a.spot<;>simp[rlb,hs]
    | agg c=>obtain⟨l⟩:=c;simp[rlb]
    | tuple c=>obtain⟨l⟩:=c;simp[rlb]
    | func f a b=>obtain⟨a⟩:=a;obtain⟨b⟩:=b;simp[rlb]
    | chan a=>cases a<;>simp[rlb]
    | _=>simp[rlb]
  have h1:jar (rlbL ps b.c) 1=jar b.c 1:=by
   unfold jar;rw[rlbL_eq,List.getElem?_map];cases b.c[1]? with
   | none=>rfl
   | some v=>
    cases v with
    | pointer a=>cases a with
     | none=>simp[rlb]
     | some a=>cases hs:a.spot<;>simp[rlb,hs]
    | slice a l c=>cases a with
     | none=>simp[rlb]
     | some a=>cases hs:a.spot<;>simp[rlb,hs]
    | agg c=>obtain⟨l⟩:=c;simp[rlb]
    | tuple c=>obtain⟨l⟩:=c;simp[rlb]
    | func f a b=>obtain⟨a⟩:=a;obtain⟨b⟩:=b;simp[rlb]
    | chan a=>cases a<;>simp[rlb]
    | _=>simp[rlb]
  have h2:jeh (rlbL ps b.c) 0=jeh b.c 0:=by
   unfold jeh;rw[rlbL_eq,List.getElem?_map];cases b.c[0]? with
   | none=>rfl
   | some v=>
    cases v with
    | pointer a=>cases a with
     | none=>simp[rlb]
     | some a=>cases hs:a.spot<;>simp[rlb,hs]
    | slice a l c=>cases a with
     | none=>simp[rlb]
     | some a=>cases hs:a.spot<;>simp[rlb,hs]
    | agg c=>obtain⟨l⟩:=c;simp[rlb]
    | tuple c=>obtain⟨l⟩:=c;simp[rlb]
    | func f a b=>obtain⟨a⟩:=a;obtain⟨b⟩:=b;simp[rlb]
    | chan a=>cases a<;>simp[rlb]
    | _=>simp[rlb]
  have h3:(rlbL ps b.c).tail=rlbL ps b.c.tail:=by cases b.c<;>rfl
  have h4:jas ps b.c.tail=true:=goodL_iff.2 fun u hu=>goodL_iff.1 h u (List.mem_of_mem_tail hu)
  simp only[jla,h0,h1,h2,h3,heq,mapEs_rlb _ 0 h4];simp only[rlbL_eq,K9]
 ·rename_i heq;have heq:Nat.beq b.ty itTy=false:=heq
  have:=ren_rlbL (ps:=ps) (ι:=ι) (l:=b.c) (fun i hi=>by
   obtain⟨v,hv,hi⟩:=jay.1 hi;exact goodL_iff.1 h v hv i hi)
  rw[jb1,jb1]at this;simp only[this,heq,hll]
section
variable {P : Program} {G : Env} {nt : Nat} {N : Nat} {w0 : World} {ι : Nm} {a : Act} {w : World}
theorem RelS.forgetA{S:Nat→Prop}{n:Nat}{t:Tmps}{m:Lk}(h:RelS N w0 S nt t m ι a w){live mid:List Nat}{ps:List (Nat×Nat)}
  (hg:jas ps (live.map t)=true) (hgb:jmk ps (mid.map fun q=>m (ur ps q))=true) (hnd:∀q∈mid,∀q'∈mid,q≠q'→ur ps q≠ur ps q')
  (ht:jaw n (live.map fun j=>rlb ps (t j))=true) (hb:jbs n (mid.map fun q=>rlB ps (m (ur ps q)))=true) (hk:jk7 n mid=true):
  ∃x,RelS N w0 (· <n) nt (tl live (live.map fun j=>rlb ps (t j)) x) (ml mid (mid.map fun q=>rlB ps (m (ur ps q)))) (fun q=>ι (ur ps q)) a w:=by
 have hget:∀q b,ml mid (mid.map fun q=>rlB ps (m (ur ps q))) q=some b→q∈mid∧ ∃b',m (ur ps q)=some b'∧b=⟨rlbL ps b'.c,b'.ty,b'.own⟩∧jas ps b'.c=true:=fun q b hq=>by
  obtain⟨h1,h2⟩:=ml_map (fun q=>rlB ps (m (ur ps q))) q mid hq;simp only[rlB]at h2;cases hm:m (ur ps q)with
  | none=>rw[hm]at h2;cases h2
  | some b'=>
   rw[hm]at h2;cases h2;exact⟨h1,b',rfl,rfl,goodB_mem hgb b' (hm▸List.mem_map_of_mem (f:=fun q=>m (ur ps q)) h1)⟩
 refine⟨fun i=>ren ι (t i),?_,h.defers,⟨h.mem.below,h.mem.base,?_,?_,?_⟩,?_,?_⟩
 ·rw[h.tmps];simp only[Tm];congr 1;refine Ku fun i _=> ?_
  rcases tl_map (fun j=>rlb ps (t j)) (fun i=>ren ι (t i)) i live with⟨h1,h2⟩ | h2
  ·rw[h2];exact(ren_rlb fun j hj=>goodL_iff.1 hg _ (List.mem_map_of_mem h1) j hj).symm
  ·rw[h2,ja9 _ (plain_ren ι _)]
 ·intro q b hq ho;obtain⟨_,b',hm,rfl,hgd⟩:=hget q b hq;obtain⟨q1,q2,q3⟩:=h.mem.blk _ b' hm ho;exact⟨q1,q2,by rw[q3,objOf_rlB hgd]⟩
 ·intro q b hq ho;obtain⟨_,b',hm,rfl,hgd⟩:=hget q b hq;obtain⟨q1,q2⟩:=h.mem.view _ b' hm ho;refine⟨q1,fun i v hv=> ?_⟩;simp only[rlbL_eq,List.getElem?_map]at hv;cases hc:b'.c[i]? with
  | none=>rw[hc]at hv;cases hv
  | some u=>
   rw[hc]at hv;simp only[Option.map_some,Kb]at hv;subst hv;rw[q2 i u hc,ren_rlb fun j hj=>goodL_iff.1 hgd u (List.mem_of_getElem? hc) j hj]
 ·intro q q' b b' hq hq' ho hne;obtain⟨g1,c,hm,rfl,_⟩:=hget q b hq;obtain⟨g2,c',hm',rfl,_⟩:=hget q' b' hq';exact h.mem.inj _ _ c c' hm hm' ho (hnd q g1 q' g2 hne)
 ·intro i hi j hj;rcases tl_map (fun j=>rlb ps (t j)) (fun i=>ren ι (t i)) i live with⟨h1,h2⟩ | h2
  ·rw[h2]at hj;exact idsLt_iff.1 ht _ (List.mem_map_of_mem (f:=fun j=>rlb ps (t j)) h1) j hj
  ·rw[h2,jbm (plain_ren ι _)]at hj;cases hj
 ·intro q b hq;obtain⟨h1,h2⟩:=ml_map (fun q=>rlB ps (m (ur ps q))) q mid hq;refine⟨?_,fun j hj=>jfv hb b (h2▸List.mem_map_of_mem (f:=fun q=>rlB ps (m (ur ps q))) h1) j hj⟩;simp only[jk7,Kf,Nat.blt_eq]at hk;exact hk q h1
end
inductive Src where
 | tmp (j:Nat)
 | cell (k i:Nat)
 | cap (k i c d:Nat)
def srcId(t:Tmps)(m:Lk):Src→Option Nat
 | .tmp j=>match t j with
  | .slice (some a) _ _=>match a.spot with | some _=>some a.block | none=>none
  | _=>none
 | .cell k i=>match m k with
  | some b=>match b.c[i]? with
   | some (.slice (some a) _ _)=>match a.spot with | some _=>some a.block | none=>none
   | _=>none
  | none=>none
 | .cap k i c d=>match m k with
  | some b=>match b.c[i]? with
   | some (.func _ _ ⟨cs⟩)=>match cs[c]? with
    | some (.pointer (some a))=>match a.spot with | some _=>some a.block | none=>some d
    | _=>some d
   | _=>some d
  | none=>some d
def jfa(t:Tmps)(m:Lk):List (Src×Nat)→List (Nat×Nat)
 | []=> []
 | (s,q)::r=>match srcId t m s with
  | some k=>(k,q)::jfa t m r
  | none=>jfa t m r
theorem pairs_snd{t:Tmps}{m:Lk}:∀{ap:List (Src×Nat)}{p:Nat×Nat},p∈jfa t m ap→ ∃s,(s,p.2)∈ap
 | (s,q)::r,p,h=>by
  have _:=tbs;simp only[jfa]at h;split at h
  ·rcases Kg.1 h with rfl | h
   ·exact⟨s,Kh ..⟩
   ·obtain⟨s',h⟩:=pairs_snd h;exact⟨s',Kj _ h⟩
  ·obtain⟨s',h⟩:=pairs_snd h;exact⟨s',Kj _ h⟩
 | [],_,h=>by cases h
theorem ur_below{n:Nat}:∀{ps:List (Nat×Nat)},(∀p∈ps,n≤p.2)→ ∀k,k<n→ur ps k=k
 | [],_,_,_=>have _:=tbs;rfl
 | (k',q)::r,h,k,hk=>by
  have hq:=h (k',q) (Kh ..);simp only at hq
  have hb:Nat.beq k q=false:=by
   cases hb:Nat.beq k q
   ·rfl
   ·have:=jah hb;omega
  simp only[ur,hb];exact ur_below (fun p hp=>h p (Kj _ hp)) k hk
def jl0:List Nat→Bool
 | []=>true
 | a::r=>r.all (fun b=> !Nat.beq a b) &&jl0 r
theorem nodupN_inj{f:Nat→Nat}:∀{mid:List Nat},jl0 (mid.map f)=true→ ∀q∈mid,∀q'∈mid,q≠q'→f q≠f q'
 | a::r,h,q,hq,q',hq',hne=>by
  have _:=tbs;simp only[List.map_cons,jl0,jaf,Kf,KB,forall_exists_index,and_imp,forall_apply_eq_imp_iff₂,Ks]at h;obtain⟨h1,h2⟩:=h
  have ne:∀b∈r,f a≠f b:=fun b hb e=>by
   have:=h1 b hb;rw[e]at this;simp at this
  rcases Kg.1 hq with e1 | g1
  ·rcases Kg.1 hq' with e2 | g2
   ·exact absurd (e1.trans e2.symm) hne
   ·exact e1▸ne q' g2
  ·rcases Kg.1 hq' with e2 | g2
   ·exact e2▸(ne q g1).symm
   ·exact nodupN_inj h2 q g1 q' g2 hne
 | [],_,_,hq,_,_,_=>by cases hq
structure LSpecA (σ:Type) extends LSpec σ where
 ap:List (Src×Nat)
section
variable {σ : Type} (S : LSpecA σ)
def LSpecA.outV(t:Tmps)(m:Lk):J:=S.live.map fun j=>rlb (jfa t m S.ap) (t j)
def LSpecA.outB(t:Tmps)(m:Lk):Ya:=S.mid.map fun q=>rlB (jfa t m S.ap) (m (ur (jfa t m S.ap) q))
def LSpecA.okR(t:Tmps)(m:Lk):Bool:=jas (jfa t m S.ap) (S.live.map t) &&jmk (jfa t m S.ap) (S.mid.map fun q=>m (ur (jfa t m S.ap) q)) &&jl0 (S.mid.map (ur (jfa t m S.ap)))
def LSpecA.hA:jcb:=fun t m n K=>match cnd (Nat.ble n S.n&&jk7 S.n S.mid&&S.ap.all (fun p=>Nat.ble n p.2) && (S.okR t m&& (jaw S.n (S.outV t m) &&jbs S.n (S.outB t m))))with
 | true=>match S.dec (S.outV t m) (S.outB t m)with
  | some s=>match S.pre s with
   | true=>S.fin s (loutQ S.live S.mid S.n K)
   | false=>False
  | none=>False
 | false=>False
def LSpecA.out(R:Exit→J→Ya→Prop)(e:Exit)(t:Tmps)(m:Lk):Prop:=match cnd (S.okR t m)with
 | true=>R e (S.outV t m) (S.outB t m)
 | false=>False
end
variable {P : Program} {G : Env} {nt : Nat}
theorem jbo(hG:ja3 P G)(hm:P.follows .mixedOrders=true){L:Nat→Option jcb}{c:Code}(hl:jch c=true)(hL:LOK P L nt c){σ:Type}(S:LSpecA σ)
  (V:σ→J) (B:σ→Ya) (μ:σ→Nat) (hdec:∀{vs bs s},S.dec vs bs=some s→vs=V s∧bs=B s)
  (hid:∀s,S.pre s=true→(jaw S.n (V s) &&jbs S.n (B s))=true)
  (round:∀s x Z,S.pre s=true→S.fin s Z→jbn P G L nt c (tl S.live (V s) x) (ml S.mid (B s)) S.n fun e t' m' _=>S.out (S.step V B μ s Z) e t' m') (t:Tmps) (m:Lk) (n:Nat) (K:Exit→Tmps→Lk→Nat→Prop) (h:S.hA t m n K):Sem P nt (.loop c) t m n K:=by
 intro N w0 ι a w hrel Q hQ;simp only[LSpecA.hA]at h;split at h
 case h_2=>exact h.elim
 rename_i hok;split at h
 case h_2=>exact h.elim
 rename_i s hs;split at h
 case h_2=>exact h.elim
 rename_i hpre;simp only[cnd,LSpecA.okR,jaf]at hok;obtain⟨⟨⟨hn,hmid⟩,hap⟩,⟨⟨hg,hgb⟩,hnd⟩,hv,hb⟩:=hok;have hn:=jag hn
 have hur:∀t m k,k<n→ur (jfa t m S.ap) k=k:=fun t m k hk=>ur_below (n:=n) (fun p hp=>by
  obtain⟨s,hs⟩:=pairs_snd hp;exact jag (Kf.1 hap _ hs)) k hk
 obtain⟨e1,e2⟩:=hdec hs;obtain⟨x,hx⟩:=hrel.forgetA hg hgb (nodupN_inj hnd) hv hb hmid;have e1':(S.live.map fun j=>rlb (jfa t m S.ap) (t j))=V s:=e1;have e2':(S.mid.map fun q=>rlB (jfa t m S.ap) (m (ur (jfa t m S.ap) q)))=B s:=e2;rw[e1',e2']at hx
 have key:∀q s,μ s=q→S.pre s=true→S.fin s (lout S.live S.mid S.n K)→ ∀(x:Tmps)(ι:Nm)(a:Act)(w:World),
   RelS N w0 (· <S.n) nt (tl S.live (V s) x) (ml S.mid (B s)) ι a w→ ∀Q:Exit→Act→World→Prop,
   (∀e t' m' ι' a' w',K e t' m' S.n→(∀k,k<n→ι' k=ι k)→RelS N w0 (· <S.n) nt t' m' ι' a' w'→Q e a' w')→ji1 P c Q a w:=by
  intro q
  induction q using Nat.strongRecOn with
  | _ q ih=>
   intro s hq hpre hfin x ι a w hrel Q hQ;refine inLoop_step (jcg hG hm c _ _ _ _ hl hL (round s x _ hpre hfin) N w0 ι a w hrel _ fun e t' m' n' ι' a' w' hk hn' hι hr=> ?_);simp only[LSpecA.out]at hk;split at hk
   case h_2=>exact hk.elim
   rename_i hok;simp only[cnd,LSpecA.okR,jaf]at hok;obtain⟨⟨hg,hgb⟩,hnd⟩:=hok
   have fin:∀e,lout S.live S.mid S.n K e (S.outV t' m') (S.outB t' m')→Q e a' w':=by
    intro e ho;simp only[lout]at ho;split at ho
    case h_2=>exact ho.elim
    rename_i hii;simp only[jaf]at hii;obtain⟨x',hx'⟩:=hr.forgetA hg hgb (nodupN_inj hnd) hii.1 hii.2 hmid;exact hQ e _ _ _ a' w' (ho x') (fun k hk=>by rw[hur _ _ k hk];exact hι k (by omega)) hx'
   cases e with
   | normal=>
    obtain⟨s',h1,h2,h3,h4,h5⟩:=hk;have hids'':=hid s' h3;simp only[jaf]at hids'';have h1':(S.live.map fun j=>rlb (jfa t' m' S.ap) (t' j))=V s':=h1;have h2':(S.mid.map fun q=>rlB (jfa t' m' S.ap) (m' (ur (jfa t' m' S.ap) q)))=B s':=h2;obtain⟨x',hx'⟩:=hr.forgetA (n:=S.n) (live:=S.live) (mid:=S.mid) hg hgb (nodupN_inj hnd) (by rw[h1'];exact hids''.1) (by rw[h2'];exact hids''.2) hmid;rw[h1',h2']at hx'
    exact ih (μ s') (hq▸h4) s' rfl h3 h5 x' _ a' w' hx' Q fun e t2 m2 ι2 a2 w2 hk2 hι2 hr2=>
     hQ e t2 m2 ι2 a2 w2 hk2 (fun k hk=>by rw[hι2 k hk,hur _ _ k hk];exact hι k (by omega)) hr2
   | _=>exact fin _ hk
 refine inLoop_loop (key _ s rfl hpre h x _ a w hx Q fun e t' m' ι' a' w' hk hι hr=> ?_);exact hQ e t' m' S.n ι' a' w' hk hn (fun k hk=>by rw[hι k hk,hur _ _ k hk]) hr
end Go.Ab
