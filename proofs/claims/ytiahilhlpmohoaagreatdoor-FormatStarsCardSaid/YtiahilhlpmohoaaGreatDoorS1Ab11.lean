/-
  Ab11: the run and laws.
-/
import Derived.Test.YtiahilhlpmohoaaGreatDoorS1Ab10
set_option linter.unusedVariables false
set_option linter.unusedSimpArgs false
set_option linter.unusedSectionVars false
noncomputable section
namespace Go.Ab
open Go Go.RowKit
variable [Tabs]
def tl:List Nat→J→Tmps→Tmps
 | j::js,v::vs,x=>fun i=>match Nat.beq i j with | true=>v | false=>tl js vs x i
 | _,_,x=>x
def ml:List Nat→Ya→Lk
 | j::js,b::bs=>fun i=>match Nat.beq i j with | true=>b | false=>ml js bs i
 | _,_=>fun _=>none
theorem tl_map(t x:Tmps)(i:Nat):∀live:List Nat,(i∈live∧tl live (live.map t) x i=t i)∨tl live (live.map t) x i=x i
 | []=>have _:=tbs; .inr rfl
 | j::js=>by
  simp only[List.map_cons,tl];cases hb:Nat.beq i j
  ·rcases tl_map t x i js with⟨h1,h2⟩ | h
   ·exact .inl ⟨Kj _ h1,h2⟩
   ·exact .inr h
  ·obtain rfl:=jah hb;exact .inl ⟨Kh ..,rfl⟩
theorem ml_map(m:Lk)(i:Nat){b:Blk}:∀mid:List Nat,ml mid (mid.map m) i=some b→i∈mid∧m i=some b
 | [],h=>by have _:=tbs;cases h
 | j::js,h=>by
  simp only[List.map_cons,ml]at h;cases hb:Nat.beq i j
  ·rw[hb]at h;obtain⟨h1,h2⟩:=ml_map m i js h;exact⟨Kj _ h1,h2⟩
  ·rw[hb]at h;obtain rfl:=jah hb;exact⟨Kh ..,h⟩
def jaw(n:Nat)(vs:J):Bool:=(idsL vs).all (Nat.blt · n)
def jbs(n:Nat):Ya→Bool
 | []=>true
 | some b::r=>jaw n b.c&&jbs n r
 | none::r=>jbs n r
def jk7(n:Nat)(mid:List Nat):Bool:=mid.all (Nat.blt · n)
theorem idsLt_iff{n:Nat}{vs:J}:jaw n vs=true↔ ∀v∈vs,∀k∈ids v,k<n:=by
 have _:=tbs;simp only[jaw,Kf,Nat.blt_eq];constructor
 ·exact fun h v hv k hk=>h k (jay.2 ⟨v,hv,hk⟩)
 ·intro h k hk;obtain⟨v,hv,hk⟩:=jay.1 hk;exact h v hv k hk
theorem jfv{n:Nat}:∀{bs:Ya},jbs n bs=true→ ∀b,some b∈bs→ ∀j∈idsL b.c,j<n
 | some b::r,h,b',hb=>by
  simp only[jbs,jaf]at h;rcases Kg.1 hb with hb | hb
  ·cases hb;intro j hj;obtain⟨v,hv,hk⟩:=jay.1 hj;exact idsLt_iff.1 h.1 v hv j hk
  ·exact jfv h.2 b' hb
 | none::r,h,b',hb=>by
  rcases Kg.1 hb with hb | hb
  ·cases hb
  ·exact jfv (bs:=r) h b' hb
section
variable {P : Program} {G : Env} {nt : Nat} {N : Nat} {w0 : World} {ι : Nm} {a : Act} {w : World}
theorem RelS.mono{S S':Nat→Prop}{t:Tmps}{m:Lk}(h:RelS N w0 S nt t m ι a w)(hs:∀k,S k→S' k):RelS N w0 S' nt t m ι a w:=
 ⟨h.tmps,h.defers,h.mem,h.wf.mono hs⟩
theorem RelS.forget{S:Nat→Prop}{n:Nat}{t:Tmps}{m:Lk}(h:RelS N w0 S nt t m ι a w){live mid:List Nat}(ht:jaw n (live.map t)=true)(hb:jbs n (mid.map m)=true)
  (hk:jk7 n mid=true):∃x,RelS N w0 (· <n) nt (tl live (live.map t) x) (ml mid (mid.map m)) ι a w:=by
 have hr:∀v,ren ι (ren ι v)=ren ι v:=fun v=>ja9 ι (plain_ren ι v)
 refine⟨fun i=>ren ι (t i),?_,h.defers,⟨h.mem.below,h.mem.base,?_,?_,?_⟩,?_,?_⟩
 ·rw[h.tmps];simp only[Tm];congr 1;refine Ku fun i _=> ?_
  rcases tl_map t (fun i=>ren ι (t i)) i live with⟨_,h2⟩ | h2
  ·rw[h2]
  ·rw[h2,hr]
 ·exact fun k b hk=>h.mem.blk k b (ml_map m k mid hk).2
 ·exact fun k b hk=>h.mem.view k b (ml_map m k mid hk).2
 ·exact fun k k' b b' hk hk'=>h.mem.inj k k' b b' (ml_map m k mid hk).2 (ml_map m k' mid hk').2
 ·intro i hi j hj;rcases tl_map t (fun i=>ren ι (t i)) i live with⟨h1,h2⟩ | h2
  ·rw[h2]at hj;exact idsLt_iff.1 ht _ (List.mem_map_of_mem h1) j hj
  ·rw[h2,jbm (plain_ren ι _)]at hj;cases hj
 ·intro k b hk';obtain⟨h1,h2⟩:=ml_map m k mid hk';refine⟨?_,fun j hj=>jfv hb b (h2▸List.mem_map_of_mem h1) j hj⟩;simp only[jk7,Kf,Nat.blt_eq]at hk;exact hk k h1
structure LSpec (σ:Type) where
 live:List Nat
 mid:List Nat
 n:Nat
 dec:J→Ya→Option σ
 pre:σ→Bool
 fin:σ→(Exit→J→Ya→Prop)→Prop
def lout(live mid:List Nat)(n:Nat)(K:Exit→Tmps→Lk→Nat→Prop)(e:Exit)(vs:J)(bs:Ya):Prop:=
 match jaw n vs&&jbs n bs with
 | true=>∀x,K e (tl live vs x) (ml mid bs) n
 | false=>False
def LSpec.h{σ:Type}(S:LSpec σ):jcb:=fun t m n K=>match Nat.ble n S.n&&jk7 S.n S.mid&&jaw S.n (S.live.map t) &&jbs S.n (S.mid.map m)with
 | true=>match S.dec (S.live.map t) (S.mid.map m)with
  | some s=>match S.pre s with
   | true=>S.fin s (lout S.live S.mid S.n K)
   | false=>False
  | none=>False
 | false=>False
def LSpec.step{σ:Type}(S:LSpec σ)(V:σ→J)(B:σ→Ya)(μ:σ→Nat)(s:σ)(Z:Exit→J→Ya→Prop):
  Exit→J→Ya→Prop:=fun e vs bs=>match e with
 | .normal=>∃s',vs=V s'∧bs=B s'∧S.pre s'=true∧μ s'<μ s∧S.fin s' Z
 | e=>Z e vs bs
def blks(L:Nat→Option jcb):Code→List (Nat×Code)
 | .seq a b | .cond _ a b=>blks L a++blks L b
 | .block id b=>match L id with
  | some _=> [(id,b)]
  | none=>blks L b
 | .loop b | .scope b=>blks L b
 | _=> []
theorem jhh{L:Nat→Option jcb}:∀c:Code,(∀p∈blks L c,∀h,L p.1=some h→ ∀t m n K,h t m n K→Sem P nt p.2 t m n K)→LOK P L nt c
 | .seq a b,h | .cond _ a b,h=>⟨jhh a fun p hp=>h p (by simp[blks,hp]),jhh b fun p hp=>h p (by simp[blks,hp])⟩
 | .block id b,h=>by
  simp only[LOK];split
  ·rename_i h' hh;exact h (id,b) (by simp[blks,hh]) h' hh
  ·rename_i hh;exact jhh b fun p hp=>h p (by simp[blks,hh,hp])
 | .loop b,h | .scope b,h=>jhh b fun p hp=>h p hp
 | .skip,_ | .label _,_ | .region _ _ _,_ | .exit _,_ | .ret,_ | .goto _,_ | .rangeFunc _ _ _ _,_ | .refuse _,_=>trivial
def jkm(id:Nat):Code→Option Code
 | .seq a b | .cond _ a b=>match jkm id a with
  | some c=>some c
  | none=>jkm id b
 | .block i b=>match Nat.beq i id with
  | true=>match b with
   | .loop c=>some c
   | _=>none
  | false=>jkm id b
 | .loop b | .scope b=>jkm id b
 | _=>none
def ja2(fn:Func)(id:Nat):Code:=match fn.body with
 | some c=>(jkm id c).getD .skip
 | none=> .skip
theorem jbb{fn:Func}{id:Nat}{h:jcb}(hb:(match fn.body with | some c=>blks (oneL id h) c | none=> [])=[(id,.loop (ja2 fn id))])
  (hs:∀t m n K,h t m n K→Sem P fn.ntmps (.loop (ja2 fn id)) t m n K):LOKf P (oneL id h) fn:=by
 unfold LOKf;split
 ·rename_i c hc;simp only[hc]at hb;refine jhh c fun p hp h' hh=> ?_
  rw[hb]at hp;simp only[List.mem_singleton]at hp;subst hp
  have:h'=h:=by
   simp only[oneL]at hh;have e:Nat.beq id id=true:=by simp
   rw[e]at hh;simpa using hh.symm
  subst this;exact hs
 ·trivial
end
end Go.Ab
