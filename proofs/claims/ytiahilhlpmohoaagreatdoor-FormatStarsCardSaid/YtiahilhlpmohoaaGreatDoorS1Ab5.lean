/-
  Ab5: the run and laws.
-/
import Derived.Test.YtiahilhlpmohoaaGreatDoorS1Ab4
set_option linter.unusedVariables false
set_option linter.unusedSimpArgs false
set_option linter.unusedSectionVars false
noncomputable section
namespace Go.Ab
open Go Go.RowKit
variable [Tabs]
section
variable {P : Program} {G : Env} {o : Oper} {e e' : Operand → Value} {lk lk' : Lk}
def jd3(o:Oper):Bool:=
 match o.op with
 | .load _ _ | .store _ _ _ | .convert _ _ _ | .lookup _ _ _ _=>true
 | .call c=>match c.callee with | .value _ | .invoke _ _=>true | _=>false
 | _=>false
def jdu(o:Oper):Bool:=match o.op with | .store _ _ _=>true | _=>false
theorem generic_congr(hs:∀cs b,o.op≠ .select cs b)(he:∀x∈o.op.operands,e x=e' x):jbr P o e=jbr P o e':=by
 have _:=tbs
 have h1:o.op.operands.toList.all (fun x=>plain (e x))=o.op.operands.toList.all (fun x=>plain (e' x)):=by
  rw[Kl];simp only[Kf];exact⟨fun h x hx=>by rw[←he x (by simpa using hx)];exact h x hx,fun h x hx=>by rw[he x (by simpa using hx)];exact h x hx⟩
 unfold jbr;rw[h1,execOp_congr o hs he]
theorem blkOf_congr{v:Value}(h:∀k∈ids v,lk k=lk' k):blkOf lk v=blkOf lk' v:=by
 have _:=tbs;unfold blkOf;split
 ·rename_i a;cases hs:a.spot with
  | none=>rfl
  | some s=>exact congrArg noIt (h a.block (by simp[ids,hs]))
 ·rename_i a l c;cases hs:a.spot with
  | none=>rfl
  | some s=>exact congrArg noIt (h a.block (by simp[ids,hs]))
 ·rfl
theorem jgo{v:Value}{k off sp:Nat}(h:own? v=some (k,off,sp)):k∈ids v:=by
 rw[jc2 h];simp[ids]
theorem mapAt_mem{kd:IntKind}{i:Int}{v:Value}:∀{l:J},jfi kd i l=some (some v)→v∈l
 | [],h=>by simp[jfi]at h
 | [u],h=>by cases u<;>simp[jfi]at h
 | .int kd' j::u::r,h=>by
  simp only[jfi]at h;split at h
  ·split at h
   ·cases h;simp
   ·have:=mapAt_mem h;simp[this]
  ·cases h
 | .bool _::_::_,h | .float _ _::_::_,h | .complex _ _ _::_::_,h | .string _::_::_,h | .pointer _::_::_,h | .slice _ _ _::_::_,h | .map _::_::_,h | .chan _::_::_,h | .func _ _ _::_::_,h | .nilFunc::_::_,h
 | .iface _ _::_::_,h | .nilIface::_::_,h | .agg _::_::_,h | .tuple _::_::_,h=>by simp[jfi]at h
theorem lookR_ids{t:TypeId}{x ix:Operand}{c:Bool}{r:Res}(h:jk8 P e lk t x ix=some (c,r)):∃v,r= .val v∧ ∀j∈ids v,∃k b,lk k=some b∧j∈idsL b.c:=by
 unfold jk8 at h;split at h
 ·rename_i kt et k kd i ht hx hix;split at h
  ·rename_i ik b ti hkt hk hti;split at h
   ·rename_i q rr z ho hc hz;split at h
    ·rename_i v hv;simp only[Kb,Ke]at h;exact⟨v,h.2.symm,fun j hj=>⟨k,b,hk,by rw[hc];exact jay.2 ⟨v,by simp[mapAt_mem hv],hj⟩⟩⟩
    ·rename_i hv hp;simp only[Kb,Ke]at h;exact⟨z,h.2.symm,fun j hj=>by rw[jbm hp]at hj;cases hj⟩
    ·cases h
   ·cases h
  ·cases h
 ·cases h
theorem jiz(he:∀x∈o.op.operands,e x=e' x)(hl:jd3 o=true→ ∀x∈o.op.operands,∀k∈ids (e x),lk k=lk' k):aop P G o e lk=aop P G o e' lk':=by
 have gen:(∀cs b,o.op≠ .select cs b)→jbr P o e=jbr P o e':=fun hs=>generic_congr hs he
 unfold aop;split
 ·rename_i x hop;rw[he x (by simp[hop,Op.operands])]
 ·rename_i x hop;rw[he x (by simp[hop,Op.operands])]
 ·rename_i c x y hop;rw[he c (by simp[hop,Op.operands]),he x (by simp[hop,Op.operands]),he y (by simp[hop,Op.operands])]
 ·rfl
 ·rename_i t x hop;rw[he x (by simp[hop,Op.operands])]
 ·rename_i t x hop;have hx:=he x (by simp[hop,Op.operands]);have hl':=hl (by simp[jd3,hop]) x (by simp[hop,Op.operands]);rw[←hx];cases ho:own? (e x)with
  | none=>rfl
  | some p=>obtain⟨k,off,sp⟩:=p;simp only[hl' k (jgo ho)]
 ·rename_i t x y hop;have hx:=he x (by simp[hop,Op.operands]);have hl':=hl (by simp[jd3,hop]) x (by simp[hop,Op.operands]);rw[←hx,he y (by simp[hop,Op.operands])];cases ho:own? (e x)with
  | none=>rfl
  | some p=>obtain⟨k,off,sp⟩:=p;simp only[hl' k (jgo ho)]
 ·rename_i s x f hop;rw[he x (by simp[hop,Op.operands])]
 ·rename_i x i hop;rw[he x (by simp[hop,Op.operands])]
 ·rename_i op xt x y yt hop;have hx:=he x (by simp[hop,Op.operands]);have hy:=he y (by simp[hop,Op.operands]);unfold binR;rw[hx,hy,gen (fun cs b=>by rw[hop];simp)]
 ·rename_i c hop;have hargs:∀x∈c.args,e x=e' x:=fun x hx=>he x (by simp[hop,Op.operands,Call.operands,hx])
  have g:=gen (fun cs b=>by rw[hop];simp);unfold jlo;split
  ·rename_i y hf;have hl':=hl (by simp[jd3,hop,hf]);have hy:e y=e' y:=he y (by simp[hop,Op.operands,Call.operands,hf]);have hy':∀k∈ids (e y),lk k=lk' k:=hl' y (by simp[hop,Op.operands,Call.operands,hf]);have m1:c.args.toList.map e=c.args.toList.map e':=Ku fun x hx=>hargs x (by simpa using hx)
   have m2:(c.args.toList.map e).map (blkOf lk)=(c.args.toList.map e).map (blkOf lk'):=
    Ku fun v hv=>by
     obtain⟨x,hx,rfl⟩:=KB.1 hv;exact blkOf_congr (hl' x (by simp[hop,Op.operands,Call.operands];exact .inr (by simpa using hx)))
   rw[←hy,←m1];split
   ·rename_i f first captured hfv
    have m3:first.map (blkOf lk)=first.map (blkOf lk'):=Ku fun v hv=>blkOf_congr fun k hk=>hy' k (by
     rw[hfv];simp only[ids,Kq];exact .inl (jay.2 ⟨v,hv,hk⟩))
    have m4:captured.map (blkOf lk)=captured.map (blkOf lk'):=Ku fun v hv=>blkOf_congr fun k hk=>hy' k (by
     rw[hfv];simp only[ids,Kq];exact .inr (jay.2 ⟨v,hv,hk⟩))
    simp only[List.map_append,m2,m3,m4]
   ·rfl
  ·split
   ·rename_i x t hx ht;rw[hargs x (by rw[←Array.mem_toList_iff,hx];simp),g]
   ·rfl
  ·split
   ·rename_i x y hx;rw[hargs x (by rw[←Array.mem_toList_iff,hx];simp),hargs y (by rw[←Array.mem_toList_iff,hx];simp)]
   ·exact g
  ·split
   ·rename_i x y hx;rw[hargs x (by rw[←Array.mem_toList_iff,hx];simp),hargs y (by rw[←Array.mem_toList_iff,hx];simp)]
   ·exact g
  ·rfl
  ·exact g
  ·rename_i y name hf;have hl':=hl (by simp[jd3,hop,hf]);have hy:e y=e' y:=he y (by simp[hop,Op.operands,Call.operands,hf]);have m1:c.args.toList.map e=c.args.toList.map e':=Ku fun x hx=>hargs x (by simpa using hx)
   have m2:(c.args.toList.map e).map (blkOf lk)=(c.args.toList.map e).map (blkOf lk'):=
    Ku fun v hv=>by
     obtain⟨x,hx,rfl⟩:=KB.1 hv;exact blkOf_congr (hl' x (by simp[hop,Op.operands,Call.operands];exact .inr (by simpa using hx)))
   rw[←hy,←m1];split
   ·split
    ·split
     ·split
      ·rename_i hprv
       have m3:∀q,q=blkOf lk' _→blkOf lk _=q:=fun q hq=>by
        rw[hq];exact blkOf_congr fun k hk=>by rw[jbm hprv]at hk;cases hk
       simp only[List.map_cons,m2,m3 _ rfl]
      ·rfl
     ·rfl
    ·rfl
   ·rfl
 ·rename_i t x ix hop;unfold jd2;rw[he x (by simp[hop,Op.operands]),he ix (by simp[hop,Op.operands])]
 ·rename_i t x ix hop;unfold ji8;rw[he x (by simp[hop,Op.operands]),he ix (by simp[hop,Op.operands])]
 ·rename_i t len parts hop;have hp:∀p∈parts,e p.2=e' p.2:=fun p hp=>he p.2 (by simp only[hop,Op.operands];simp;exact⟨p.1,hp⟩)
  have h2:(parts.map fun(q,x)=>(q,e x))=parts.map fun(q,x)=>(q,e' x):=Array.map_congr_left fun p hpm=>by
   obtain⟨q,x⟩:=p;simp only[hp (q,x) hpm]
  unfold jdl;rw[h2]
 ·rename_i fn first captured hop
  have h1:first.toList.map e=first.toList.map e':=Ku fun x hx=>he x (by simp[hop,Op.operands];exact .inl (by simpa using hx))
  have h2:captured.toList.map e=captured.toList.map e':=Ku fun x hx=>he x (by simp[hop,Op.operands];exact .inr (by simpa using hx))
  rw[h1,h2]
 ·rename_i t x hop;rw[he x (by simp[hop,Op.operands])]
 ·rename_i t x lo hi mx hop;have hg:=gen (fun cs b=>by rw[hop];simp);have hb1:∀d,bndV e lo d=bndV e' lo d:=fun d=>by cases lo with | none=>rfl | some y=>simp only[bndV,he y (by simp[hop,Op.operands])]
  have hb2:∀d,bndV e hi d=bndV e' hi d:=fun d=>by cases hi with | none=>rfl | some y=>simp only[bndV,he y (by cases lo<;>simp[hop,Op.operands])]
  unfold jkh;simp only[he x (by simp[hop,Op.operands]),hg,hb1,hb2]
 ·rename_i t t' x hop;have hg:=gen (fun cs b=>by rw[hop];simp);have hx:=he x (by simp[hop,Op.operands]);have hl':=hl (by simp[jd3,hop]) x (by simp[hop,Op.operands]);unfold jnf;rw[←hx];split
  ·rename_i ad n cap hxv;rw[hg];cases hsp:ad.spot with
   | none=>rfl
   | some s=>simp only[hl' ad.block (by rw[hxv];simp[ids,hsp])]
  ·exact hg
 ·rename_i x hop;rw[he x (by simp[hop,Op.operands]),gen (fun cs b=>by rw[hop];simp)]
 ·rename_i t x hop;rw[he x (by simp[hop,Op.operands])]
 rotate_left 4
 ·rename_i t x ix hop;have hx:=he x (by simp[hop,Op.operands]);have hl':=hl (by simp[jd3,hop]) x (by simp[hop,Op.operands]);unfold jk8;rw[←hx,←he ix (by simp[hop,Op.operands])];split
  ·rename_i kt et k kd i ht hxv hiv;rw[hl' k (by rw[hxv];simp[ids])]
  ·rfl
 all_goals first
  | (rename_i hop;exact gen (fun cs b=>by rw[hop];simp))
  | rfl
def idsR:Res→List Nat
 | .val v=>ids v
 | .ptr b | .slc b _=>idsL b.c
 | .upd _ b=>idsL b.c
theorem generic_ids{c:Bool}{r:Res}(h:jbr P o e=some (c,r)):idsR r=[]:=by
 have _:=tbs;unfold jbr at h;split at h
 ·split at h
  ·split at h
   ·rename_i hp;cases h;exact jbm hp
   ·cases h
  ·cases h
 ·cases h
theorem typed1_ids{c:J}{i:Nat}{z v:Value}{b:Bool}(h:jh0 c i z=some (b,v)):ids v=[]:=by
 have _:=tbs;unfold jh0 at h;split at h
 ·cases h;rfl
 ·cases h;rfl
 ·cases h;rfl
 ·cases h
theorem typedL_ids{c:J}:∀{zs:J}{i:Nat}{vs:J}{b:Bool},jhe c i zs=some (b,vs)→idsL vs=[]
 | [],i,vs,b,h=>by
  simp only[jhe,Kb,Ke]at h;obtain⟨_,rfl⟩:=h;rfl
 | z::r,i,vs,b,h=>by
  simp only[jhe]at h;split at h
  ·rename_i b1 v b' vs' h1 h2;cases h;simp[idsL,typed1_ids h1,typedL_ids h2]
  ·cases h
theorem loadB_ids{t:TypeId}{b:Blk}{off sp:Nat}{c:Bool}{r:Res}(h:jid P t b off sp=some (c,r)):(∃v,r= .val v)∧ ∀j∈idsR r,j∈idsL b.c:=by
 unfold jid at h;split at h
 ·cases h
 split at h
 ·split at h
  ·split at h
   ·cases h;refine⟨⟨_,rfl⟩,fun j hj=> ?_⟩;simp only[idsR,ids]at hj;obtain⟨v,hv,hjv⟩:=jay.1 hj;exact jay.2 ⟨v,List.mem_of_mem_drop (List.mem_of_mem_take hv),hjv⟩
   ·cases h
  ·split at h
   ·split at h
    ·rename_i hl;cases h;exact⟨⟨_,rfl⟩,by simp only[idsR,ids,typedL_ids hl];simp⟩
    ·cases h
   ·cases h
  ·split at h
   ·rename_i v hv;cases h;exact⟨⟨_,rfl⟩,fun j hj=>jay.2 ⟨v,List.mem_of_getElem? hv,hj⟩⟩
   ·cases h
  ·split at h
   ·split at h
    ·rename_i hv;cases h;exact⟨⟨_,rfl⟩,by simp only[idsR,typed1_ids hv];simp⟩
    ·split at h
     ·rename_i v hv;cases h;exact⟨⟨_,rfl⟩,fun j hj=>jay.2 ⟨v,List.mem_of_getElem? hv,hj⟩⟩
     ·cases h
   ·cases h
 ·cases h
theorem storeB_ids{t:TypeId}{k:Nat}{b:Blk}{off:Nat}{v:Value}{c:Bool}{r:Res}(h:jh3 P t k b off v=some (c,r)):
  ∃b',r= .upd k b'∧ ∀j∈idsL b'.c,j∈idsL b.c∨j∈ids v:=by
 unfold jh3 at h;split at h
 ·split at h
  ·cases h;refine⟨_,rfl,fun j hj=> ?_⟩;obtain⟨u,hu,hju⟩:=jay.1 hj;rcases setL_mem hu with hu | hu
   ·exact .inl (jay.2 ⟨u,hu,hju⟩)
   ·exact .inr (by rw[←jc4];exact jay.2 ⟨u,hu,hju⟩)
  ·cases h
 ·cases h
theorem jfp{c:Bool}{r:Res}(h:aop P G o e lk=some (c,r)):
  (∀j∈idsR r,(∃x∈o.op.operands,j∈ids (e x))∨ ∃k b,lk k=some b∧j∈idsL b.c)∧(∀k b,r= .upd k b→(∃b',lk k=some b')∧jdu o=true):=by
 have gen:jbr P o e=some (c,r)→(∀j∈idsR r,(∃x∈o.op.operands,j∈ids (e x))∨ ∃k b,lk k=some b∧j∈idsL b.c)∧(∀k b,r= .upd k b→(∃b',lk k=some b')∧jdu o=true):=fun hg=>by
  refine⟨by rw[generic_ids hg];simp,fun k b hr=> ?_⟩;unfold jbr at hg;split at hg
  ·split at hg
   ·split at hg
    ·cases hg;cases hr
    ·cases hg
   ·cases hg
  ·cases hg
 have val:∀{v:Value},(∀j∈ids v,(∃x∈o.op.operands,j∈ids (e x))∨ ∃k b,lk k=some b∧j∈idsL b.c)→some (c,Res.val v)=some (c,r)→
   (∀j∈idsR r,(∃x∈o.op.operands,j∈ids (e x))∨ ∃k b,lk k=some b∧j∈idsL b.c)∧(∀k b,r= .upd k b→(∃b',lk k=some b')∧jdu o=true):=fun{v} hv hr=>by
  cases hr;exact⟨hv,fun k b hb=>by cases hb⟩
 unfold aop at h;split at h
 ·rename_i x hop;cases h;exact val (fun j hj=> .inl ⟨x,by simp[hop,Op.operands],hj⟩) rfl
 ·rename_i x hop;cases h;exact val (fun j hj=> .inl ⟨x,by simp[hop,Op.operands],hj⟩) rfl
 ·rename_i cc x y hop;split at h
  ·cases h;exact val (fun j hj=> .inl ⟨x,by simp[hop,Op.operands],hj⟩) rfl
  ·cases h;exact val (fun j hj=> .inl ⟨y,by simp[hop,Op.operands],hj⟩) rfl
  ·cases h
 ·split at h
  ·split at h
   ·split at h
    ·rename_i z _ hp;simp only[jaf]at hp;have hp:=hp.1;cases h;refine⟨fun j hj=> ?_,fun k b hb=>by cases hb⟩;simp only[idsR,jc4,jbm hp]at hj;cases hj
    ·cases h
   ·cases h
  ·cases h
 ·rename_i t x hop;split at h
  ·cases h
  cases h;refine⟨fun j hj=> .inl ⟨x,by simp[hop,Op.operands],?_⟩,fun k b hb=>by cases hb⟩;simpa only[idsR,jc4]using hj
 ·rename_i t x hop;split at h
  ·rename_i k off sp ho;split at h
   ·rename_i b hk;split at h
    ·cases h
    obtain⟨⟨v,rfl⟩,hi⟩:=loadB_ids h;exact⟨fun j hj=> .inr ⟨k,b,hk,hi j hj⟩,fun k' b' hb=>by cases hb⟩
   ·cases h
  ·unfold jjh at h;split at h
   ·split at h
    ·rename_i r' hrow;obtain⟨⟨v,rfl⟩,hi⟩:=loadB_ids h;refine⟨fun j hj=> ?_,fun k' b' hb=>by cases hb⟩;have:=hi j hj;simp only[jao (Tabs.plain _ r' hrow)]at this;cases this
    ·cases h
   ·cases h
 ·rename_i t x y hop;split at h
  ·rename_i k off sp ho;split at h
   ·rename_i b hk;obtain⟨b',rfl,hi⟩:=storeB_ids h;refine⟨fun j hj=> ?_,fun k' b'' hb=> ?_⟩
    ·rcases hi j hj with h1 | h1
     ·exact .inr ⟨k,b,hk,h1⟩
     ·exact .inl ⟨y,by simp[hop,Op.operands],h1⟩
    ·cases hb;exact⟨⟨b,hk⟩,by simp[jdu,hop]⟩
   ·cases h
  ·cases h
 ·rename_i s x f hop;split at h
  ·rename_i k off sp ho;split at h
   ·cases h;refine val (fun j hj=> .inl ⟨x,by simp[hop,Op.operands],?_⟩) rfl;have:j=k:=by simpa[optr,ids]using hj
    exact this▸jgo ho
   ·cases h
  ·cases h
 ·rename_i x i hop;split at h
  ·rename_i vs hv;split at h
   ·rename_i v hvi;cases h;refine val (fun j hj=> .inl ⟨x,by simp[hop,Op.operands],?_⟩) rfl;obtain⟨l⟩:=vs;rw[hv];simp only[ids];exact jay.2 ⟨v,List.mem_of_getElem? (by simpa using hvi),hj⟩
   ·cases h
  ·cases h
 ·unfold binR at h;split at h
  ·split at h
   ·cases h;exact val (by simp[ids]) rfl
   ·cases h
  ·split at h
   ·cases h;exact val (by simp[ids]) rfl
   ·cases h
  ·cases h;exact val (by simp[ids]) rfl
  ·cases h;exact val (by simp[ids]) rfl
  ·cases h;exact val (by simp[ids]) rfl
  ·split at h
   ·cases h;exact val (by simp[ids]) rfl
   ·cases h
  ·split at h
   ·cases h;exact val (by simp[ids]) rfl
   ·cases h
  ·split at h
   ·cases h;exact val (by simp[ids]) rfl
   ·exact gen h
  ·split at h
   ·cases h;exact val (by simp[ids]) rfl
   ·exact gen h
  ·split at h
   ·cases h;exact val (by simp[ids]) rfl
   ·exact gen h
  ·split at h
   ·cases h;exact val (by simp[ids]) rfl
   ·exact gen h
  ·split at h
   ·cases h;exact val (by simp[ids]) rfl
   ·exact gen h
  ·split at h
   ·cases h;exact val (by simp[ids]) rfl
   ·exact gen h
  ·exact gen h
 ·unfold jlo at h;split at h
  ·split at h
   ·split at h
    ·split at h
     ·split at h
      ·rename_i hp;cases h;exact val (by rw[jbm hp];simp) rfl
      ·cases h
     ·cases h
    ·cases h
   ·cases h
  ·split at h
   ·split at h
    ·split at h
     ·split at h<;>(cases h;exact val (by simp[ids]) rfl)
     ·cases h
    ·exact gen h
   ·cases h
  ·split at h
   ·split at h
    ·cases h;exact val (by simp[ids]) rfl
    ·cases h
   ·exact gen h
  ·split at h
   ·split at h
    ·cases h;exact val (by simp[ids]) rfl
    ·cases h
   ·exact gen h
  ·cases h
  ·exact gen h
  ·split at h
   case h_2=>cases h
   split at h
   case h_2=>cases h
   split at h
   case h_2=>cases h
   split at h
   case h_2=>cases h
   split at h
   case h_2=>cases h
   split at h
   case h_2=>cases h
   split at h
   ·rename_i hp;cases h;exact val (by rw[jbm hp];simp) rfl
   ·cases h
 ·rename_i t x ix hop;unfold jd2 at h;split at h
  ·split at h
   ·rename_i k off sp ti ho hti;cases h;refine val (fun j hj=> .inl ⟨x,by simp[hop,Op.operands],?_⟩) rfl;have:j=k:=by simpa[optr,ids]using hj
    exact this▸jgo ho
   ·split at h
    ·cases h;exact val (by simp[ids]) rfl
    ·cases h
   ·cases h
  ·rename_i hv _;split at h
   ·rename_i s ti hs hti;cases h;refine val (fun j hj=> .inl ⟨x,by simp[hop,Op.operands],?_⟩) rfl;rw[hv];simpa[optr,ids,hs]using hj
   ·cases h
  ·cases h
 ·unfold ji8 at h;split at h
  ·split at h
   ·split at h
    ·split at h
     ·rename_i hv;cases h;exact val (by rw[typed1_ids hv];simp) rfl
     ·cases h
    ·cases h
   ·cases h
  ·cases h;exact val (by simp[ids]) rfl
  ·cases h
 ·rename_i t len parts hop;unfold jdl at h;split at h
  ·split at h
   ·split at h
    ·split at h
     ·split at h
      ·rename_i hp;split at h
       ·rename_i cells hf;cases h;refine⟨fun j hj=> .inl ?_,fun k b hb=>by cases hb⟩;simp only[idsR]at hj;obtain⟨v,hv,hjv⟩:=jay.1 hj;rcases fill_mem _ _ _ _ hf v hv with hv | ⟨p,hpm,hv⟩
        ·rw[jbm (ja7.1 hp v hv)]at hjv;cases hjv
        ·simp only[Array.toList_map,KB]at hpm;obtain⟨⟨q,x⟩,hpm,rfl⟩:=hpm;exact⟨x,by simp only[hop,Op.operands];simp;exact⟨q,by simpa using hpm⟩,by rw[←jc4];exact jay.2 ⟨v,hv,hjv⟩⟩
       ·cases h
      ·cases h
     ·cases h
    ·cases h
   ·cases h
  ·cases h
 ·rename_i fn first captured hop
  cases h;refine val (fun j hj=> ?_) rfl;simp only[ids,Kq]at hj;rcases hj with hj | hj
  ·obtain⟨v,hv,hjv⟩:=jay.1 hj;obtain⟨x,hx,rfl⟩:=KB.1 hv;exact .inl ⟨x,by simp[hop,Op.operands];exact .inl (by simpa using hx),hjv⟩
  ·obtain⟨v,hv,hjv⟩:=jay.1 hj;obtain⟨x,hx,rfl⟩:=KB.1 hv;exact .inl ⟨x,by simp[hop,Op.operands];exact .inr (by simpa using hx),hjv⟩
 ·split at h
  ·cases h;exact⟨by simp[idsR,idsL,ids],fun k b hb=>by cases hb⟩
  ·cases h
 ·rename_i t x lo hi mx hop;unfold jkh at h;split at h
  ·rename_i el ad len cap hd hxv;split at h
   ·rename_i s ti l ln hh hn hsp _ _ _;cases h;refine val (fun j hj=> .inl ⟨x,by simp[hop,Op.operands],?_⟩) rfl;rw[hxv];simpa[ids,hsp]using hj
   ·exact gen h
  ·split at h
   ·cases h;exact val (by simp[ids]) rfl
   ·exact gen h
  ·split at h
   ·cases h;exact val (by simp[ids]) rfl
   ·cases h
  ·exact gen h
 ·rename_i t t' x hop;unfold jnf at h;split at h
  ·split at h
   ·split at h
    ·split at h
     ·cases h;exact val (by simp[ids]) rfl
     ·cases h
    ·cases h
   ·exact gen h
  ·exact gen h
 ·rename_i x hop;split at h
  ·cases h;exact val (fun j hj=> .inl ⟨x,by simp[hop,Op.operands],hj⟩) rfl
  ·exact gen h
 ·rename_i t x hop;split at h
  ·cases h
  ·cases h;exact val (fun j hj=> .inl ⟨x,by simp[hop,Op.operands],by simpa[ids]using hj⟩) rfl
  ·cases h
 rotate_left 4
 ·obtain⟨v,rfl,hi⟩:=lookR_ids h;exact⟨fun j hj=> .inr (hi j hj),fun k' b' hb=>by cases hb⟩
 all_goals first | exact gen h | cases h
end
end Go.Ab
