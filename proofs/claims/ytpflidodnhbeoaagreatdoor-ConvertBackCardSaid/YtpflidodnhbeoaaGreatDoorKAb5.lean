/-
  Ab5: the run and laws.
-/
import Derived.Test.YtpflidodnhbeoaaGreatDoorKAb4
set_option linter.unusedVariables false
set_option linter.unusedSimpArgs false
noncomputable section
namespace Go.Ab
open Go Go.RowKit
variable [Tabs]
section
variable {P : Program} {G : Env} {o : Oper} {e e' : Operand → Value} {lk lk' : Lk}
def jd8(o:Oper):Bool:=
 match o.op with
 | .load _ _ | .store _ _ _ | .convert _ _ _=>true
 | .call c=>match c.callee with | .value _ | .invoke _ _=>true | _=>false
 | _=>false
def jdy(o:Oper):Bool:=match o.op with | .store _ _ _=>true | _=>false
theorem generic_congr(hs:∀cs b,o.op≠ .select cs b)(he:∀x∈o.op.operands,e x=e' x):jbq P o e=jbq P o e':=by
 have _:=tbs
 have h1:o.op.operands.toList.all (fun x=>plain (e x))=o.op.operands.toList.all (fun x=>plain (e' x)):=by
  rw[Bool.eq_iff_iff];simp only[List.all_eq_true];exact⟨fun h x hx=>by rw[←he x (by simpa using hx)];exact h x hx,fun h x hx=>by rw[he x (by simpa using hx)];exact h x hx⟩
 unfold jbq;rw[h1,execOp_congr o hs he]
theorem blkOf_congr{v:Value}(h:∀k∈ids v,lk k=lk' k):blkOf lk v=blkOf lk' v:=by
 have _:=tbs;unfold blkOf;split
 ·rename_i a;cases hs:a.spot with
  | none=>rfl
  | some s=>exact congrArg noIt (h a.block (by simp[ids,hs]))
 ·rename_i a l c;cases hs:a.spot with
  | none=>rfl
  | some s=>exact congrArg noIt (h a.block (by simp[ids,hs]))
 ·rfl
theorem jg8{v:Value}{k off sp:Nat}(h:own? v=some (k,off,sp)):k∈ids v:=by
 rw[jdj h];simp[ids]
theorem jig(he:∀x∈o.op.operands,e x=e' x)(hl:jd8 o=true→ ∀x∈o.op.operands,∀k∈ids (e x),lk k=lk' k):aop P G o e lk=aop P G o e' lk':=by
 have gen:(∀cs b,o.op≠ .select cs b)→jbq P o e=jbq P o e':=fun hs=>generic_congr hs he
 unfold aop;split
 ·rename_i x hop;rw[he x (by simp[hop,Op.operands])]
 ·rename_i x hop;rw[he x (by simp[hop,Op.operands])]
 ·rename_i c x y hop;rw[he c (by simp[hop,Op.operands]),he x (by simp[hop,Op.operands]),he y (by simp[hop,Op.operands])]
 ·rfl
 ·rename_i t x hop;rw[he x (by simp[hop,Op.operands])]
 ·rename_i t x hop;have hx:=he x (by simp[hop,Op.operands]);have hl':=hl (by simp[jd8,hop]) x (by simp[hop,Op.operands]);rw[←hx];cases ho:own? (e x)with
  | none=>rfl
  | some p=>obtain⟨k,off,sp⟩:=p;simp only[hl' k (jg8 ho)]
 ·rename_i t x y hop;have hx:=he x (by simp[hop,Op.operands]);have hl':=hl (by simp[jd8,hop]) x (by simp[hop,Op.operands]);rw[←hx,he y (by simp[hop,Op.operands])];cases ho:own? (e x)with
  | none=>rfl
  | some p=>obtain⟨k,off,sp⟩:=p;simp only[hl' k (jg8 ho)]
 ·rename_i s x f hop;rw[he x (by simp[hop,Op.operands])]
 ·rename_i x i hop;rw[he x (by simp[hop,Op.operands])]
 ·rename_i op xt x y yt hop;have hx:=he x (by simp[hop,Op.operands]);have hy:=he y (by simp[hop,Op.operands]);unfold binR;rw[hx,hy,gen (fun cs b=>by rw[hop];simp)]
 ·rename_i c hop;have hargs:∀x∈c.args,e x=e' x:=fun x hx=>he x (by simp[hop,Op.operands,Call.operands,hx])
  have g:=gen (fun cs b=>by rw[hop];simp);unfold jk1;split
  ·rename_i y hf;have hl':=hl (by simp[jd8,hop,hf]);have hy:e y=e' y:=he y (by simp[hop,Op.operands,Call.operands,hf]);have hy':∀k∈ids (e y),lk k=lk' k:=hl' y (by simp[hop,Op.operands,Call.operands,hf]);have m1:c.args.toList.map e=c.args.toList.map e':=List.map_congr_left fun x hx=>hargs x (by simpa using hx)
   have m2:(c.args.toList.map e).map (blkOf lk)=(c.args.toList.map e).map (blkOf lk'):=
    List.map_congr_left fun v hv=>by
     obtain⟨x,hx,rfl⟩:=List.mem_map.1 hv;exact blkOf_congr (hl' x (by simp[hop,Op.operands,Call.operands];exact .inr (by simpa using hx)))
   rw[←hy,←m1];split
   ·rename_i f first captured hfv
    have m3:first.map (blkOf lk)=first.map (blkOf lk'):=List.map_congr_left fun v hv=>blkOf_congr fun k hk=>hy' k (by
     rw[hfv];simp only[ids,List.mem_append];exact .inl (ja3.2 ⟨v,hv,hk⟩))
    have m4:captured.map (blkOf lk)=captured.map (blkOf lk'):=List.map_congr_left fun v hv=>blkOf_congr fun k hk=>hy' k (by
     rw[hfv];simp only[ids,List.mem_append];exact .inr (ja3.2 ⟨v,hv,hk⟩))
    simp only[List.map_append,m2,m3,m4]
   ·rfl
  ·split
   ·rename_i x t hx ht;rw[hargs x (by rw[←Array.mem_toList_iff,hx];simp),g]
   ·rfl
  ·split
   ·rename_i x y hx;rw[hargs x (by rw[←Array.mem_toList_iff,hx];simp),hargs y (by rw[←Array.mem_toList_iff,hx];simp)]
   ·exact g
  ·split
   ·rename_i x y hx;rw[hargs x (by rw[←Array.mem_toList_iff,hx];simp),hargs y (by rw[←Array.mem_toList_iff,hx];simp)]
   ·exact g
  ·rfl
  ·exact g
  ·rename_i y name hf;have hl':=hl (by simp[jd8,hop,hf]);have hy:e y=e' y:=he y (by simp[hop,Op.operands,Call.operands,hf]);have m1:c.args.toList.map e=c.args.toList.map e':=List.map_congr_left fun x hx=>hargs x (by simpa using hx)
   have m2:(c.args.toList.map e).map (blkOf lk)=(c.args.toList.map e).map (blkOf lk'):=
    List.map_congr_left fun v hv=>by
     obtain⟨x,hx,rfl⟩:=List.mem_map.1 hv;exact blkOf_congr (hl' x (by simp[hop,Op.operands,Call.operands];exact .inr (by simpa using hx)))
   rw[←hy,←m1];split
   ·split
    ·split
     ·split
      ·rename_i hprv
       have m3:∀q,q=blkOf lk' _→blkOf lk _=q:=fun q hq=>by
        rw[hq];exact blkOf_congr fun k hk=>by rw[jbn hprv]at hk;cases hk
       simp only[List.map_cons,m2,m3 _ rfl]
      ·rfl
     ·rfl
    ·rfl
   ·rfl
 ·rename_i t x ix hop;unfold jds;rw[he x (by simp[hop,Op.operands]),he ix (by simp[hop,Op.operands])]
 ·rename_i t x ix hop;unfold jil;rw[he x (by simp[hop,Op.operands]),he ix (by simp[hop,Op.operands])]
 ·rename_i t len parts hop;have hp:∀p∈parts,e p.2=e' p.2:=fun p hp=>he p.2 (by simp only[hop,Op.operands];simp;exact⟨p.1,hp⟩)
  have h2:(parts.map fun(q,x)=>(q,e x))=parts.map fun(q,x)=>(q,e' x):=Array.map_congr_left fun p hpm=>by
   obtain⟨q,x⟩:=p;simp only[hp (q,x) hpm]
  unfold jdo;rw[h2]
 ·rename_i fn first captured hop
  have h1:first.toList.map e=first.toList.map e':=List.map_congr_left fun x hx=>he x (by simp[hop,Op.operands];exact .inl (by simpa using hx))
  have h2:captured.toList.map e=captured.toList.map e':=List.map_congr_left fun x hx=>he x (by simp[hop,Op.operands];exact .inr (by simpa using hx))
  rw[h1,h2]
 ·rename_i t x hop;rw[he x (by simp[hop,Op.operands])]
 ·rename_i t x lo hi mx hop;have hg:=gen (fun cs b=>by rw[hop];simp);have hb1:∀d,bndV e lo d=bndV e' lo d:=fun d=>by cases lo with | none=>rfl | some y=>simp only[bndV,he y (by simp[hop,Op.operands])]
  have hb2:∀d,bndV e hi d=bndV e' hi d:=fun d=>by cases hi with | none=>rfl | some y=>simp only[bndV,he y (by cases lo<;>simp[hop,Op.operands])]
  unfold jjz;simp only[he x (by simp[hop,Op.operands]),hg,hb1,hb2]
 ·rename_i t t' x hop;have hg:=gen (fun cs b=>by rw[hop];simp);have hx:=he x (by simp[hop,Op.operands]);have hl':=hl (by simp[jd8,hop]) x (by simp[hop,Op.operands]);unfold jmm;rw[←hx];split
  ·rename_i ad n cap hxv;rw[hg];cases hsp:ad.spot with
   | none=>rfl
   | some s=>simp only[hl' ad.block (by rw[hxv];simp[ids,hsp])]
  ·exact hg
 ·rename_i x hop;rw[he x (by simp[hop,Op.operands]),gen (fun cs b=>by rw[hop];simp)]
 ·rename_i t x hop;rw[he x (by simp[hop,Op.operands])]
 all_goals first
  | (rename_i hop;exact gen (fun cs b=>by rw[hop];simp))
  | rfl
def idsR:Res→List Nat
 | .val v=>ids v
 | .ptr b | .slc b _=>idsL b.c
 | .upd _ b=>idsL b.c
theorem generic_ids{c:Bool}{r:Res}(h:jbq P o e=some (c,r)):idsR r=[]:=by
 have _:=tbs;unfold jbq at h;split at h
 ·split at h
  ·split at h
   ·rename_i hp;cases h;exact jbn hp
   ·cases h
  ·cases h
 ·cases h
theorem typed1_ids{c:E}{i:Nat}{z v:Value}{b:Bool}(h:jhh c i z=some (b,v)):ids v=[]:=by
 have _:=tbs;unfold jhh at h;split at h
 ·cases h;rfl
 ·cases h;rfl
 ·cases h;rfl
 ·cases h
theorem typedL_ids{c:E}:∀{zs:E}{i:Nat}{vs:E}{b:Bool},jgy c i zs=some (b,vs)→idsL vs=[]
 | [],i,vs,b,h=>by
  simp only[jgy,Option.some.injEq,Prod.mk.injEq]at h;obtain⟨_,rfl⟩:=h;rfl
 | z::r,i,vs,b,h=>by
  simp only[jgy]at h;split at h
  ·rename_i b1 v b' vs' h1 h2;cases h;simp[idsL,typed1_ids h1,typedL_ids h2]
  ·cases h
theorem loadB_ids{t:TypeId}{b:Blk}{off sp:Nat}{c:Bool}{r:Res}(h:jhv P t b off sp=some (c,r)):(∃v,r= .val v)∧ ∀j∈idsR r,j∈idsL b.c:=by
 unfold jhv at h;split at h
 ·cases h
 split at h
 ·split at h
  ·split at h
   ·cases h;refine⟨⟨_,rfl⟩,fun j hj=> ?_⟩;simp only[idsR,ids]at hj;obtain⟨v,hv,hjv⟩:=ja3.1 hj;exact ja3.2 ⟨v,List.mem_of_mem_drop (List.mem_of_mem_take hv),hjv⟩
   ·cases h
  ·split at h
   ·split at h
    ·rename_i hl;cases h;exact⟨⟨_,rfl⟩,by simp only[idsR,ids,typedL_ids hl];simp⟩
    ·cases h
   ·cases h
  ·split at h
   ·rename_i v hv;cases h;exact⟨⟨_,rfl⟩,fun j hj=>ja3.2 ⟨v,List.mem_of_getElem? hv,hj⟩⟩
   ·cases h
  ·split at h
   ·split at h
    ·rename_i hv;cases h;exact⟨⟨_,rfl⟩,by simp only[idsR,typed1_ids hv];simp⟩
    ·split at h
     ·rename_i v hv;cases h;exact⟨⟨_,rfl⟩,fun j hj=>ja3.2 ⟨v,List.mem_of_getElem? hv,hj⟩⟩
     ·cases h
   ·cases h
 ·cases h
theorem storeB_ids{t:TypeId}{k:Nat}{b:Blk}{off:Nat}{v:Value}{c:Bool}{r:Res}(h:jhl P t k b off v=some (c,r)):
  ∃b',r= .upd k b'∧ ∀j∈idsL b'.c,j∈idsL b.c∨j∈ids v:=by
 unfold jhl at h;split at h
 ·split at h
  ·cases h;refine⟨_,rfl,fun j hj=> ?_⟩;obtain⟨u,hu,hju⟩:=ja3.1 hj;rcases setL_mem hu with hu | hu
   ·exact .inl (ja3.2 ⟨u,hu,hju⟩)
   ·exact .inr (by rw[←jcz];exact ja3.2 ⟨u,hu,hju⟩)
  ·cases h
 ·cases h
theorem jfg{c:Bool}{r:Res}(h:aop P G o e lk=some (c,r)):
  (∀j∈idsR r,(∃x∈o.op.operands,j∈ids (e x))∨ ∃k b,lk k=some b∧j∈idsL b.c)∧(∀k b,r= .upd k b→(∃b',lk k=some b')∧jdy o=true):=by
 have gen:jbq P o e=some (c,r)→(∀j∈idsR r,(∃x∈o.op.operands,j∈ids (e x))∨ ∃k b,lk k=some b∧j∈idsL b.c)∧(∀k b,r= .upd k b→(∃b',lk k=some b')∧jdy o=true):=fun hg=>by
  refine⟨by rw[generic_ids hg];simp,fun k b hr=> ?_⟩;unfold jbq at hg;split at hg
  ·split at hg
   ·split at hg
    ·cases hg;cases hr
    ·cases hg
   ·cases hg
  ·cases hg
 have val:∀{v:Value},(∀j∈ids v,(∃x∈o.op.operands,j∈ids (e x))∨ ∃k b,lk k=some b∧j∈idsL b.c)→some (c,Res.val v)=some (c,r)→
   (∀j∈idsR r,(∃x∈o.op.operands,j∈ids (e x))∨ ∃k b,lk k=some b∧j∈idsL b.c)∧(∀k b,r= .upd k b→(∃b',lk k=some b')∧jdy o=true):=fun{v} hv hr=>by
  cases hr;exact⟨hv,fun k b hb=>by cases hb⟩
 unfold aop at h;split at h
 ·rename_i x hop;cases h;exact val (fun j hj=> .inl ⟨x,by simp[hop,Op.operands],hj⟩) rfl
 ·rename_i x hop;cases h;exact val (fun j hj=> .inl ⟨x,by simp[hop,Op.operands],hj⟩) rfl
 ·rename_i cc x y hop;split at h
  ·cases h;exact val (fun j hj=> .inl ⟨x,by simp[hop,Op.operands],hj⟩) rfl
  ·cases h;exact val (fun j hj=> .inl ⟨y,by simp[hop,Op.operands],hj⟩) rfl
  ·cases h
 ·split at h
  ·split at h
   ·split at h
    ·rename_i z _ hp;simp only[jaf]at hp;have hp:=hp.1;cases h;refine⟨fun j hj=> ?_,fun k b hb=>by cases hb⟩;simp only[idsR,jcz,jbn hp]at hj;cases hj
    ·cases h
   ·cases h
  ·cases h
 ·rename_i t x hop;split at h
  ·cases h
  cases h;refine⟨fun j hj=> .inl ⟨x,by simp[hop,Op.operands],?_⟩,fun k b hb=>by cases hb⟩;simpa only[idsR,jcz]using hj
 ·rename_i t x hop;split at h
  ·rename_i k off sp ho;split at h
   ·rename_i b hk;split at h
    ·cases h
    obtain⟨⟨v,rfl⟩,hi⟩:=loadB_ids h;exact⟨fun j hj=> .inr ⟨k,b,hk,hi j hj⟩,fun k' b' hb=>by cases hb⟩
   ·cases h
  ·unfold jiu at h;split at h
   ·split at h
    ·rename_i r' hrow;obtain⟨⟨v,rfl⟩,hi⟩:=loadB_ids h;refine⟨fun j hj=> ?_,fun k' b' hb=>by cases hb⟩;have:=hi j hj;simp only[jaq (Tabs.plain _ r' hrow)]at this;cases this
    ·cases h
   ·cases h
 ·rename_i t x y hop;split at h
  ·rename_i k off sp ho;split at h
   ·rename_i b hk;obtain⟨b',rfl,hi⟩:=storeB_ids h;refine⟨fun j hj=> ?_,fun k' b'' hb=> ?_⟩
    ·rcases hi j hj with h1 | h1
     ·exact .inr ⟨k,b,hk,h1⟩
     ·exact .inl ⟨y,by simp[hop,Op.operands],h1⟩
    ·cases hb;exact⟨⟨b,hk⟩,by simp[jdy,hop]⟩
   ·cases h
  ·cases h
 ·rename_i s x f hop;split at h
  ·rename_i k off sp ho;split at h
   ·cases h;refine val (fun j hj=> .inl ⟨x,by simp[hop,Op.operands],?_⟩) rfl;have:j=k:=by simpa[optr,ids]using hj
    exact this▸jg8 ho
   ·cases h
  ·cases h
 ·rename_i x i hop;split at h
  ·rename_i vs hv;split at h
   ·rename_i v hvi;cases h;refine val (fun j hj=> .inl ⟨x,by simp[hop,Op.operands],?_⟩) rfl;obtain⟨l⟩:=vs;rw[hv];simp only[ids];exact ja3.2 ⟨v,List.mem_of_getElem? (by simpa using hvi),hj⟩
   ·cases h
  ·cases h
 ·unfold binR at h;split at h
  ·split at h
   ·cases h;exact val (by simp[ids]) rfl
   ·cases h
  ·split at h
   ·cases h;exact val (by simp[ids]) rfl
   ·cases h
  ·cases h;exact val (by simp[ids]) rfl
  ·cases h;exact val (by simp[ids]) rfl
  ·cases h;exact val (by simp[ids]) rfl
  ·split at h
   ·cases h;exact val (by simp[ids]) rfl
   ·cases h
  ·split at h
   ·cases h;exact val (by simp[ids]) rfl
   ·cases h
  ·split at h
   ·cases h;exact val (by simp[ids]) rfl
   ·exact gen h
  ·split at h
   ·cases h;exact val (by simp[ids]) rfl
   ·exact gen h
  ·split at h
   ·cases h;exact val (by simp[ids]) rfl
   ·exact gen h
  ·split at h
   ·cases h;exact val (by simp[ids]) rfl
   ·exact gen h
  ·split at h
   ·cases h;exact val (by simp[ids]) rfl
   ·exact gen h
  ·split at h
   ·cases h;exact val (by simp[ids]) rfl
   ·exact gen h
  ·exact gen h
 ·unfold jk1 at h;split at h
  ·split at h
   ·split at h
    ·split at h
     ·split at h
      ·rename_i hp;cases h;exact val (by rw[jbn hp];simp) rfl
      ·cases h
     ·cases h
    ·cases h
   ·cases h
  ·split at h
   ·split at h
    ·split at h
     ·split at h<;>(cases h;exact val (by simp[ids]) rfl)
     ·cases h
    ·exact gen h
   ·cases h
  ·split at h
   ·split at h
    ·cases h;exact val (by simp[ids]) rfl
    ·cases h
   ·exact gen h
  ·split at h
   ·split at h
    ·cases h;exact val (by simp[ids]) rfl
    ·cases h
   ·exact gen h
  ·cases h
  ·exact gen h
  ·split at h
   case h_2=>cases h
   split at h
   case h_2=>cases h
   split at h
   case h_2=>cases h
   split at h
   case h_2=>cases h
   split at h
   case h_2=>cases h
   split at h
   case h_2=>cases h
   split at h
   ·rename_i hp;cases h;exact val (by rw[jbn hp];simp) rfl
   ·cases h
 ·rename_i t x ix hop;unfold jds at h;split at h
  ·split at h
   ·rename_i k off sp ti ho hti;cases h;refine val (fun j hj=> .inl ⟨x,by simp[hop,Op.operands],?_⟩) rfl;have:j=k:=by simpa[optr,ids]using hj
    exact this▸jg8 ho
   ·split at h
    ·cases h;exact val (by simp[ids]) rfl
    ·cases h
   ·cases h
  ·rename_i hv _;split at h
   ·rename_i s ti hs hti;cases h;refine val (fun j hj=> .inl ⟨x,by simp[hop,Op.operands],?_⟩) rfl;rw[hv];simpa[optr,ids,hs]using hj
   ·cases h
  ·cases h
 ·unfold jil at h;split at h
  ·split at h
   ·split at h
    ·split at h
     ·rename_i hv;cases h;exact val (by rw[typed1_ids hv];simp) rfl
     ·cases h
    ·cases h
   ·cases h
  ·cases h;exact val (by simp[ids]) rfl
  ·cases h
 ·rename_i t len parts hop;unfold jdo at h;split at h
  ·split at h
   ·split at h
    ·split at h
     ·split at h
      ·rename_i hp;split at h
       ·rename_i cells hf;cases h;refine⟨fun j hj=> .inl ?_,fun k b hb=>by cases hb⟩;simp only[idsR]at hj;obtain⟨v,hv,hjv⟩:=ja3.1 hj;rcases fill_mem _ _ _ _ hf v hv with hv | ⟨p,hpm,hv⟩
        ·rw[jbn (jbc.1 hp v hv)]at hjv;cases hjv
        ·simp only[Array.toList_map,List.mem_map]at hpm;obtain⟨⟨q,x⟩,hpm,rfl⟩:=hpm;exact⟨x,by simp only[hop,Op.operands];simp;exact⟨q,by simpa using hpm⟩,by rw[←jcz];exact ja3.2 ⟨v,hv,hjv⟩⟩
       ·cases h
      ·cases h
     ·cases h
    ·cases h
   ·cases h
  ·cases h
 ·rename_i fn first captured hop
  cases h;refine val (fun j hj=> ?_) rfl;simp only[ids,List.mem_append]at hj;rcases hj with hj | hj
  ·obtain⟨v,hv,hjv⟩:=ja3.1 hj;obtain⟨x,hx,rfl⟩:=List.mem_map.1 hv;exact .inl ⟨x,by simp[hop,Op.operands];exact .inl (by simpa using hx),hjv⟩
  ·obtain⟨v,hv,hjv⟩:=ja3.1 hj;obtain⟨x,hx,rfl⟩:=List.mem_map.1 hv;exact .inl ⟨x,by simp[hop,Op.operands];exact .inr (by simpa using hx),hjv⟩
 ·split at h
  ·cases h;exact⟨by simp[idsR,idsL,ids],fun k b hb=>by cases hb⟩
  ·cases h
 ·rename_i t x lo hi mx hop;unfold jjz at h;split at h
  ·rename_i el ad len cap hd hxv;split at h
   ·rename_i s ti l ln hh hn hsp _ _ _;cases h;refine val (fun j hj=> .inl ⟨x,by simp[hop,Op.operands],?_⟩) rfl;rw[hxv];simpa[ids,hsp]using hj
   ·exact gen h
  ·split at h
   ·cases h;exact val (by simp[ids]) rfl
   ·exact gen h
  ·split at h
   ·cases h;exact val (by simp[ids]) rfl
   ·cases h
  ·exact gen h
 ·rename_i t t' x hop;unfold jmm at h;split at h
  ·split at h
   ·split at h
    ·split at h
     ·cases h;exact val (by simp[ids]) rfl
     ·cases h
    ·cases h
   ·exact gen h
  ·exact gen h
 ·rename_i x hop;split at h
  ·cases h;exact val (fun j hj=> .inl ⟨x,by simp[hop,Op.operands],hj⟩) rfl
  ·exact gen h
 ·rename_i t x hop;split at h
  ·cases h
  ·cases h;exact val (fun j hj=> .inl ⟨x,by simp[hop,Op.operands],by simpa[ids]using hj⟩) rfl
  ·cases h
 all_goals first | exact gen h | cases h
end
end Go.Ab
