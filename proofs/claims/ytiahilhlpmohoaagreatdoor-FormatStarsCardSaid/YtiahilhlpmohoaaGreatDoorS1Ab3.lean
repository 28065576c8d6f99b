/-
  Ab3: the run and laws.
-/
import Derived.Test.YtiahilhlpmohoaaGreatDoorS1Ab2
set_option linter.unusedVariables false
set_option linter.unusedSimpArgs false
set_option linter.unusedSectionVars false
noncomputable section
namespace Go.Ab
open Go Go.RowKit
variable [Tabs]
def jbt (P : Program) (f : FuncId) : Prop := ∃ fn, P.funcs[f]? = some fn ∧ (fn.name == "runtime.NumGoroutine") = false ∧ fn.body.isNone = false
def jan(P:Program)(f:FuncId)(s:Spec):Prop:=
 jbt P f∧ ∀(args:J)(v:Value)(N:Nat)(w0:World)(lk:Lk)(ι:Nm)(w:World),RelM N w0 lk ι w→
  s args (args.map (blkOf lk))=some (true,v)→plain v=true→Calls P f (args.map (ren ι)).toArray w fun e w'=>e= .returned v∧Below w.heap.size w w'
def jfq(P:Program)(G:Env):Prop:=∀f s,G f=some (.pure s)→jan P f s
section
variable {P : Program} {G : Env} {o : Oper} {e : Operand → Value} {lk : Lk} {r : Res} {a : Act} {ι : Nm} {N : Nat} {w0 w : World}
theorem wp_value{K:Act→World→Prop}{Q:Exit→Act→World→Prop}{v:Value}(h:(execOp a.eval o).run P w= .ok (.value v) w)(hK:K (a.put o.dst v) w):o.wp P a w K Q:=by
 have _:=tbs;unfold Oper.wp;rw[h,Oper.upon_value];exact hK
theorem generic_sound(hs:∀cs b,o.op≠ .select cs b)(h:jbr P o e=some (true,r))(he:∀x∈o.op.operands,a.eval x=ren ι (e x)):
  ∃v,r= .val v∧plain v=true∧(execOp a.eval o).run P w= .ok (.value v) w:=by
 have _:=tbs;unfold jbr at h;split at h
 ·rename_i hp;split at h
  ·rename_i v hv;split at h
   ·rename_i hpl;simp only[Kb,Ke,true_and]at h;refine⟨v,h.symm,hpl,?_⟩
    have hc:execOp a.eval o=execOp e o:=execOp_congr o hs fun x hx=>by
     rw[he x hx];exact ja9 ι (by simpa using Kf.1 hp x (by simpa using hx))
    rw[hc];exact jg1 hv w
   ·cases h
  ·cases h
 ·cases h
theorem jb9{id:Nat}(hs:∀cs b,o.op≠ .select cs b)(h:jbr P o e=some (true,r))(he:∀x∈o.op.operands,a.eval x=ren ι (e x))(hm:RelM N w0 lk ι w)
  {K:Act→World→Prop} {Q:Exit→Act→World→Prop}
  (hK:∀ι' w',(∀k,k≠id→ι' k=ι k)→RelM N w0 (jc5 id r lk) ι' w'→K (a.put o.dst (ren ι' (resV id r))) w'):o.wp P a w K Q:=by
 obtain⟨v,rfl,hp,hr⟩:=generic_sound (P:=P) (w:=w) hs h he;refine wp_value hr ?_;have:=hK ι w (fun _ _=>rfl) hm;simpa only[resV,ja9 ι hp]using this
theorem jc2{v:Value}{k off sp:Nat}(h:own? v=some (k,off,sp)):v= .pointer (some ⟨k,off,some sp⟩):=by
 have _:=tbs;unfold own? at h;split at h
 ·rename_i ad;obtain⟨b,of,s⟩:=ad;cases s with
  | none=>cases h
  | some s=>simp only[Kb,Ke]at h;obtain⟨rfl,rfl,rfl⟩:=h;rfl
 ·cases h
theorem ren_own(ι:Nm)(k off s:Nat):ren ι (.pointer (some ⟨k,off,some s⟩))= .pointer (some ⟨(ι k).1,(ι k).2+off,none⟩):=by have _:=tbs;simp[ren,ren1]
theorem jez(ι:Nm)(k off s:Nat):ren ι (optr k off s)= .pointer (some ⟨(ι k).1,(ι k).2+off,none⟩):=ren_own ι k off s
theorem typed1_spec{c:J}{i:Nat}{z v:Value}(h:jh0 c i z=some (true,v)):c[i]?=some v∧plain v=true∧jf9 v=true:=by
 have _:=tbs;unfold jh0 at h;split at h
 ·rename_i k q;simp only[Kb,Ke]at h;obtain⟨h1,rfl⟩:=h;unfold jbg at h1;split at h1
  ·rename_i k' n hc;have:k=k':=by simpa using h1
   subst this;exact⟨by simp[jar,hc],rfl,rfl⟩
  ·cases h1
 ·simp only[Kb,Ke]at h;obtain⟨h1,rfl⟩:=h;unfold jeh at h1;split at h1
  ·rename_i b hc;exact⟨by simp[boolAt,hc],rfl,rfl⟩
  ·cases h1
 ·simp only[Kb,Ke]at h;obtain⟨h1,rfl⟩:=h;unfold jg4 at h1;split at h1
  ·rename_i b hc;exact⟨by simp[jhl,hc],rfl,rfl⟩
  ·cases h1
 ·cases h
theorem typedL_spec{c:J}:∀{zs:J}{i:Nat}{vs:J},jhe c i zs=some (true,vs)→vs.length=zs.length∧(∀j v,vs[j]?=some v→c[i+j]?=some v)∧ja1 vs=true
 | [],i,vs,h=>by
  simp only[jhe,Kb,Ke,true_and]at h;subst h;exact⟨rfl,by simp,rfl⟩
 | z::r,i,vs,h=>by
  simp only[jhe]at h;split at h
  ·rename_i b v b' vs' h1 h2;simp only[Kb,Ke,jaf]at h;obtain⟨⟨rfl,rfl⟩,rfl⟩:=h;obtain⟨g1,g2,g3⟩:=typedL_spec h2;obtain⟨q1,q2,_⟩:=typed1_spec h1;refine⟨by simp[g1],fun j u hj=> ?_,by simp[ja1,q2,g3]⟩;cases j with
   | zero=>simp at hj;subst hj;simpa using q1
   | succ j=>simp at hj;have:=g2 j u hj;rw[←this];congr 1;omega
  ·cases h
theorem RelM.cell(hm:RelM N w0 lk ι w){k:Nat}{b:Blk}(hk:lk k=some b)(hit:(b.own&&Nat.beq b.ty itTy)=false){i:Nat}{v:Value}(hv:b.c[i]?=some v):
  w.cell? ⟨(ι k).1,(ι k).2+i,none⟩=some (ren ι v):=by
 cases ho:b.own with
 | true=>
  obtain⟨h1,_,h3⟩:=hm.blk k b hk ho;rw[objOf_any (by simpa[ho]using hit)]at h3;simp[World.cell?,h3,h1,hv]
 | false=>exact(hm.view k b hk ho).2 i v hv
theorem cell_add{k:Nat×Nat}{off j:Nat}:((⟨k.1,k.2+off,none⟩:Addr).add j)=⟨k.1,k.2+(off+j),none⟩:=by
 have _:=tbs;unfold Addr.add;split
 ·subst_vars;rfl
 ·simp[Nat.add_assoc]
theorem isAgg_of{t:TypeId}{d:TypeDesc}(hd:P.underlying t=some d)(w:World):(isAgg t).run P w= .ok (jig d) w:=by
 have _:=tbs;simp only[isAgg,Sem.run_bind,run_underlying hd,Result.andThen_ok];cases d<;>rfl
theorem loadAgg_sound(hm:RelM N w0 lk ι w){k off:Nat}{b:Blk}(hk:lk k=some b)(hit:(b.own&&Nat.beq b.ty itTy)=false){t:TypeId}{i:TypeInfo}(hi:P.info? t=some i)(ha:(isAgg t).run P w= .ok true w)
  {l:J} (hlen:l.length=i.size) (hl:∀j v,l[j]?=some v→b.c[off+j]?=some v):
  (loadVar t ⟨(ι k).1,(ι k).2+off,none⟩).run P w= .ok (ren ι (.agg ⟨l⟩)) w:=by
 have hsz:(sizeOf t).run P w= .ok i.size w:=by simp[sizeOf,typeInfo,hi]
 have h:=run_loadCells_list (P:=P) (w:=w) ⟨(ι k).1,(ι k).2+off,none⟩ (l.map (ren ι)) (fun j v hj=>by
  rw[cell_add];rw[List.getElem?_map]at hj;cases hq:l[j]? with
  | none=>rw[hq]at hj;cases hj
  | some u=>
   rw[hq]at hj;simp only[Option.map_some,Kb]at hj;subst hj;exact hm.cell hk hit (hl j u hq))
 rw[K9,hlen]at h;simp only[loadVar,Sem.run_bind,ha,Result.andThen_ok,if_true,hsz,h];simp[ren,jb1]
theorem je3(hm:RelM N w0 lk ι w){k off:Nat}{b:Blk}(hk:lk k=some b)(hit:(b.own&&Nat.beq b.ty itTy)=false){t:TypeId}(ha:(isAgg t).run P w= .ok false w){v:Value}(hv:b.c[off]?=some v):
  (loadVar t ⟨(ι k).1,(ι k).2+off,none⟩).run P w= .ok (ren ι v) w:=by
 have hc:=hm.cell hk hit hv;simp only[loadVar,Sem.run_bind,ha,Result.andThen_ok,Bool.false_eq_true,if_false];simp[load,Sem.run,hc]
theorem je4(hm:RelM N w0 lk ι w){k off sp:Nat}{b:Blk}(hk:lk k=some b){t:TypeId}(h:jid P t b off sp=some (true,r)):
  ∃v,r= .val v∧(∀j∈ids v,j∈idsL b.c)∧(loadVar t ⟨(ι k).1,(ι k).2+off,none⟩).run P w= .ok (ren ι v) w:=by
 unfold jid at h;split at h
 ·cases h
 rename_i hit;split at h
 ·rename_i d i hd hi;have ha:=isAgg_of (P:=P) hd w;split at h
  ·rename_i hag;rw[hag]at ha;split at h
   ·rename_i hle;simp only[Kb,Ke,true_and]at h;have hle':=jag hle;refine⟨_,h.symm,fun j hj=> ?_,loadAgg_sound hm hk hit hi ha (by simp;omega) fun j v hj=> ?_⟩
    ·simp only[ids]at hj;obtain⟨v,hv,hjv⟩:=jay.1 hj;exact jay.2 ⟨v,List.mem_of_mem_drop (List.mem_of_mem_take hv),hjv⟩
    ·rw[List.getElem?_take]at hj;split at hj
     ·rw[KN]at hj;exact hj
     ·cases hj
   ·cases h
  ·rename_i hag _;rw[hag]at ha;split at h
   ·rename_i z hz;split at h
    ·rename_i cc l hsz hl;simp only[Kb,Ke]at h;obtain⟨rfl,h⟩:=h;obtain⟨g1,g2,g3⟩:=typedL_spec hl;refine⟨_,h.symm,fun j hj=> ?_,loadAgg_sound hm hk hit hi ha (g1.trans (jah hsz)) g2⟩;simp only[ids,jao g3]at hj;cases hj
    ·cases h
   ·cases h
  ·rename_i hag;rw[hag]at ha;split at h
   ·rename_i v hv;simp only[Kb,Ke,true_and]at h;exact⟨v,h.symm,fun j hj=>jay.2 ⟨v,List.mem_of_getElem? hv,hj⟩,je3 hm hk hit ha hv⟩
   ·cases h
  ·rename_i hag _;rw[hag]at ha;split at h
   ·rename_i z hz;split at h
    ·rename_i cc v hv;simp only[Kb,Ke]at h;obtain⟨rfl,h⟩:=h;obtain⟨g1,g2,_⟩:=typed1_spec hv;refine⟨v,h.symm,fun j hj=> ?_,je3 hm hk hit ha g1⟩;rw[jbm g2]at hj;cases hj
    ·split at h
     ·rename_i v hv;simp only[Kb,Ke,true_and]at h;exact⟨v,h.symm,fun j hj=>jay.2 ⟨v,List.mem_of_getElem? hv,hj⟩,je3 hm hk hit ha hv⟩
     ·cases h
   ·cases h
 ·cases h
theorem setL_eq:∀(vs:J)(c:J)(off:Nat),off+vs.length≤c.length→setL c off vs=c.take off++vs++c.drop (off+vs.length)
 | [],c,off,_=>by have _:=tbs;simp[setL]
 | v::r,c,off,h=>by
  simp only[List.length_cons]at h;simp only[setL];rw[setL_eq r (c.set off v) (off+1) (by simp;omega)];rw[List.take_set,List.drop_set]
  have e1:(c.take (off+1)).set off v=c.take off++ [v]:=by
   rw[List.take_succ_eq_append_getElem (by omega)];rw[List.set_append_right _ _ (by simp;omega)];simp;have:off-min off c.length=0:=by omega
   simp[this]
  rw[e1,Kd (by omega)];simp;congr 1;omega
theorem setL_mem{v:Value}:∀{vs:J}{c:J}{off:Nat},v∈setL c off vs→v∈c∨v∈vs
 | [],c,off,h=>have _:=tbs; .inl h
 | u::r,c,off,h=>by
  simp only[setL]at h;rcases setL_mem h with h | h
  ·rcases List.mem_or_eq_of_mem_set h with h | h
   ·exact .inl h
   ·exact .inr (by simp[h])
  ·exact .inr (by simp[h])
theorem cellOk_ren{v:Value}(h:jf9 v=true):(ren ι v).oneCell'=true:=by
 have _:=tbs;cases v with
 | agg c=>cases h
 | tuple c=>cases h
 | pointer a=>cases a<;>rfl
 | slice a l c=>cases a<;>rfl
 | func f a b=>obtain⟨a⟩:=a;obtain⟨b⟩:=b;rfl
 | chan a=>cases a<;>rfl
 | _=>rfl
theorem setL_length:∀(vs c:J)(i:Nat),(setL c i vs).length=c.length
 | [],_,_=>have _:=tbs;rfl
 | v::r,c,i=>by rw[setL,setL_length r,List.length_set]
theorem run_storeCells_hi(P:Program)(g o:Nat)(t:TypeId)(fz:Nat×Nat):∀(vs:J)(i:Nat)(cur:Array Value)(w:World),w.heap[g]?=some (.cells cur t fz)→(∀j,j<cur.size→ ¬(fz.1≤j∧j<fz.2))→o+i+vs.length≤cur.size→(∀v∈vs,v.oneCell'=true)→
  (storeCells ⟨g,o,none⟩ vs i).run P w= .ok () (w.setRow g (cur.toList.take (o+i)++vs++cur.toList.drop (o+i+vs.length)).toArray)
 | [],i,cur,w,hg,_,_,_=>by
  have _:=tbs;simp only[storeCells,KA,List.length_nil,Nat.add_zero,KC,Array.toArray_toList];rw[setRow_self w g cur t fz hg];rfl
 | v::rest,i,cur,w,hg,hfz,hl,h1=>by
  have hi:o+i<cur.size:=by simp at hl;omega
  have hadd:(⟨g,o,none⟩:Addr).add i=⟨g,o+i,none⟩:=by unfold Addr.add;split<;>simp_all
  have hcell:w.cell? ⟨g,o+i,none⟩=some cur[o+i]:=by simp[World.cell?,hg,hi]
  have hfro:w.frozen? ⟨g,o+i,none⟩=false:=by
   have:=hfz (o+i) hi;obtain⟨lo,hi'⟩:=fz;simp only[World.frozen?,hg,KK,decide_eq_false_iff_not];simp only at this;omega
  have hst:(store ((⟨g,o,none⟩:Addr).add i) v).run P w= .ok () (w.setRow g (cur.setIfInBounds (o+i) v)):=by
   rw[hadd,run_store P w _ v _ (h1 v (by simp)),hcell];simp[hfro,setCell_eq_setRow w g (o+i) cur t fz v hg]
  have ih:=run_storeCells_hi P g o t fz rest (i+1) (cur.setIfInBounds (o+i) v) (w.setRow g (cur.setIfInBounds (o+i) v)) (setRow_heap w g cur _ t _ hg) (by simpa using hfz) (by simp at hl ⊢;omega) (fun x hx=>h1 x (by simp[hx]));simp only[storeCells,Sem.run_bind,hst,Result.andThen_ok,ih,setRow_setRow];congr 3;have e:=list_seg_step cur.toList (o+i) v rest (by simp at hl ⊢;omega);simpa[Array.toList_setIfInBounds,Nat.add_assoc]using e
theorem storeB_sound(hm:RelM N w0 lk ι w){k off:Nat}{b:Blk}(hk:lk k=some b){t:TypeId}{v:Value}(h:jh3 P t k b off v=some (true,r)):
  ∃b',r= .upd k b'∧b.own=true∧b'.own=true∧b'.ty=b.ty∧frOf b.ty b'.c.length=frOf b.ty b.c.length∧Nat.beq b.ty itTy=false∧
   (storeVar t ⟨(ι k).1,(ι k).2+off,none⟩ (ren ι v)).run P w= .ok () (w.setRow (ι k).1 ⟨b'.c.map (ren ι)⟩):=by
 unfold jh3 at h;split at h
 ·rename_i i hi ho';simp only[jaf,Ks]at ho';obtain⟨ho,hit⟩:=ho';split at h
  ·rename_i hc;simp only[jaf]at hc;obtain⟨hc1,hc3⟩:=hc;simp only[Kb,Ke]at h;obtain⟨hc2,h⟩:=h;have e1:=jah hc1;have e2:=jag hc2;refine⟨_,h.symm,ho,ho,rfl,by rw[setL_length],hit,?_⟩;obtain⟨h1,_,h3⟩:=hm.blk k b hk ho;rw[objOf_any hit]at h3;have hsz:(sizeOf t).run P w= .ok i.size w:=by simp[sizeOf,typeInfo,hi]
   have hst:=run_storeCells_hi P (ι k).1 off _ _ (v.cells.toList.map (ren ι)) 0 ⟨b.c.map (ren ι)⟩ w h3 (fun j hj=>frOf_lt _ _ _ (by simpa using hj)) (by simp at e1 ⊢;omega) (fun u hu=>by
    obtain⟨x,hx,rfl⟩:=KB.1 hu;exact cellOk_ren (Kf.1 hc3 x hx))
   have hcs:(ren ι v).cells.size=i.size:=by rw[jff];simpa using e1
   simp only[storeVar,Sem.run_bind,hsz,Result.andThen_ok,ne_eq,hcs,not_true_eq_false,if_false];rw[h1,Nat.zero_add,jff];rw[hst,setL_eq _ _ _ (by omega)];simp
  ·cases h
 ·cases h
theorem fieldOff_sound{s:TypeId}{f fo:Nat}(h:jht P s f=some fo)(p:Nat×Nat)(off:Nat):
  (Instr.fieldAt s (.pointer (some ⟨p.1,p.2+off,none⟩)) f).run P w= .ok (.pointer (some ⟨p.1,p.2+(off+fo),none⟩)) w:=by
 unfold jht at h;split at h
 ·rename_i fs hd;split at h
  ·rename_i fd hf;split at h
   ·rename_i i hi;split at h
    ·cases h
    ·rename_i hz;cases h;have hne:i.size≠0:=fun e=>by rw[e]at hz;cases hz
     simp only[Instr.fieldAt,Sem.run_bind,run_underlying hd,Result.andThen_ok,hf,Instr.sureAddr];simp[fieldPlace,sizeOf,typeInfo,hi,hne,cell_add]
   ·cases h
  ·cases h
 ·cases h
end
end Go.Ab
