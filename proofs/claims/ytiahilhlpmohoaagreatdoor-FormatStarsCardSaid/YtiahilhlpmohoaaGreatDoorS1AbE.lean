/-
  AbE: the run and laws.
-/
import Derived.Test.YtiahilhlpmohoaaGreatDoorS1Ab7
import Derived.Laws.AppendOwn
import Derived.Lib.AppendStr
import Derived.Lib.AppendZerosOnto
import Derived.Lib.ConvBytes
import Derived.Laws.MakeOwn
set_option linter.unusedVariables false
set_option linter.unusedSimpArgs false
set_option linter.unusedSectionVars false
noncomputable section
namespace Go.Ab
open Go Go.RowKit
variable [Tabs]
mutual
theorem plain_ren(m:Nm):∀v:Value,plain (ren m v)=true
 | .pointer (some a)=>by
  have _:=tbs;cases hs:a.spot<;>simp[ren,ren1,plain,hs]
 | .slice (some a) _ _=>by
  cases hs:a.spot<;>simp[ren,ren1,plain,hs]
 | .agg ⟨l⟩=>by simp[ren,plain,plainL_ren m l]
 | .tuple ⟨l⟩=>by simp[ren,plain,plainL_ren m l]
 | .iface _ v=>by simp[ren,plain,plain_ren m v]
 | .func _ ⟨a⟩ ⟨b⟩=>by simp[ren,plain,plainL_ren m a,plainL_ren m b]
 | .pointer none | .slice none _ _ | .int _ _ | .bool _ | .string _ | .float _ _ | .complex _ _ _ | .map _ | .chan none | .chan (some _) | .nilIface | .nilFunc=>by simp[ren,plain]
theorem plainL_ren(m:Nm):∀l:J,ja1 (renL m l)=true
 | []=>by have _:=tbs;simp[renL,ja1]
 | v::r=>by simp[renL,ja1,plain_ren m v,plainL_ren m r]
end
def cnd(b:Bool):Bool:=b
def Lk.del(m:Lk)(k:Nat):Lk:=fun j=>match Nat.beq j k with | true=>none | false=>m j
theorem Lk.del_same(m:Lk)(k:Nat):m.del k k=none:=by have _:=tbs;simp[Lk.del]
theorem Lk.del_other(m:Lk){k j:Nat}(h:j≠k):m.del k j=m j:=by
 have _:=tbs
 have:Nat.beq j k=false:=by
  cases hb:Nat.beq j k
  ·rfl
  ·exact absurd (jah hb) h
 simp[Lk.del,this]
def zrow(z:Value)(n:Nat):J:=(Builtin.zeroCells z.cells n).toList
def srcC(P:Program)(e:Operand→Value)(m:Lk)(t t':TypeId)(i:TypeInfo)(z:Value)(y:Operand):Option (Bool×Nat×J):=
 match e y with
 | .slice (some a) q _=>match Nat.beq t t',a.spot,m a.block with
  | true,some _,some b=>match b.own&&Nat.beq b.ty itTy with
   | false=>some (Nat.ble (a.off+q*i.size) b.c.length&& ((b.c.drop a.off).take (q*i.size)).all jf9,q,(b.c.drop a.off).take (q*i.size))
   | true=>none
  | _,_,_=>none
 | .slice none 0 0=>match Nat.beq t t' with
  | true=>some (true,0,[])
  | false=>none
 | .string s=>match P.underlying t',Nat.beq i.size 1 with
  | some .string,true=>some (true,s.size,Lib.strCells s)
  | _,_=>none
 | .int _ n=>match P.underlying t' with
  | some (.int _)=>some (decide (0≤n),n.toNat,zrow z n.toNat)
  | _=>none
 | _=>none
def jbd(tail:J)(cap need size:Nat):Bool:=ja1 tail&&Nat.beq (tail.length+need*size) (cap*size) &&Nat.ble need cap&&Nat.ble cap 9223372036854775807
def jb2(need bytes:Nat):Bool:=Nat.ble need 9223372036854775807&&Nat.ble (need*bytes) 140737488355328
def appR(P:Program)(t t':TypeId)(x y:Operand)(e:Operand→Value)(m:Lk)(n:Nat)(K:Value→Lk→Prop):Prop:=
 match P.underlying t with
 | some (.slice el)=>match P.info? el with
  | some i=>match i.zero with
   | some z=>match plain z&&Nat.beq z.cells.size i.size&&Nat.blt 0 i.size&& !Nat.ble itTy el&&z.cells.toList.all jf9,srcC P e m t t' i z y with
    | true,some (c,q,news)=>match e x with
     | .slice none 0 0=>match cnd (c&&jb2 q i.bytes)with
      | true=>match Nat.beq q 0 with
       | true=>K (.slice none 0 0) m
       | false=>∀(cap:Nat)(tail:J),jbd tail cap q i.size=true→K (oslc n 0 q cap) (m.upd n ⟨news++tail,el,true⟩)
      | false=>False
     | .slice (some a) len cp=>match a.spot,m a.block with
      | some _,some b=>match cnd (b.own&&Nat.beq b.ty el&&Nat.beq a.off 0&&Nat.beq b.c.length (cp*i.size) &&Nat.ble len cp&&Nat.ble cp 9223372036854775807&&c&&jb2 (len+q) i.bytes)with
       | true=>∀(cap:Nat)(tail:J),jbd tail cap (len+q) i.size=true→K (oslc n 0 (len+q) cap) ((m.del a.block).upd n ⟨b.c.take (len*i.size)++news++tail,el,true⟩)
       | false=>False
      | _,_=>False
     | _=>False
    | _,_=>False
   | none=>False
  | none=>False
 | _=>False
theorem dec_ex:∃d:Y→Nat→Nat×Nat,d=Utf8.decode:=have _:=tbs;⟨_,rfl⟩
noncomputable def decO : Y → Nat → Nat × Nat := Classical.choose dec_ex
theorem decO_eq:decO=Utf8.decode:=Kn dec_ex
def jn3(x:Operand)(e:Operand→Value)(m:Lk)(K:Value→Lk→Prop):Prop:=
 match own? (e x)with
 | some (k,off,_)=>match Nat.beq off 0,m k with
  | true,some b=>match b.own&&Nat.beq b.ty itTy,b.c with
   | true,[.string s,.int .i64 p]=>match decide (0≤p)with
    | true=>match decide (p<s.size)with
     | true=>match Tabs.conc with
      | true=>K (.tuple ⟨[.bool true,.int .i64 p,.int .i32 (Utf8.decode s p.toNat).1]⟩) (m.upd k ⟨[.string s,.int .i64 (p+(Utf8.decode s p.toNat).2)],itTy,true⟩)
      | false=>K (.tuple ⟨[.bool true,.int .i64 p,.int .i32 (decO s p.toNat).1]⟩) (m.upd k ⟨[.string s,.int .i64 (p+(decO s p.toNat).2)],itTy,true⟩)
     | false=>K (.tuple ⟨[.bool false]⟩) m
    | false=>False
   | _,_=>False
  | _,_=>False
 | none=>False
def jnn:J→Nat→Int→(Value→Prop)→Prop
 | [],_,_,_=>False
 | v::r,j,i,K=>match decide (i=(j:Int))with
  | true=>K v
  | false=>jnn r (j+1) i K
def idxR(P:Program)(t:TypeId)(x ix:Operand)(e:Operand→Value)(m:Lk)(K:Value→Lk→Prop):Prop:=
 match P.underlying t,e x,e ix with
 | some (.array len el),.agg ⟨l⟩,.int _ i=>match P.underlying el,P.info? el with
  | some d,some ti=>match jig d,Nat.beq ti.size 1 with
   | false,true=>match decide (0≤i∧i<len)with
    | true=>jnn l 0 i fun v=>K v m
    | false=>False
   | _,_=>False
  | _,_=>False
 | _,_,_=>False
def jno(f:Nat→Prop):Nat→Nat→Int→Prop
 | 0,_,_=>False
 | c+1,j,i=>match decide (i=(j:Int))with
  | true=>f j
  | false=>jno f c (j+1) i
def ldR(P:Program)(t:TypeId)(x:Operand)(e:Operand→Value)(m:Lk)(K:Value→Lk→Prop):Prop:=
 match own? (e x)with
 | some (k,off,sp)=>match m k with
  | some b=>jno (fun j=>match jid P t b j sp with
   | some (c,.val v)=>match cnd c with
    | true=>K v m
    | false=>False
   | _=>False) b.c.length 0 (off:Int)
  | none=>False
 | none=>False
def cInt:Value→Int
 | .int _ n=>n
 | _=>0
def jly(s:Y)(cap:Nat)(d:J):Bool:=Nat.beq d.length cap&& (Nat.ble s.size cap&& (jbz d&&decide ((d.take s.size).map cInt=s.data.toList.map fun b=>(b.toNat:Int))))
def s2bR(P:Program)(t t':TypeId)(x:Operand)(e:Operand→Value)(m:Lk)(n:Nat)(K:Value→Lk→Prop):Prop:=
 match P.underlying t,P.underlying t',e x with
 | some _,some (.slice el),.string s=>match P.underlying el with
  | some (.int .u8)=>match Tabs.ownB with
   | false=>∀cap:Nat,Nat.ble s.size cap=true→K (oslc n 0 s.size cap) (m.upd n ⟨Lib.strCells s,el,false⟩)
   | true=>∀(cap:Nat)(d:J),jly s cap d=true→K (oslc n 0 s.size cap) (m.upd n ⟨d,itTy+1+el,true⟩)
  | _=>False
 | _,_,_=>False
def cstR(P:Program)(t t':TypeId)(x:Operand)(e:Operand→Value)(m:Lk)(K:Value→Lk→Prop):Prop:=
 match e x with
 | .slice (some a) n c=>match a.spot,m a.block,P.underlying t with
  | some _,some b,some (.slice el)=>match P.underlying el with
   | some (.int .u8)=>match b.own&& !Nat.ble itTy b.ty&&Nat.beq t t' with
    | true=>K (.slice (some a) n c) (m.upd a.block ⟨b.c,b.ty,false⟩)
    | false=>False
   | _=>False
  | _,_,_=>False
 | _=>False
def cvR(P:Program)(t t':TypeId)(x:Operand)(e:Operand→Value)(m:Lk)(n:Nat)(K:Value→Lk→Prop):Prop:=
 match e x with
 | .string _=>s2bR P t t' x e m n K
 | _=>cstR P t t' x e m K
def mkR(P:Program)(t:TypeId)(l c:Operand)(e:Operand→Value)(m:Lk)(n:Nat)(K:Value→Lk→Prop):Prop:=
 match P.underlying t,e l,e c with
 | some (.slice el),.int _ a,.int _ b=>match P.info? el with
  | some i=>match i.zero with
   | some z=>match plain z&& (Nat.beq z.cells.size i.size&& !Nat.ble itTy el)with
    | true=>match cnd (decide (0≤a∧a≤b) &&jb2 b.toNat i.bytes)with
     | true=>K (oslc n 0 a.toNat b.toNat) (m.upd n ⟨zrow z b.toNat,el,true⟩)
     | false=>False
    | false=>False
   | none=>False
  | none=>False
 | _,_,_=>False
def bldR(P:Program)(t:TypeId)(parts:Array (Nat×Operand))(e:Operand→Value)(m:Lk)(K:Value→Lk→Prop):Prop:=
 match P.info? t,P.underlying t with
 | some it,some (.struct fields)=>match it.zero,fields.toList.mapM (fun f=>(P.info? f.type).map fun i=>(f.offset,i.size))with
  | some z,some places=>match plain z with
   | true=>match Instr.fill (places.toArray[·]?) z.cells (parts.map fun(q,x)=>(q,e x)).toList with
    | some cells=>K (.agg ⟨cells.toList⟩) m
    | none=>False
   | false=>False
  | _,_=>False
 | _,_=>False
def fldR(P:Program)(t:TypeId)(x:Operand)(i:Nat)(e:Operand→Value)(m:Lk)(K:Value→Lk→Prop):Prop:=
 match P.underlying t,e x with
 | some (.struct fs),.agg ⟨l⟩=>match fs[i]? with
  | some f=>match P.underlying f.type with
   | some d=>match jig d,l[f.offset]? with
    | false,some v=>K v m
    | _,_=>False
   | none=>False
  | none=>False
 | _,_=>False
def mapR(m:Lk)(n:Nat)(K:Value→Lk→Prop):Prop:=K (.chan (some n)) (m.upd n ⟨[.bool true],itTy,true⟩)
def insR(P:Program)(t:TypeId)(x k y:Operand)(e:Operand→Value)(m:Lk)(K:Value→Lk→Prop):Prop:=
 match P.underlying t,e x,e k with
 | some (.map kt _),.chan (some j),.int kd i=>match P.underlying kt,m j with
  | some (.int _),some b=>match b.own&&Nat.beq b.ty itTy,b.c with
   | true,.bool q::r=>match jfi kd i r with
    | some none=>K undef (m.upd j ⟨.bool q::(r++ [.int kd i,e y]),itTy,true⟩)
    | _=>False
   | _,_=>False
  | _,_=>False
 | _,_,_=>False
def extR(P:Program)(o:Oper)(e:Operand→Value)(m:Lk)(n:Nat)(K:Value→Lk→Prop):Prop:=match o.op with
 | .call c=>match c.callee,c.args.toList,c.argTypes.toList with
  | .builtin .append,[x,y],[t,t']=>appR P t t' x y e m n K
  | _,_,_=>False
 | .next x true=>jn3 x e m K
 | .index t x ix=>idxR P t x ix e m K
 | .convert t t' x=>cvR P t t' x e m n K
 | .load t x=>ldR P t x e m K
 | .makeSlice t l c=>mkR P t l c e m n K
 | .build t parts=>bldR P t parts e m K
 | .field t x i=>fldR P t x i e m K
 | .makeMap _ none=>mapR m n K
 | .insert t x k y=>insR P t x k y e m K
 | _=>False
section
variable {P : Program} {G : Env} {nt n : Nat} {N : Nat} {w0 : World} {t : Tmps} {m : Lk} {ι : Nm} {a : Act} {w : World} {o : Oper}
theorem RelM.move(h:RelM N w0 m ι w){k id:Nat}{b:Blk}(hk:m k=some b)(hid:∀j c,m j=some c→j≠id∧id∉idsL c.c):
  RelM N w0 ((m.del k).upd id b) (ι.upd id (ι k)) w:=by
 have hold:∀j,j≠id→ι.upd id (ι k) j=ι j:=fun j hj=>by simp[Nm.upd,hj]
 have hsame:ι.upd id (ι k) id=ι k:=by simp[Nm.upd]
 have hget:∀j c,((m.del k).upd id b) j=some c→(j=id∧c=b)∨(j≠id∧j≠k∧m j=some c):=fun j c hj=>by
  by_cases e:j=id
  ·subst e;rw[Lk.upd_same]at hj;exact .inl ⟨rfl,by cases hj;rfl⟩
  ·rw[Lk.upd_other _ _ e]at hj;by_cases e':j=k
   ·subst e';rw[Lk.del_same]at hj;cases hj
   ·rw[Lk.del_other _ e']at hj;exact .inr ⟨e,e',hj⟩
 have hobj:∀c:Blk,id∉idsL c.c→jcu (ι.upd id (ι k)) c=jcu ι c:=fun c hc=>jd7 fun j hj=>hold j fun e=>hc (e▸hj)
 refine⟨h.below,h.base,fun j c hj ho=> ?_,fun j c hj ho=> ?_,fun j j' c c' hj hj' ho hne=> ?_⟩
 ·rcases hget j c hj with⟨rfl,rfl⟩ | ⟨e,e',hj⟩
  ·rw[hsame,hobj _ (hid k _ hk).2];exact h.blk k _ hk ho
  ·rw[hold j e,hobj _ (hid j c hj).2];exact h.blk j c hj ho
 ·have hv:∀q d,m q=some d→d.own=false→(ι q).1<w.heap.size∧ ∀i v,d.c[i]?=some v→w.cell? ⟨(ι q).1,(ι q).2+i,none⟩=some (ren (ι.upd id (ι k)) v):=fun q d hq hd=>by
   obtain⟨g1,g2⟩:=h.view q d hq hd;refine⟨g1,fun i v hv=> ?_⟩;have:ren (ι.upd id (ι k)) v=ren ι v:=jc0 fun j hj=>hold j fun e'=>(hid q d hq).2 (e'▸jay.2 ⟨v,List.mem_of_getElem? hv,hj⟩)
   rw[this];exact g2 i v hv
  rcases hget j c hj with⟨rfl,rfl⟩ | ⟨e,e',hj⟩
  ·rw[hsame];exact hv k _ hk ho
  ·rw[hold j e];exact hv j c hj ho
 ·rcases hget j c hj with⟨rfl,rfl⟩ | ⟨e,e',q1⟩
  ·rcases hget j' c' hj' with⟨rfl,rfl⟩ | ⟨e2,e2',q2⟩
   ·exact absurd rfl hne
   ·rw[hsame,hold j' e2];exact h.inj k j' _ c' hk q2 ho (Ne.symm e2')
  ·rcases hget j' c' hj' with⟨rfl,rfl⟩ | ⟨e2,e2',q2⟩
   ·rw[hsame,hold j e];exact h.inj j k c _ q1 hk ho e'
   ·rw[hold j e,hold j' e2];exact h.inj j j' c c' q1 q2 ho hne
theorem jcy(hrel:RelS N w0 (· <n) nt t m ι a w){K':Act→World→Prop}{Q:Exit→Act→World→Prop}{v rv:Value}{m':Lk}{ι':Nm}{w':World}
  (hr:(execOp a.eval o).run P w= .ok (.value rv) w') (hrv:rv=ren ι' v) (hι:∀k,k<n→ι' k=ι k) (hm:RelM N w0 m' ι' w')
  (hwf:∀k b,m' k=some b→k<n+1∧ ∀j∈idsL b.c,j<n+1) (hv:∀j∈ids v,j<n+1)
  (hK:∀a',RelS N w0 (· <n+1) nt (tput t o.dst v) m' ι' a' w'→K' a' w'):o.wp P a w K' Q:=by
 refine wp_value' hr (hK _ ⟨?_,by rw[put_defers];exact hrel.defers,hm,⟨fun i hi j hj=> ?_,hwf⟩⟩)
 ·subst hrv;rw[put_tmps,hrel.tmps,Tm_congr (ι':=ι') fun i hi k hk=>(hι k (hrel.wf.tmps i hi k hk)).symm];exact jjd t ι' nt o.dst v
 ·cases hd:o.dst with
  | none=>rw[hd]at hj;have:=hrel.wf.tmps i hi j hj;omega
  | some d=>
   rw[hd,tput_get]at hj;split at hj
   ·exact hv j hj
   ·have:=hrel.wf.tmps i hi j hj;omega
theorem next_real{x:Operand}(hop:o.op= .next x true)(hrel:RelS N w0 (· <n) nt t m ι a w)(hok:jb7 nt o=true){K:Tmps→Lk→Nat→Prop}
  (h:jn3 x (ev t) m fun v m'=>K (tput t o.dst v) m' (n+1)) {K':Act→World→Prop} {Q:Exit→Act→World→Prop}
  (hK:∀t' m' n' ι' a' w',K t' m' n'→n≤n'→(∀k,k<n→ι' k=ι k)→RelS N w0 (· <n') nt t' m' ι' a' w'→K' a' w'):o.wp P a w K' Q:=by
 have hx:a.eval x=ren ι (ev t x):=hrel.eval (opndsOk_spec hok (by simp[hop,Op.operands]))
 have wf1:∀k b,m k=some b→k<n+1∧ ∀j∈idsL b.c,j<n+1:=fun k b hk=>by
  obtain⟨h1,h2⟩:=hrel.wf.mem k b hk;exact⟨Ki h1,fun j hj=>Ki (h2 j hj)⟩
 unfold jn3 at h;rw[decO_eq]at h;split at h
 ·rename_i k off sp ho;have hs:=jc2 ho;split at h
  ·rename_i b hoff hk;obtain rfl:=jah hoff;split at h
   ·rename_i s p hbo hbc;simp only[jaf]at hbo;obtain⟨g1,g2,g3⟩:=hrel.mem.blk k b hk hbo.1;have hob:jcu ι b= .stringIter s p.toNat:=by simp only[jcu,hbo.2,hbc];rfl
    rw[hob]at g3;have hget:(getObj (ι k).1).run P w= .ok (.stringIter s p.toNat) w:=by simp[getObj,Sem.run,g3]
    split at h
    ·rename_i h0;have h0:=jab h0;split at h
     ·rename_i hlt
      have h:K (tput t o.dst (.tuple ⟨[.bool true,.int .i64 p,.int .i32 (Utf8.decode s p.toNat).1]⟩)) (m.upd k ⟨[.string s,.int .i64 (p+(Utf8.decode s p.toNat).2)],itTy,true⟩) (n+1):=by
       split at h<;>exact h
      have hlt:=jab hlt;have hlt':p.toNat<s.size:=by omega
      have hset:∀ob,(setObj (ι k).1 ob).run P w= .ok () {w with heap:=w.heap.setIfInBounds (ι k).1 ob}:=fun ob=>by simp[setObj,Sem.run,g3]
      have hlk:=hrel.mem.lt hk hbo.1
      refine jcy (v:= .tuple ⟨[.bool true,.int .i64 p,.int .i32 (Utf8.decode s p.toNat).1]⟩) (m':=m.upd k ⟨[.string s,.int .i64 (p+(Utf8.decode s p.toNat).2)],itTy,true⟩) (ι':=ι)
       (w':={w with heap:=w.heap.setIfInBounds (ι k).1 (.stringIter s (p.toNat+(Utf8.decode s p.toNat).2))}) hrel ?_ rfl (fun _ _=>rfl) ?_ ?_ (by simp[ids,idsL]) fun a' hr=>hK _ _ _ ι a' _ h (Nat.le_succ n) (fun _ _=>rfl) hr
      ·simp only[execOp,hop,hx,hs,ren_own,g1,Nat.add_zero,Instr.next,Sem.run_bind,hget,Result.andThen_ok,Kd hlt',hset,Sem.run_pure];simp[ren,renL,goInt,Int.toNat_of_nonneg h0]
      ·refine hrel.mem.put hk hbo.1 rfl ⟨rfl,rfl,rfl,by simp⟩ (fun j hj=>by simp[Array.getElem?_setIfInBounds,Ne.symm hj]) ?_
       have:jcu ι ⟨[.string s,.int .i64 (p+(Utf8.decode s p.toNat).2)],itTy,true⟩= .stringIter s (p.toNat+(Utf8.decode s p.toNat).2):=by
        have e:(p+((Utf8.decode s p.toNat).2:Nat)).toNat=p.toNat+(Utf8.decode s p.toNat).2:=by omega
        show Obj.stringIter s (p+((Utf8.decode s p.toNat).2:Nat)).toNat=_;rw[e]
       rw[this];simp[Array.getElem?_setIfInBounds,hlk]
      ·intro q c hq;by_cases e:q=k
       ·subst e;rw[Lk.upd_same]at hq;cases hq;exact⟨(wf1 _ b hk).1,by simp[ids,idsL]⟩
       ·rw[Lk.upd_other _ _ e]at hq;exact wf1 q c hq
     ·rename_i hlt;have hlt:=jac hlt;have hlt':¬p.toNat<s.size:=by omega
      refine jcy (v:= .tuple ⟨[.bool false]⟩) (m':=m) (ι':=ι) (w':=w) hrel ?_ rfl (fun _ _=>rfl) hrel.mem wf1 (by simp[ids,idsL]) fun a' hr=>hK _ _ _ ι a' _ h (Nat.le_succ n) (fun _ _=>rfl) hr
      simp only[execOp,hop,hx,hs,ren_own,g1,Nat.add_zero,Instr.next,Sem.run_bind,hget,Result.andThen_ok,Kc hlt',Sem.run_pure];simp[ren,renL]
    ·exact h.elim
   ·exact h.elim
  ·exact h.elim
 ·exact h.elim
theorem ren_oneCell(ι:Nm){v:Value}(h:jf9 v=true):(ren ι v).oneCell'=true:=cellOk_ren h
theorem zeroCells_len(z:Array Value)(n:Nat):(Builtin.zeroCells z n).toList.length=n*z.size:=by have _:=tbs;simp[Builtin.zeroCells]
theorem zeroCells_plain{z:Value}(hz:plain z=true)(n:Nat):ja1 (Builtin.zeroCells z.cells n).toList=true:=by
 have _:=tbs
 have hc:ja1 z.cells.toList=true:=by
  cases z with
  | agg c=>obtain⟨l⟩:=c;simpa[Value.cells,plain]using hz
  | _=>simp[Value.cells,ja1,hz]
 refine ja7.2 fun v hv=> ?_
 simp only[Builtin.zeroCells,Array.toList_map,Array.toList_range,KB,List.mem_range]at hv;obtain⟨i,hi,rfl⟩:=hv
 have hp:0<z.cells.size:=by
  rcases Nat.eq_zero_or_pos z.cells.size with h | h
  ·rw[h]at hi;omega
  ·exact h
 have hlt:i%z.cells.size<z.cells.size:=Nat.mod_lt _ hp;rw[getElem!_pos z.cells (i%z.cells.size) hlt];exact ja7.1 hc _ (by simp)
structure SrcV (P:Program)(t t' el:TypeId)(i:TypeInfo)(z:Value)(rx:Value)(q:Nat)(news:J)(w:World):Prop where
 len:news.length=q*i.size
 one:∀u∈news,u.oneCell'=true
 nil0:∀ty,q=0→(Builtin.append_ #[t,t'] ty #[.slice none 0 0,rx]).run P w= .ok (.slice none 0 0) w
 nil1:∀ty,0<q→(q:Int)≤9223372036854775807→q*i.bytes≤281474976710656→(Builtin.append_ #[t,t'] ty #[.slice none 0 0,rx]).run P w=
   .ok (.slice (some ⟨w.heap.size,0,none⟩) q (grownCap w q 0 el)) (w.drew.alloc (.cells (news.toArray++Builtin.zeroCells z.cells (grownCap w q 0 el-q)) el))
 room:∀ty g sLen sCap (cur:Array Value),w.heap[g]?=some (.cells cur el (0,0))→sLen+q≤sCap→sLen*i.size+news.length≤cur.size→(q:Int)≤9223372036854775807→q*i.bytes≤281474976710656→
  (Builtin.append_ #[t, t'] ty #[.slice (some ⟨g, 0, none⟩) sLen sCap, rx]).run P w =
   .ok (.slice (some ⟨g,0,none⟩) (sLen+q) sCap) (w.setRow g (cur.toList.take (sLen*i.size)++news++cur.toList.drop (sLen*i.size+news.length)).toArray)
 grow:∀ty (b:Addr) sLen sCap (olds:J),olds.length=sLen*i.size→(∀j v,olds[j]?=some v→w.cell? (b.add j)=some v)→sCap<sLen+q→((sLen+q:Nat):Int)≤9223372036854775807→q*i.bytes≤281474976710656→
  Builtin.nextslicecap (sLen+q) sCap*i.bytes≤281474976710656→(Builtin.append_ #[t,t'] ty #[.slice (some b) sLen sCap,rx]).run P w=
   .ok (.slice (some ⟨w.heap.size,0,none⟩) (sLen+q) (grownCap w (sLen+q) sCap el))
    (w.drew.alloc (.cells (olds.toArray++news.toArray++Builtin.zeroCells z.cells (grownCap w (sLen+q) sCap el-(sLen+q))) el))
theorem srcV_slice{t el:TypeId}{i:TypeInfo}{z:Value}(ht:P.underlying t=some (.slice el))(hi:P.info? el=some i)(hz:i.zero=some z)(w:World)(a:Addr)(q c:Nat)(news:J)(hl:news.length=q*i.size)
  (hnews:∀j u,news[j]?=some u→w.cell? (a.add j)=some u) (h1:∀u∈news,u.oneCell'=true):SrcV P t t el i z (.slice (some a) q c) q news w where
 len:=have _:=tbs;hl
 one:=h1
 nil0:=fun ty hq=>by
  subst hq;simp[Builtin.append_,run_underlying ht,sizeOf,typeInfo,hi,Builtin.lenOf,Builtin.firstCells,loadCells,loadCellsFrom]
 nil1:=fun ty h0 h63 h48=>run_append_nil w t ty el i z ht hi hz a q c news hl hnews h0 h63 h48
 room:=fun ty g sLen sCap cur hg hr hf _ _=>run_append_room w t ty el i ht hi g sLen sCap cur hg a q c news hl hnews h1 hr hf
 grow:=fun ty b sLen sCap olds hlo holds hg h63 _ hfit=>run_append_grow w t ty el i z ht hi hz b sLen sCap olds hlo holds a q c news hl hnews hg h63 hfit
theorem srcV_nil{t el:TypeId}{i:TypeInfo}{z:Value}(ht:P.underlying t=some (.slice el))(hi:P.info? el=some i)(hz:i.zero=some z)(w:World):SrcV P t t el i z (.slice none 0 0) 0 [] w where
 len:=by have _:=tbs;simp
 one:=by simp
 nil0:=fun ty _=>by simp[Builtin.append_,run_underlying ht,sizeOf,typeInfo,hi,Builtin.lenOf,Builtin.firstCells]
 nil1:=fun ty h=>absurd h (by omega)
 room:=fun ty g sLen sCap cur hg hr hf _ _=>by
  have hst:=run_storeCells_at P g (sLen*i.size) el [] 0 cur w hg (by simpa using hf) (by simp);simp only[Nat.add_zero]at hst;simp[Builtin.append_,run_underlying ht,sizeOf,typeInfo,hi,Builtin.lenOf,Builtin.firstCells,show sLen≤sCap by omega,Addr.add_lit]at hst ⊢;simp[hst]
 grow:=fun ty b sLen sCap olds hlo holds hg h63 _ hfit=>by
  have hfo:=run_firstCells_some (P:=P) w.drew i.size sLen b sLen sCap olds hlo (by simpa using holds);have hn:¬(sLen≤sCap):=by omega
  have h63':¬(9223372036854775807<(sLen:Int)):=by omega
  have h48':¬(281474976710656<Builtin.nextslicecap sLen sCap*i.bytes):=by simp only[Nat.add_zero]at hfit;omega
  simp[Builtin.append_,run_underlying ht,sizeOf,typeInfo,zeroValue,hi,hz,Builtin.lenOf,hn,h63',h48',Question.forced,Builtin.firstCells,newRow,grownCap];simp[Builtin.firstCells]at hfo;simp[hfo]
theorem srcV_string{t t' el:TypeId}{i:TypeInfo}{z:Value}(ht:P.underlying t=some (.slice el))(ht':P.underlying t'=some .string)(hi:P.info? el=some i)(hz:i.zero=some z)(h1:i.size=1)(w:World)(s:Y):
  SrcV P t t' el i z (.string s) s.size (Lib.strCells s) w where
 len:=by have _:=tbs;rw[Lib.strCells_length,h1,Nat.mul_one]
 one:=Lib.strCells_oneCell s
 nil0:=fun ty hq=>by
  have hf:=Lib.run_firstCells_string (P:=P) w i.size s;rw[hq]at hf;have hn:Lib.strCells s=[]:=List.eq_nil_of_length_eq_zero (by rw[Lib.strCells_length];exact hq);simp[Builtin.append_,run_underlying ht,run_underlying ht',sizeOf,typeInfo,hi,Builtin.lenOf,hq,hf]
 nil1:=fun ty h0 h63 h48=>by
  have hr:=run_append_nil_string (P:=P) w t t' ty el i z ht ht' hi hz s h0 h63 h48
  have e1:(s.data.map fun b=>Value.int .u8 b.toNat)=(Lib.strCells s).toArray:=by
   apply Array.ext';simp[Lib.strCells]
  rw[e1]at hr;exact hr
 room:=fun ty g sLen sCap cur hg hr hf _ _=>by
  have h:=Lib.run_append_room_string (P:=P) w t t' ty el i ht ht' hi h1 g sLen sCap cur hg s hr (by simpa[h1,Lib.strCells_length]using hf);rw[h,h1,Nat.mul_one,Lib.strCells_length]
 grow:=fun ty b sLen sCap olds hlo holds hg h63 _ hfit=>Lib.run_append_grow_string (P:=P) w t t' ty el i z ht ht' hi hz b sLen sCap olds hlo holds s hg h63 hfit
theorem zrow_len(z:Value)(n:Nat):(zrow z n).length=n*z.cells.size:=by have _:=tbs;simp[zrow,Builtin.zeroCells]
theorem zrow_arr(z:Value)(n:Nat):(zrow z n).toArray=Builtin.zeroCells z.cells n:=by have _:=tbs;simp[zrow]
theorem zrow_mem{z:Value}{n:Nat}{v:Value}(h:v∈zrow z n):v∈z.cells.toList:=by
 have _:=tbs;simp only[zrow,Builtin.zeroCells,Array.toList_map,Array.toList_range,KB,List.mem_range]at h;obtain⟨i,hi,rfl⟩:=h
 have hp:0<z.cells.size:=by
  rcases Nat.eq_zero_or_pos z.cells.size with h | h
  ·rw[h]at hi;omega
  ·exact h
 have hlt:i%z.cells.size<z.cells.size:=Nat.mod_lt _ hp;rw[getElem!_pos z.cells (i%z.cells.size) hlt];simp
theorem srcV_zeros{t t' el:TypeId}{i:TypeInfo}{z:Value}{kn kq:IntKind}(ht:P.underlying t=some (.slice el))(ht':P.underlying t'=some (.int kn))(hi:P.info? el=some i)(hz:i.zero=some z)(hs:0<i.size)(hzs:z.cells.size=i.size)
  (h1:∀u∈z.cells.toList,u.oneCell'=true) (w:World) (n:Int) (h0:0≤n):SrcV P t t' el i z (.int kq n) n.toNat (zrow z n.toNat) w:=by
 obtain⟨q,rfl⟩:=Int.eq_ofNat_of_zero_le h0;simp only[Int.toNat_natCast]
 have key:(q:Int)≤9223372036854775807→q*i.bytes≤281474976710656→IntKind.i64.wrap (q:Int)=q∧ ¬((q:Int)<0)∧ ¬(281474976710656<(q:Int)*(i.bytes:Int)):=fun h63 h48=>
  ⟨by rw[IntKind.wrap_i64];omega,by omega,by rw[←Int.natCast_mul];omega⟩
 refine⟨by rw[zrow_len,hzs],fun u hu=>h1 u (zrow_mem hu),fun ty hq=> ?_,fun ty h0 h63 h48=> ?_,fun ty g sLen sCap cur hg hr hf h63 h48=> ?_,fun ty b sLen sCap olds hlo holds hg h63 h48 hfit=> ?_⟩
 ·subst hq;have hw:IntKind.i64.wrap (0:Int)=0:=by rw[IntKind.wrap_i64];rfl
  simp[Builtin.append_,run_underlying ht,run_underlying ht',sizeOf,typeInfo,hi,asInt,asIntOf,hw]
 ·rw[zrow_arr];exact Lib.run_append_nil_zeros w t t' ty el i z kq kn ht ht' hi hz q h0 hs h63 h48
 ·obtain⟨hw,hneg,h48i⟩:=key h63 h48;have hst:=run_storeCells_at P g (sLen*i.size) el (zrow z q) 0 cur w hg (by simpa using hf) (fun u hu=>h1 u (zrow_mem hu));simp only[Nat.add_zero]at hst;rcases Nat.eq_zero_or_pos q with e | e
  ·subst e;have hz0:zrow z 0=[]:=List.eq_nil_of_length_eq_zero (by rw[zrow_len];simp);have hw:IntKind.i64.wrap (0:Int)=0:=by rw[IntKind.wrap_i64];rfl
   rw[hz0]at hst ⊢;have hr:sLen≤sCap:=by omega
   simp[Builtin.append_,run_underlying ht,run_underlying ht',sizeOf,typeInfo,hi,asInt,asIntOf,hw,hr,Addr.add_lit];simp at hst;simp[hst]
  ·have hk:q≠0:=by omega
   have hns:¬(q*i.size=0):=Nat.mul_ne_zero hk (by omega);have hzl:(Builtin.zeroCells z.cells q).toList=zrow z q:=rfl;simp[Builtin.append_,run_underlying ht,run_underlying ht',sizeOf,typeInfo,zeroValue,hi,hz,asInt,asIntOf,hw,hneg,h48i,hns,hr,hzl,Addr.add_lit,hst]
 ·rcases Nat.eq_zero_or_pos q with e | e
  ·subst e;have hz0:zrow z 0=[]:=List.eq_nil_of_length_eq_zero (by rw[zrow_len];simp);have hw:IntKind.i64.wrap (0:Int)=0:=by rw[IntKind.wrap_i64];rfl
   have hfo:=run_firstCells_some (P:=P) w.drew i.size sLen b sLen sCap olds hlo (by simpa using holds);have hn:¬(sLen≤sCap):=by omega
   have h63':¬(9223372036854775807<(sLen:Int)):=by omega
   have h48':¬(281474976710656<Builtin.nextslicecap sLen sCap*i.bytes):=by simp only[Nat.add_zero]at hfit;omega
   rw[hz0];simp[Builtin.append_,run_underlying ht,run_underlying ht',sizeOf,typeInfo,zeroValue,hi,hz,asInt,asIntOf,hw,hn,h63',h48',Question.forced,hfo,newRow,grownCap]
  ·have hfo:=run_firstCells_some (P:=P) w.drew i.size sLen b sLen sCap olds hlo (by simpa using holds);rw[zrow_arr];exact Lib.run_append_grow_zeros w t t' ty el i z kq kn ht ht' hi hz (some b) sLen sCap olds hfo q e hs hg h63 h48 hfit
theorem app_real{c:Call}{x y:Operand}{tt tt':TypeId}(hop:o.op= .call c)(hc:c.callee= .builtin .append)(hargs:c.args.toList=[x,y])(htys:c.argTypes.toList=[tt,tt'])
  (hrel:RelS N w0 (· <n) nt t m ι a w) (hok:jb7 nt o=true) {K:Tmps→Lk→Nat→Prop}
  (h:appR P tt tt' x y (ev t) m n fun v m'=>K (tput t o.dst v) m' (n+1)) {K':Act→World→Prop} {Q:Exit→Act→World→Prop}
  (hK:∀t' m' n' ι' a' w',K t' m' n'→n≤n'→(∀k,k<n→ι' k=ι k)→RelS N w0 (· <n') nt t' m' ι' a' w'→K' a' w'):o.wp P a w K' Q:=by
 have hx:a.eval x=ren ι (ev t x):=hrel.eval (opndsOk_spec hok (by simp[hop,Op.operands,Call.operands,hc,←Array.mem_toList_iff,hargs]));have hy:a.eval y=ren ι (ev t y):=hrel.eval (opndsOk_spec hok (by simp[hop,Op.operands,Call.operands,hc,←Array.mem_toList_iff,hargs]))
 have wf1:∀k b,m k=some b→k<n+1∧ ∀j∈idsL b.c,j<n+1:=fun k b hk=>by
  obtain⟨h1,h2⟩:=hrel.wf.mem k b hk;exact⟨Ki h1,fun j hj=>Ki (h2 j hj)⟩
 have hfresh:∀j c,m j=some c→j≠n∧n∉idsL c.c:=fun j c hj=>by
  obtain⟨h1,h2⟩:=hrel.wf.mem j c hj;exact⟨by omega,fun e=>by have:=h2 n e;omega⟩
 have hrun:∀{rv w'},(Builtin.append_ #[tt,tt'] o.type #[ren ι (ev t x),ren ι (ev t y)]).run P w= .ok rv w'→(execOp a.eval o).run P w= .ok (.value rv) w':=fun{rv w'} hr=>by
  obtain⟨cal,args,tys⟩:=c;simp only at hc hargs htys;subst hc;have e1:args= #[x,y]:=Array.toList_inj.1 hargs;have e2:tys= #[tt,tt']:=Array.toList_inj.1 htys;subst e1;subst e2;simp only[execOp,hop,resolve,Sem.run_bind,Sem.run_pure,Result.andThen_ok,invoke,builtin];simp[hx,hy,hr]
 unfold appR at h;split at h
 case h_2=>exact h.elim
 rename_i el ht;split at h
 case h_2=>exact h.elim
 rename_i i hi;split at h
 case h_2=>exact h.elim
 rename_i z hz;split at h
 case h_2=>exact h.elim
 rename_i c' q news hzz hsrc;simp only[jaf,Ks]at hzz;obtain⟨⟨⟨⟨hzp,hzs⟩,hsz⟩,hel⟩,hzo⟩:=hzz
 have hone:∀u∈z.cells.toList,u.oneCell'=true:=fun u hu=>by
  have h1:=ren_oneCell ι (Kf.1 hzo u hu)
  have h2:plain u=true:=by
   have hc:ja1 z.cells.toList=true:=by
    cases z with
    | agg c=>obtain⟨l⟩:=c;simpa[Value.cells,plain]using hzp
    | _=>simp[Value.cells,ja1,hzp]
   exact ja7.1 hc u hu
  rwa [ja9 ι h2]at h1
 have hzs:=jah hzs;have hsz:0<i.size:=by simpa[Nat.blt_eq]using hsz
 -- what is appended
 have src:c'=true→SrcV P tt tt' el i z (ren ι (ev t y)) q (news.map (ren ι)) w∧ ∀j∈idsL news,j<n:=by
  intro hct;unfold srcC at hsrc;split at hsrc
  ·rename_i ad q' cp hyv;split at hsrc
   ·rename_i s b htt hsp hk;obtain rfl:=jah htt;split at hsrc
    ·rename_i hit;simp only[Kb,Ke]at hsrc;obtain⟨hc1,rfl,rfl⟩:=hsrc;rw[hct]at hc1;simp only[jaf]at hc1;have hle:=jag hc1.1;have hyr:ren ι (ev t y)= .slice (some ⟨(ι ad.block).1,(ι ad.block).2+ad.off,none⟩) q' cp:=by rw[hyv];simp[ren,ren1,hsp]
     rw[hyr];refine⟨srcV_slice ht hi hz w _ q' cp _ (by simp;omega) (fun j u hj=> ?_) (fun u hu=> ?_),fun j hj=> ?_⟩
     ·rw[cell_add];rw[List.getElem?_map]at hj;cases hq:((b.c.drop ad.off).take (q'*i.size))[j]? with
      | none=>rw[hq]at hj;cases hj
      | some v=>
       rw[hq]at hj;simp only[Option.map_some,Kb]at hj;subst hj;refine hrel.mem.cell hk hit ?_;rw[List.getElem?_take]at hq;split at hq
       ·rw[KN]at hq;exact hq
       ·cases hq
     ·obtain⟨v,hv,rfl⟩:=KB.1 hu;exact ren_oneCell ι (Kf.1 hc1.2 v hv)
     ·obtain⟨v,hv,hjv⟩:=jay.1 hj;exact(hrel.wf.mem _ b hk).2 j (jay.2 ⟨v,List.mem_of_mem_drop (List.mem_of_mem_take hv),hjv⟩)
    ·cases hsrc
   ·cases hsrc
  ·rename_i hyv;split at hsrc
   ·rename_i htt;obtain rfl:=jah htt;simp only[Kb,Ke]at hsrc;obtain⟨_,rfl,rfl⟩:=hsrc;have hyr:ren ι (ev t y)= .slice none 0 0:=by rw[hyv];rfl
    rw[hyr];exact⟨srcV_nil ht hi hz w,by simp[idsL]⟩
   ·cases hsrc
  ·rename_i s hyv;split at hsrc
   ·rename_i htt h1;simp only[Kb,Ke]at hsrc;obtain⟨_,rfl,rfl⟩:=hsrc;have hyr:ren ι (ev t y)= .string s:=by rw[hyv];rfl
    rw[hyr]
    have hpl:ja1 (Lib.strCells s)=true:=ja7.2 fun v hv=>by
     simp only[Lib.strCells,KB]at hv;obtain⟨b,_,rfl⟩:=hv;rfl
    have e:(Lib.strCells s).map (ren ι)=Lib.strCells s:=by rw[←jb1];exact jb4 ι hpl
    rw[e];exact⟨srcV_string ht htt hi hz (jah h1) w s,by rw[jao hpl];simp⟩
   ·cases hsrc
  ·rename_i kq nn hyv;split at hsrc
   ·rename_i kn htt;simp only[Kb,Ke]at hsrc;obtain⟨hc1,rfl,rfl⟩:=hsrc;rw[hct]at hc1;have h0:=jab hc1;have hyr:ren ι (ev t y)= .int kq nn:=by rw[hyv];rfl
    rw[hyr];have hpl:ja1 (zrow z nn.toNat)=true:=zeroCells_plain hzp nn.toNat;have e:(zrow z nn.toNat).map (ren ι)=zrow z nn.toNat:=by rw[←jb1];exact jb4 ι hpl
    rw[e];exact⟨srcV_zeros ht htt hi hz hsz hzs hone w nn h0,by rw[jao hpl];simp⟩
   ·cases hsrc
  ·cases hsrc
 have fits:∀{k:Nat},jb2 k i.bytes=true→k≤9223372036854775807∧k*i.bytes≤140737488355328:=fun{k} hf=>by
  simp only[jb2,jaf]at hf;exact⟨jag hf.1,jag hf.2⟩
 have hdrew:RelM N w0 m ι w.drew:=⟨hrel.mem.below.drew,hrel.mem.base,hrel.mem.blk,hrel.mem.view,hrel.mem.inj⟩
 have app_ids:∀{p r tl:J}{j:Nat},j∈idsL (p++r++tl)→j∈idsL p∨j∈idsL r∨j∈idsL tl:=fun{p r tl j} hj=>by
  obtain⟨v,hv,hjv⟩:=jay.1 hj;simp only[Kq]at hv;rcases hv with(hv | hv) | hv
  ·exact .inl (jay.2 ⟨v,hv,hjv⟩)
  ·exact .inr (.inl (jay.2 ⟨v,hv,hjv⟩))
  ·exact .inr (.inr (jay.2 ⟨v,hv,hjv⟩))
 -- a new row
 have fresh:∀{m1:Lk}(olds:J)(need cap:Nat)(hm1:RelM N w0 m1 ι w.drew)(hf1:∀j c,m1 j=some c→m j=some c) (hlen:olds.length=need*i.size) (hids:∀j∈idsL olds,j<n) (hcap:need≤cap) (hcm:cap≤9223372036854775807)
   (hr:(execOp a.eval o).run P w= .ok (.value (.slice (some ⟨w.heap.size,0,none⟩) need cap)) (w.drew.alloc (.cells ((olds.map (ren ι)).toArray++Builtin.zeroCells z.cells (cap-need)) el)))
   (hk:∀(cap:Nat)(tail:J),jbd tail cap need i.size=true→K (tput t o.dst (oslc n 0 need cap)) (m1.upd n ⟨olds++tail,el,true⟩) (n+1)),o.wp P a w K' Q:=by
  intro m1 olds need cap hm1 hf1 hlen hids hcap hcm hr hk;have hpl:=zeroCells_plain hzp (cap-need);have htl:=zeroCells_len z.cells (cap-need);generalize hzc:Builtin.zeroCells z.cells (cap-need)=zc at*
  have htail:jbd zc.toList cap need i.size=true:=by
   have e:(cap-need)*z.cells.size+need*i.size=cap*i.size:=by rw[hzs,←Nat.add_mul];congr 1;omega
   simp only[jbd,hpl,htl,e,jaf,Nat.beq_refl,Bool.true_and,Nat.ble_eq];exact⟨hcap,hcm⟩
  have hidn:n∉idsL (olds++zc.toList):=fun hj=>by
   obtain⟨v,hv,hjv⟩:=jay.1 hj;rcases Kq.1 hv with hv | hv
   ·have:=hids n (jay.2 ⟨v,hv,hjv⟩);omega
   ·rw[jbm (ja7.1 hpl v hv)]at hjv;cases hjv
  have hnew:=hm1.new (id:=n) (b:=⟨olds++zc.toList,el,true⟩) (fun j c hj=>hfresh j c (hf1 j c hj)) rfl hidn;rw[objOf_cells hel]at hnew;have hz2:zc.toList.map (ren ι)=zc.toList:=by rw[←jb1];exact jb4 ι hpl
  have harr:(⟨(olds++zc.toList).map (ren ι)⟩:Array Value)=(olds.map (ren ι)).toArray++zc:=by
   apply Array.toList_inj.1;simp[hz2]
  simp only[harr]at hnew;refine jcy (v:=oslc n 0 need cap) hrel hr (by simp[oslc,ren,ren1,Nm.upd]) (fun k hk=>by simp[Nm.upd];omega) hnew (fun j c hj=> ?_) (by simp[oslc,ids]) fun a' hr'=>hK _ _ _ _ a' _ (hk cap _ htail) (Nat.le_succ n) (fun k hk=>by simp[Nm.upd];omega) hr'
  by_cases e:j=n
  ·subst e;rw[Lk.upd_same]at hj;cases hj;refine⟨Nat.lt_succ_self _,fun q hq=> ?_⟩;obtain⟨v,hv,hjv⟩:=jay.1 hq;rcases Kq.1 hv with hv | hv
   ·have:=hids q (jay.2 ⟨v,hv,hjv⟩);omega
   ·rw[jbm (ja7.1 hpl v hv)]at hjv;cases hjv
  ·rw[Lk.upd_other _ _ e]at hj;exact wf1 j c (hf1 j c hj)
 split at h
 ·-- nil
  rename_i hxv;split at h
  case h_2=>exact h.elim
  rename_i hcn;simp only[cnd,jaf]at hcn;obtain⟨hct,hfit⟩:=hcn;obtain⟨hf1,hf2⟩:=fits hfit;obtain⟨sv,hidn⟩:=src hct;have hlen:news.length=q*i.size:=by simpa using sv.len
  have hxr:ren ι (ev t x)= .slice none 0 0:=by rw[hxv];rfl
  split at h
  ·rename_i hq;obtain rfl:=jah hq;refine jcy (v:= .slice none 0 0) (m':=m) (ι':=ι) (w':=w) hrel (hrun ?_) rfl (fun _ _=>rfl) hrel.mem wf1 (by simp[ids]) fun a' hr=>hK _ _ _ ι a' _ h (Nat.le_succ n) (fun _ _=>rfl) hr
   rw[hxr];exact sv.nil0 _ rfl
  ·rename_i hq
   have hq0:0<q:=by
    rcases Nat.eq_zero_or_pos q with e | e
    ·subst e;cases hq
    ·exact e
   have hr:=sv.nil1 o.type hq0 (by omega) (by omega);rw[←hxr]at hr;refine fresh news q _ hdrew (fun _ _ h=>h) hlen hidn (grownCap_ge ..) (grownCap_le_maxLen _ _ _ _ (by simp only[maxLen];omega)) (hrun hr) fun cap tail htail=>h cap tail htail
 ·-- an own row
  rename_i ad len cp hxv;split at h
  case h_2=>exact h.elim
  rename_i s b hsp hk;split at h
  case h_2=>exact h.elim
  rename_i hcn;simp only[cnd,jaf]at hcn;obtain⟨⟨⟨⟨⟨⟨⟨hbo,hty⟩,hoff⟩,hcl⟩,hlc⟩,hcpm⟩,hct⟩,hfit⟩:=hcn;have hty:=jah hty;have hoff:=jah hoff;have hcl:=jah hcl;have hlc:=jag hlc;have hcpm:=jag hcpm;obtain⟨hf1,hf2⟩:=fits hfit;obtain⟨sv,hidn⟩:=src hct;have hlen:news.length=q*i.size:=by simpa using sv.len
  have hit:Nat.ble itTy b.ty=false:=by rw[hty];exact hel
  obtain⟨g1,g2,g3⟩:=hrel.mem.blk _ b hk hbo;rw[objOf_cells hit,hty]at g3;have hxr:ren ι (ev t x)= .slice (some ⟨(ι ad.block).1,0,none⟩) len cp:=by rw[hxv];simp[ren,ren1,hsp,g1,hoff]
  have hl':(news.map (ren ι)).length=q*i.size:=by simpa using hlen
  have hle:len*i.size≤b.c.length:=by rw[hcl];exact Nat.mul_le_mul_right _ hlc
  have hidt:∀j∈idsL (b.c.take (len*i.size)),j<n:=fun j hj=>by
   obtain⟨v,hv,hjv⟩:=jay.1 hj;exact(hrel.wf.mem _ b hk).2 j (jay.2 ⟨v,List.mem_of_mem_take hv,hjv⟩)
  have hdel:∀{w1},RelM N w0 m ι w1→RelM N w0 (m.del ad.block) ι w1:=fun{w1} hm=>by
   have hg:∀j c,m.del ad.block j=some c→m j=some c:=fun j c hj=>by
    by_cases e:j=ad.block
    ·subst e;rw[Lk.del_same]at hj;cases hj
    ·rw[Lk.del_other _ e]at hj;exact hj
   exact⟨hm.below,hm.base,fun j c hj=>hm.blk j c (hg j c hj),fun j c hj=>hm.view j c (hg j c hj),fun j j' c c' hj hj'=>hm.inj j j' c c' (hg j c hj) (hg j' c' hj')⟩
  have hdg:∀j c,m.del ad.block j=some c→m j=some c:=fun j c hj=>by
   by_cases e:j=ad.block
   ·subst e;rw[Lk.del_same]at hj;cases hj
   ·rw[Lk.del_other _ e]at hj;exact hj
  by_cases hroom:len+q≤cp
  ·have hfitc:len*i.size+(news.map (ren ι)).length≤(⟨b.c.map (ren ι)⟩:Array Value).size:=by
    simp only[hl',List.size_toArray,K9,hcl,←Nat.add_mul];exact Nat.mul_le_mul_right _ hroom
   have hqb:q*i.bytes≤(len+q)*i.bytes:=Nat.mul_le_mul_right _ (by omega);have hr:=sv.room o.type (ι ad.block).1 len cp ⟨b.c.map (ren ι)⟩ g3 hroom hfitc (by omega) (by omega);rw[←hxr]at hr;have hrr:∀v,ren ι (ren ι v)=ren ι v:=fun v=>ja9 ι (plain_ren ι v)
   let tail:=(b.c.drop (len*i.size+news.length)).map (ren ι)
   have hpt:ja1 tail=true:=by
    show ja1 ((b.c.drop (len*i.size+news.length)).map (ren ι))=true;rw[←jb1];exact plainL_ren ι _
   have htl:tail.length=cp*i.size-(len+q)*i.size:=by
    show((b.c.drop (len*i.size+news.length)).map (ren ι)).length=_;simp only[K9,KE,hcl,hlen,Nat.add_mul]
   have hle2:(len+q)*i.size≤cp*i.size:=Nat.mul_le_mul_right _ hroom
   have htail:jbd tail cp (len+q) i.size=true:=by
    have e:tail.length+(len+q)*i.size=cp*i.size:=by omega
    simp only[jbd,hpt,e,jaf,Nat.beq_refl,Bool.true_and,Nat.ble_eq];exact⟨hroom,hcpm⟩
   have hw:=hrel.mem.write (b':=⟨b.c.take (len*i.size)++news++tail,el,true⟩) hk hbo rfl hty.symm (by rw[frOf,frOf,hit]) (it_ble hit)
   have hmap:((b.c.take (len*i.size)++news++tail).map (ren ι))=(b.c.map (ren ι)).take (len*i.size)++news.map (ren ι)++(b.c.map (ren ι)).drop (len*i.size+(news.map (ren ι)).length):=by
    simp only[List.map_append,List.map_take,K9];congr 1;show((b.c.drop (len*i.size+news.length)).map (ren ι)).map (ren ι)=_;rw[List.map_map,List.map_drop];congr 1;exact Ku fun v _=>hrr v
   simp only[hmap]at hw
   have hidw:∀j c,(m.upd ad.block ⟨b.c.take (len*i.size)++news++tail,el,true⟩) j=some c→j<n∧ ∀q∈idsL c.c,q<n:=fun j c hj=>by
    by_cases e:j=ad.block
    ·subst e;rw[Lk.upd_same]at hj;cases hj;refine⟨(hrel.wf.mem _ b hk).1,fun q hq=> ?_⟩;rcases app_ids hq with hq | hq | hq
     ·exact hidt q hq
     ·exact hidn q hq
     ·rw[jao hpt]at hq;cases hq
    ·rw[Lk.upd_other _ _ e]at hj;exact hrel.wf.mem j c hj
   have hmv:=hw.move (k:=ad.block) (id:=n) (b:=⟨b.c.take (len*i.size)++news++tail,el,true⟩) (Lk.upd_same _ _ _) (fun j c hj=>⟨by have:=(hidw j c hj).1;omega,fun e=>by have:=(hidw j c hj).2 n e;omega⟩)
   have hlk:((m.upd ad.block ⟨b.c.take (len*i.size)++news++tail,el,true⟩).del ad.block).upd n ⟨b.c.take (len*i.size)++news++tail,el,true⟩=(m.del ad.block).upd n ⟨b.c.take (len*i.size)++news++tail,el,true⟩:=by
    congr 1;funext j;by_cases e:j=ad.block
    ·subst e;rw[Lk.del_same,Lk.del_same]
    ·rw[Lk.del_other _ e,Lk.del_other _ e,Lk.upd_other _ _ e]
   rw[hlk]at hmv;refine jcy (v:=oslc n 0 (len+q) cp) hrel (hrun hr) (by simp[oslc,ren,ren1,Nm.upd,g1]) (fun k hk=>by simp[Nm.upd];omega) hmv (fun j c hj=> ?_) (by simp[oslc,ids]) fun a' hr'=>hK _ _ _ _ a' _ (h cp tail htail) (Nat.le_succ n) (fun k hk=>by simp[Nm.upd];omega) hr'
   by_cases e:j=n
   ·subst e;rw[Lk.upd_same]at hj;cases hj;refine⟨Nat.lt_succ_self _,fun r hr=> ?_⟩;rcases app_ids hr with hr | hr | hr
    ·have:=hidt r hr;omega
    ·have:=hidn r hr;omega
    ·rw[jao hpt]at hr;cases hr
   ·rw[Lk.upd_other _ _ e]at hj;exact wf1 j c (hdg j c hj)
  ·have holds:∀j u,((b.c.take (len*i.size)).map (ren ι))[j]?=some u→w.cell? ((⟨(ι ad.block).1,0,none⟩:Addr).add j)=some u:=fun j u hj=>by
    rw[List.getElem?_map]at hj;cases hq:(b.c.take (len*i.size))[j]? with
    | none=>rw[hq]at hj;cases hj
    | some v=>
     rw[hq]at hj;simp only[Option.map_some,Kb]at hj;subst hj;rw[List.getElem?_take]at hq;split at hq
     ·have:=hrel.mem.cell hk (by simp[hbo,it_ble hit]) hq;rw[g1]at this;have e:((⟨(ι ad.block).1,0,none⟩:Addr).add j)=⟨(ι ad.block).1,0+j,none⟩:=by unfold Addr.add;split<;>simp_all
      rw[e];exact this
     ·cases hq
   have hlo:((b.c.take (len*i.size)).map (ren ι)).length=len*i.size:=by simp;omega
   have hqb:q*i.bytes≤(len+q)*i.bytes:=Nat.mul_le_mul_right _ (by omega);have hr:=sv.grow o.type ⟨(ι ad.block).1,0,none⟩ len cp _ hlo holds (by omega) (by omega) (by omega) (growslice_fits (by omega) hf2);rw[←hxr]at hr;have harr:(((b.c.take (len*i.size)).map (ren ι)).toArray++(news.map (ren ι)).toArray)=((b.c.take (len*i.size)++news).map (ren ι)).toArray:=by simp
   rw[harr]at hr;refine fresh (b.c.take (len*i.size)++news) (len+q) _ (hdel hdrew) hdg (by simp[hlen,Nat.add_mul];omega) (fun j hj=> ?_) (grownCap_ge ..) (grownCap_le_maxLen _ _ _ _ (by simp only[maxLen];omega)) (hrun hr) fun cap tail htail=>h cap tail htail
   obtain⟨v,hv,hjv⟩:=jay.1 hj;rcases Kq.1 hv with hv | hv
   ·exact hidt j (jay.2 ⟨v,hv,hjv⟩)
   ·exact hidn j (jay.2 ⟨v,hv,hjv⟩)
 ·exact h.elim
theorem pickR_sound{K:Value→Prop}{i:Int}:∀{l:J}{j:Nat},jnn l j i K→ ∃k v,l[k]?=some v∧i=((j+k:Nat):Int)∧K v
 | [],_,h=>have _:=tbs;h.elim
 | v::r,j,h=>by
  unfold jnn at h;split at h
  ·rename_i hd;exact⟨0,v,rfl,by simpa using jab hd,h⟩
  ·obtain⟨k,u,h1,h2,h3⟩:=pickR_sound h;exact⟨k+1,u,by simpa using h1,by rw[h2];congr 1;omega,h3⟩
theorem pickI_sound{f:Nat→Prop}{i:Int}:∀{c j:Nat},jno f c j i→ ∃k:Nat,i=(k:Int)∧f k
 | 0,_,h=>have _:=tbs;h.elim
 | c+1,j,h=>by
  unfold jno at h;split at h
  ·rename_i hd;exact⟨j,jab hd,h⟩
  ·exact pickI_sound h
theorem ld_real{tt:TypeId}{x:Operand}(hop:o.op= .load tt x)(hrel:RelS N w0 (· <n) nt t m ι a w)(hok:jb7 nt o=true){K:Tmps→Lk→Nat→Prop}
  (h:ldR P tt x (ev t) m fun v m'=>K (tput t o.dst v) m' (n+1)) {K':Act→World→Prop} {Q:Exit→Act→World→Prop}
  (hK:∀t' m' n' ι' a' w',K t' m' n'→n≤n'→(∀k,k<n→ι' k=ι k)→RelS N w0 (· <n') nt t' m' ι' a' w'→K' a' w'):o.wp P a w K' Q:=by
 have hx:a.eval x=ren ι (ev t x):=hrel.eval (opndsOk_spec hok (by simp[hop,Op.operands]));unfold ldR at h;split at h
 case h_2=>exact h.elim
 rename_i k off sp ho;have hs:=jc2 ho;split at h
 case h_2=>exact h.elim
 rename_i b hk;obtain⟨j,hj,hf⟩:=pickI_sound h;obtain rfl:off=j:=by omega
 split at hf
 case h_2=>exact hf.elim
 rename_i c v hl;split at hf
 case h_2=>exact hf.elim
 rename_i hc;have hc:c=true:=hc;subst hc;obtain⟨v',hv',hi,hr⟩:=je4 hrel.mem hk hl;cases hv';refine jcy (v:=v) (m':=m) (ι':=ι) (w':=w) hrel ?_ rfl (fun _ _=>rfl) hrel.mem (fun q b hq=> ?_) (fun j hj=> ?_) fun a' hr=>hK _ _ _ ι a' _ hf (Nat.le_succ n) (fun _ _=>rfl) hr
 ·simp only[execOp,hop,hx,hs,ren_own,Instr.loadAt,Instr.sureAddr];simp[hr]
 ·obtain⟨h1,h2⟩:=hrel.wf.mem q b hq;exact⟨Ki h1,fun j hj=>Ki (h2 j hj)⟩
 ·exact Ki ((hrel.wf.mem k b hk).2 j (hi j hj))
theorem idx_real{tt:TypeId}{x ix:Operand}(hop:o.op= .index tt x ix)(hrel:RelS N w0 (· <n) nt t m ι a w)(hok:jb7 nt o=true){K:Tmps→Lk→Nat→Prop}
  (h:idxR P tt x ix (ev t) m fun v m'=>K (tput t o.dst v) m' (n+1)) {K':Act→World→Prop} {Q:Exit→Act→World→Prop}
  (hK:∀t' m' n' ι' a' w',K t' m' n'→n≤n'→(∀k,k<n→ι' k=ι k)→RelS N w0 (· <n') nt t' m' ι' a' w'→K' a' w'):o.wp P a w K' Q:=by
 have hx:a.eval x=ren ι (ev t x):=hrel.eval (opndsOk_spec hok (by simp[hop,Op.operands]));have hix:a.eval ix=ren ι (ev t ix):=hrel.eval (opndsOk_spec hok (by simp[hop,Op.operands]));unfold idxR at h;split at h
 ·rename_i len el l kk i hd hxv hi;split at h
  ·rename_i d ti hel hti;split at h
   ·rename_i hag hsz1;split at h
    ·rename_i hb;have hb:=jab hb;obtain⟨k,v,h1,h2,h3⟩:=pickR_sound h;simp only[Nat.zero_add]at h2;have hik:i.toNat=k:=by omega
     have hsz:(sizeOf el).run P w= .ok ti.size w:=by simp[sizeOf,typeInfo,hti]
     have e1:ti.size=1:=jah hsz1;have ha:=isAgg_of (P:=P) hel w;rw[hag]at ha;have hg:(l.map (ren ι))[i.toNat]?=some (ren ι v):=by rw[hik,List.getElem?_map,h1];rfl
     have hvi:∀j∈ids v,j<n:=fun j hj=>by
      have:=jcr hrel.wf hok (x:=x) (by simp[hop,Op.operands]) j;rw[hxv]at this;exact this (by simp only[ids];exact jay.2 ⟨v,List.mem_of_getElem? h1,hj⟩)
     refine jcy (v:=v) (m':=m) (ι':=ι) (w':=w) hrel ?_ rfl (fun _ _=>rfl) hrel.mem (fun k b hk=> ?_) (fun j hj=>Ki (hvi j hj)) fun a' hr=>hK _ _ _ ι a' _ h3 (Nat.le_succ n) (fun _ _=>rfl) hr
     ·simp only[execOp,hop,hx,hix,hi,hxv,ren,jb1,Instr.index,asIntOf,Sem.run_bind,Sem.run_pure,Result.andThen_ok,run_underlying hd];rw[Kd hb];simp only[Sem.run_bind,hsz,Result.andThen_ok,part,ha,Bool.false_eq_true,if_false,e1,Nat.mul_one];simp[hg]
     ·obtain⟨q1,q2⟩:=hrel.wf.mem k b hk;exact⟨Ki q1,fun j hj=>Ki (q2 j hj)⟩
    ·exact h.elim
   ·exact h.elim
  ·exact h.elim
 ·exact h.elim
theorem RelM.newV(h:RelM N w0 m ι w){id:Nat}(hid:∀k b,m k=some b→k≠id∧id∉idsL b.c){b:Blk}(ho:b.own=false)(hb:ja1 b.c=true)
  {w':World} (hbel:Below w.heap.size w w') (hlt:w.heap.size<w'.heap.size) (hc:∀i v,b.c[i]?=some v→w'.cell? ⟨w.heap.size,i,none⟩=some v):
  RelM N w0 (m.upd id b) (ι.upd id (w.heap.size,0)) w':=by
 have hold:∀k,k≠id→ι.upd id (w.heap.size,0) k=ι k:=fun k hk=>by simp[Nm.upd,hk]
 have hsame:ι.upd id (w.heap.size,0) id=(w.heap.size,0):=by simp[Nm.upd]
 have hren:∀l:Blk,id∉idsL l.c→jcu (ι.upd id (w.heap.size,0)) l=jcu ι l:=fun l hl=>
  jd7 fun k hk=>hold k fun e=>hl (e▸hk)
 have g:=h.grow hbel;refine⟨g.below,g.base,fun k b' hk ho'=> ?_,fun k b' hk ho'=> ?_,fun k k' b1 b2 hk hk' ho1 hne=> ?_⟩
 ·by_cases e:k=id
  ·subst e;rw[Lk.upd_same]at hk;cases hk;rw[ho]at ho';cases ho'
  ·rw[Lk.upd_other _ _ e]at hk;rw[hold k e,hren _ (hid k b' hk).2];exact g.blk k b' hk ho'
 ·by_cases e:k=id
  ·subst e;rw[Lk.upd_same]at hk;cases hk;rw[hsame];refine⟨hlt,fun i v hv=> ?_⟩;rw[ja9 _ (ja7.1 hb v (List.mem_of_getElem? hv)),Nat.zero_add];exact hc i v hv
  ·rw[Lk.upd_other _ _ e]at hk;rw[hold k e];obtain⟨g1,g2⟩:=g.view k b' hk ho';refine⟨g1,fun i v hv=> ?_⟩;have:ren (ι.upd id (w.heap.size,0)) v=ren ι v:=jc0 fun j hj=>hold j fun e'=>(hid k b' hk).2 (e'▸jay.2 ⟨v,List.mem_of_getElem? hv,hj⟩)
   rw[this];exact g2 i v hv
 ·by_cases e:k=id
  ·subst e;rw[Lk.upd_same]at hk;cases hk;rw[ho]at ho1;cases ho1
  ·rw[Lk.upd_other _ _ e]at hk;by_cases e':k'=id
   ·subst e';rw[hsame,hold k e];have:=h.any_lt hk;simp only;omega
   ·rw[Lk.upd_other _ _ e']at hk';rw[hold k e,hold k' e'];exact g.inj k k' b1 b2 hk hk' ho1 hne
theorem RelM.newO(h:RelM N w0 m ι w){id:Nat}(hid:∀k b,m k=some b→k≠id∧id∉idsL b.c){b:Blk}(ho:b.own=true)(hb:ja1 b.c=true)
  {w':World} (hbel:Below w.heap.size w w') (hc:w'.heap[w.heap.size]?=some (jcu ι b)):
  RelM N w0 (m.upd id b) (ι.upd id (w.heap.size,0)) w':=by
 have hold:∀k,k≠id→ι.upd id (w.heap.size,0) k=ι k:=fun k hk=>by simp[Nm.upd,hk]
 have hsame:ι.upd id (w.heap.size,0) id=(w.heap.size,0):=by simp[Nm.upd]
 have hren:∀l:Blk,id∉idsL l.c→jcu (ι.upd id (w.heap.size,0)) l=jcu ι l:=fun l hl=>
  jd7 fun k hk=>hold k fun e=>hl (e▸hk)
 have hnb:id∉idsL b.c:=by rw[jao hb];simp
 have g:=h.grow hbel;refine⟨g.below,g.base,fun k b' hk ho'=> ?_,fun k b' hk ho'=> ?_,fun k k' b1 b2 hk hk' ho1 hne=> ?_⟩
 ·by_cases e:k=id
  ·subst e;rw[Lk.upd_same]at hk;cases hk;rw[hsame];exact⟨rfl,h.size,by rw[hren _ hnb];exact hc⟩
  ·rw[Lk.upd_other _ _ e]at hk;rw[hold k e,hren _ (hid k b' hk).2];exact g.blk k b' hk ho'
 ·by_cases e:k=id
  ·subst e;rw[Lk.upd_same]at hk;cases hk;rw[ho]at ho';cases ho'
  ·rw[Lk.upd_other _ _ e]at hk;rw[hold k e];obtain⟨g1,g2⟩:=g.view k b' hk ho';refine⟨g1,fun i v hv=> ?_⟩;have:ren (ι.upd id (w.heap.size,0)) v=ren ι v:=jc0 fun j hj=>hold j fun e'=>(hid k b' hk).2 (e'▸jay.2 ⟨v,List.mem_of_getElem? hv,hj⟩)
   rw[this];exact g2 i v hv
 ·by_cases e:k=id
  ·subst e;rw[Lk.upd_other _ _ (Ne.symm hne)]at hk';rw[hsame,hold k' (Ne.symm hne)];have:=h.any_lt hk';simp only;omega
  ·rw[Lk.upd_other _ _ e]at hk;by_cases e':k'=id
   ·subst e';rw[hsame,hold k e];have:=h.any_lt hk;simp only;omega
   ·rw[Lk.upd_other _ _ e']at hk';rw[hold k e,hold k' e'];exact g.inj k k' b1 b2 hk hk' ho1 hne
theorem bytesWorld_below(w:World)(el:TypeId)(s:Y):Below w.heap.size w (Lib.bytesWorld w el s):=have _:=tbs;
 ⟨rfl,rfl,rfl,by rw[Lib.bytesWorld_size];omega,fun k hk=>Lib.bytesWorld_at_old w el s k hk⟩
theorem strCells_plain(s:Y):ja1 (Lib.strCells s)=true:=have _:=tbs;ja7.2 fun v hv=>by
 simp only[Lib.strCells,KB]at hv;obtain⟨b,_,rfl⟩:=hv;rfl
theorem s2b_real{tt tt':TypeId}{x:Operand}(hop:o.op= .convert tt tt' x)(hrel:RelS N w0 (· <n) nt t m ι a w)(hok:jb7 nt o=true){K:Tmps→Lk→Nat→Prop}
  (h:s2bR P tt tt' x (ev t) m n fun v m'=>K (tput t o.dst v) m' (n+1)) {K':Act→World→Prop} {Q:Exit→Act→World→Prop}
  (hK:∀t' m' n' ι' a' w',K t' m' n'→n≤n'→(∀k,k<n→ι' k=ι k)→RelS N w0 (· <n') nt t' m' ι' a' w'→K' a' w'):o.wp P a w K' Q:=by
 have hx:a.eval x=ren ι (ev t x):=hrel.eval (opndsOk_spec hok (by simp[hop,Op.operands]));unfold s2bR at h;split at h
 ·rename_i d el s hd hd' hxv;split at h
  ·rename_i hel;split at h
   ·-- to look at
    have hq:=h (grownCap w s.size 0 el) (Nat.ble_eq_true_of_le (grownCap_ge ..));have hpl:ja1 (Lib.strCells s)=true:=strCells_plain s;have hm:=hrel.mem.newV (id:=n) (fun k b hk=> ?_) (b:=⟨Lib.strCells s,el,false⟩) rfl hpl (bytesWorld_below w el s) (by rw[Lib.bytesWorld_size];omega) (fun i v hv=> ?_)
    ·refine jcy (v:=oslc n 0 s.size (grownCap w s.size 0 el)) (rv:= .slice (some ⟨w.heap.size,0,none⟩) s.size (grownCap w s.size 0 el)) (m':=m.upd n ⟨Lib.strCells s,el,false⟩) (ι':=ι.upd n (w.heap.size,0)) (w':=Lib.bytesWorld w el s) hrel ?_ ?_ (fun k hk=>by simp[Nm.upd];omega) hm ?_ ?_ fun a' hr=>hK _ _ _ _ a' _ hq (Nat.le_succ n) (fun k hk=>by simp[Nm.upd];omega) hr
     ·simp only[execOp,hop,hx,hxv,ren];exact run_value (Lib.run_convert_string_bytes w tt tt' el s hd hd' hel)
     ·simp[oslc,ren,ren1,Nm.upd]
     ·intro k b hk;by_cases e:k=n
      ·subst e;rw[Lk.upd_same]at hk;cases hk;exact⟨Nat.lt_succ_self _,fun j hj=>by rw[jao hpl]at hj;cases hj⟩
      ·rw[Lk.upd_other _ _ e]at hk;obtain⟨q1,q2⟩:=hrel.wf.mem k b hk;exact⟨Ki q1,fun j hj=>Ki (q2 j hj)⟩
     ·simp[oslc,ids]
    ·obtain⟨q1,q2⟩:=hrel.wf.mem k b hk;exact⟨by omega,fun hj=>by have:=q2 _ hj;omega⟩
    ·simp only[Lib.strCells,List.getElem?_map]at hv;cases hb:s.data.toList[i]? with
     | none=>rw[hb]at hv;cases hv
     | some b=>
      rw[hb]at hv
      have hlt:i<s.size:=by
       have:=(List.getElem?_eq_some_iff.1 hb).1;simpa using this
      rw[Lib.bytesWorld_cell w el s i hlt];simp only[List.getD,hb];simpa using hv
   ·have hgc:=grownCap_ge w s.size 0 el
    have hcl:(Lib.bytesCells w el s).size=grownCap w s.size 0 el:=by
     simp only[Lib.bytesCells,Array.size_append,Array.size_map,Array.size_replicate];have:s.data.size=s.size:=rfl;omega
    have hbc:(Lib.bytesCells w el s).toList=Lib.strCells s++List.replicate (grownCap w s.size 0 el-s.size) (.int .u8 0):=by
     simp[Lib.bytesCells,Lib.strCells]
    have hsl:(Lib.strCells s).length=s.size:=by simp[Lib.strCells]
    have hib:∀l:J,(∀v∈l,∃n,v= .int .u8 n)→jbz l=true:=by
     intro l
     induction l with
     | nil=>intro _;rfl
     | cons v r ih=>
      intro hl;obtain⟨n,rfl⟩:=hl v Kh;exact ih fun x hx=>hl x (Kj _ hx)
    have hby:∀v∈(Lib.bytesCells w el s).toList,∃n,v= .int .u8 n:=fun v hv=>by
     rw[hbc]at hv;rcases Kq.1 hv with hv | hv
     ·simp only[Lib.strCells,KB]at hv;obtain⟨b,_,rfl⟩:=hv;exact⟨_,rfl⟩
     ·exact⟨0,(List.mem_replicate.1 hv).2⟩
    have hpl:ja1 (Lib.bytesCells w el s).toList=true:=ja7.2 fun v hv=>by
     obtain⟨n,rfl⟩:=hby v hv;rfl
    have hq:=h (grownCap w s.size 0 el) (Lib.bytesCells w el s).toList (by
     simp only[jly,jaf,Array.length_toList,hcl,Nat.beq_refl,Nat.ble_eq,jae,true_and];exact⟨hgc,hib _ hby,by rw[hbc,KI (by omega),Kw (by omega)];simp[Lib.strCells,Function.comp_def,cInt]⟩)
    have hbt:Nat.ble itTy (itTy+1+el)=true:=Nat.ble_eq_true_of_le (by omega)
    have hbq:Nat.beq (itTy+1+el) itTy=false:=by
     cases hb:Nat.beq (itTy+1+el) itTy with
     | false=>rfl
     | true=>have:=jah hb;omega
    have hm:=hrel.mem.newO (id:=n) (fun k b hk=> ?_) (b:=⟨(Lib.bytesCells w el s).toList,itTy+1+el,true⟩) rfl hpl (bytesWorld_below w el s) (by
     have e2:elTy (itTy+1+el)=el:=by
      unfold elTy;rw[hbt];exact(fun a b=>by omega:∀a b:Nat,a+1+b-a-1=b) itTy el
     have e3:∀k,frOf (itTy+1+el) k=(k,k+1):=fun k=>by unfold frOf;rw[hbt]
     rw[Lib.bytesWorld_at_new,objOf_any hbq];have e1:(Lib.bytesCells w el s).toList.map (ren ι)=(Lib.bytesCells w el s).toList:=by rw[←jb1];exact jb4 ι hpl
     simp only[e1,Array.length_toList,e2,e3])
    ·refine jcy (v:=oslc n 0 s.size (grownCap w s.size 0 el)) (rv:= .slice (some ⟨w.heap.size,0,none⟩) s.size (grownCap w s.size 0 el)) (m':=m.upd n ⟨(Lib.bytesCells w el s).toList,itTy+1+el,true⟩) (ι':=ι.upd n (w.heap.size,0)) (w':=Lib.bytesWorld w el s) hrel ?_ ?_ (fun k hk=>by simp[Nm.upd];omega) hm ?_ ?_ fun a' hr=>hK _ _ _ _ a' _ hq (Nat.le_succ n) (fun k hk=>by simp[Nm.upd];omega) hr
     ·simp only[execOp,hop,hx,hxv,ren];exact run_value (Lib.run_convert_string_bytes w tt tt' el s hd hd' hel)
     ·simp[oslc,ren,ren1,Nm.upd]
     ·intro k b hk;by_cases e:k=n
      ·subst e;rw[Lk.upd_same]at hk;cases hk;exact⟨Nat.lt_succ_self _,fun j hj=>by rw[jao hpl]at hj;cases hj⟩
      ·rw[Lk.upd_other _ _ e]at hk;obtain⟨q1,q2⟩:=hrel.wf.mem k b hk;exact⟨Ki q1,fun j hj=>Ki (q2 j hj)⟩
     ·simp[oslc,ids]
    ·obtain⟨q1,q2⟩:=hrel.wf.mem k b hk;exact⟨by omega,fun hj=>by have:=q2 _ hj;omega⟩
  ·exact h.elim
 ·exact h.elim
theorem freeze_heap(w:World)(a:Addr)(j:Nat):(w.freeze a 1).heap[j]?=if j=a.block then(w.heap[j]?).map (fun o=>match o with | .cells c el (lo,hi)=> .cells c el (if lo==hi then(a.off,a.off+1)else(min lo a.off,max hi (a.off+1))) | o=>o)else w.heap[j]?:=by
 have _:=tbs;unfold World.freeze;rw[Kc (by decide)];simp only[Array.getElem?_modify];by_cases h:a.block=j
 ·subst h;rw[Kd rfl,Kd rfl];cases w.heap[a.block]? with
  | none=>rfl
  | some o=>cases o<;>rfl
 ·rw[Kc h,Kc (fun q=>h q.symm)]
theorem freeze_cell(w:World)(a p:Addr):(w.freeze a 1).cell? p=w.cell? p:=by
 unfold World.cell?;rw[freeze_heap];by_cases h:p.block=a.block
 ·rw[Kd h];cases hh:w.heap[p.block]? with
  | none=>rfl
  | some o=>
   cases o with
   | cells c el fr=>obtain⟨lo,hi⟩:=fr;rfl
   | _=>rfl
 ·rw[Kc h]
theorem RelM.frozen(h:RelM N w0 m ι w){k:Nat}{b:Blk}(hk:m k=some b)(ho:b.own=true)(hit:Nat.ble itTy b.ty=false)(q:Nat):
  RelM N w0 (m.upd k ⟨b.c,b.ty,false⟩) ι (w.freeze ⟨(ι k).1,q,none⟩ 1):=by
 obtain⟨g1,g2,g3⟩:=h.blk k b hk ho
 have hsz:(w.freeze ⟨(ι k).1,q,none⟩ 1).heap.size=w.heap.size:=by
  unfold World.freeze;rw[Kc (by decide)];simp
 have hoth:∀j,j≠(ι k).1→(w.freeze ⟨(ι k).1,q,none⟩ 1).heap[j]?=w.heap[j]?:=fun j hj=>by rw[freeze_heap,Kc hj]
 have hget:∀j c,m.upd k ⟨b.c,b.ty,false⟩ j=some c→(j=k∧c=⟨b.c,b.ty,false⟩)∨(j≠k∧m j=some c):=fun j c hj=>by
  by_cases e:j=k
  ·subst e;rw[Lk.upd_same]at hj;cases hj;exact .inl ⟨rfl,rfl⟩
  ·rw[Lk.upd_other _ _ e]at hj;exact .inr ⟨e,hj⟩
 refine⟨⟨?_,?_,?_,?_,?_⟩,h.base,?_,?_,?_⟩
 ·rw[←h.below.os];unfold World.freeze;rw[Kc (by decide)]
 ·rw[←h.below.tape];unfold World.freeze;rw[Kc (by decide)]
 ·rw[←h.below.output];unfold World.freeze;rw[Kc (by decide)]
 ·rw[hsz];exact h.below.size
 ·intro j hj;rw[hoth j (by omega)];exact h.below.block j hj
 ·intro j c hj hc;rcases hget j c hj with⟨_,rfl⟩ | ⟨e,hj⟩
  ·cases hc
  ·obtain⟨q1,q2,q3⟩:=h.blk j c hj hc;refine⟨q1,q2,?_⟩;rw[hoth _ (h.inj j k c b hj hk hc e)];exact q3
 ·intro j c hj hc;rcases hget j c hj with⟨rfl,rfl⟩ | ⟨e,hj⟩
  ·refine⟨by rw[hsz];exact h.lt hk ho,fun i v hv=> ?_⟩;rw[freeze_cell,World.cell?,g3,objOf_cells hit,g1,Nat.zero_add];simp only[Option.isSome_none,Bool.false_eq_true,if_false];have hv:b.c[i]?=some v:=hv;simp[hv]
  ·obtain⟨q1,q2⟩:=h.view j c hj hc;refine⟨by rw[hsz];exact q1,fun i v hv=> ?_⟩;rw[freeze_cell];exact q2 i v hv
 ·intro j j' c c' hj hj' hc hne;rcases hget j c hj with⟨_,rfl⟩ | ⟨e,hj1⟩
  ·cases hc
  ·rcases hget j' c' hj' with⟨e',_⟩ | ⟨e',hj2⟩
   ·exact h.inj j j' c b hj1 (by rw[e'];exact hk) hc hne
   ·exact h.inj j j' c c' hj1 hj2 hc hne
theorem cst_real{tt tt':TypeId}{x:Operand}(hop:o.op= .convert tt tt' x)(hrel:RelS N w0 (· <n) nt t m ι a w)(hok:jb7 nt o=true){K:Tmps→Lk→Nat→Prop}
  (h:cstR P tt tt' x (ev t) m fun v m'=>K (tput t o.dst v) m' (n+1)) {K':Act→World→Prop} {Q:Exit→Act→World→Prop}
  (hK:∀t' m' n' ι' a' w',K t' m' n'→n≤n'→(∀k,k<n→ι' k=ι k)→RelS N w0 (· <n') nt t' m' ι' a' w'→K' a' w'):o.wp P a w K' Q:=by
 have hx:a.eval x=ren ι (ev t x):=hrel.eval (opndsOk_spec hok (by simp[hop,Op.operands]));have hxi:∀j∈ids (ev t x),j<n:=jcr hrel.wf hok (by simp[hop,Op.operands]);unfold cstR at h;split at h
 case h_2=>exact h.elim
 rename_i ad len cp hxv;split at h
 case h_2=>exact h.elim
 rename_i sp b el hsp hk hd;split at h
 case h_2=>exact h.elim
 rename_i hel;split at h
 case h_2=>exact h.elim
 rename_i hc;simp only[jaf,Ks]at hc;obtain⟨⟨ho,hit⟩,htt⟩:=hc;obtain rfl:=jah htt;obtain⟨g1,g2,g3⟩:=hrel.mem.blk _ b hk ho;rw[objOf_cells hit]at g3
 have hsh:w.shape? (ι ad.block).1=some (b.ty,(b.c.map (ren ι)).length):=by
  unfold World.shape?;rw[g3];simp
 refine jcy (v:= .slice (some ad) len cp) (rv:= .slice (some ⟨(ι ad.block).1,(ι ad.block).2+ad.off,none⟩) len cp) (m':=m.upd ad.block ⟨b.c,b.ty,false⟩) (ι':=ι) (w':=w.freeze ⟨(ι ad.block).1,(b.c.map (ren ι)).length,none⟩ 1) hrel ?_ ?_ (fun _ _=>rfl)
  (hrel.mem.frozen hk ho hit _) ?_ ?_ fun a' hr=>hK _ _ _ ι a' _ h (Nat.le_succ n) (fun _ _=>rfl) hr
 ·simp only[execOp,hop,hx,hxv,ren,ren1,hsp];refine run_value ?_;simp[convert,run_underlying hd,run_underlying hel,markStringish,hsh]
 ·simp[ren,ren1,hsp]
 ·intro k c hj;by_cases e:k=ad.block
  ·subst e;rw[Lk.upd_same]at hj;cases hj;obtain⟨q1,q2⟩:=hrel.wf.mem _ b hk;exact⟨Ki q1,fun j hj=>Ki (q2 j hj)⟩
  ·rw[Lk.upd_other _ _ e]at hj;obtain⟨q1,q2⟩:=hrel.wf.mem k c hj;exact⟨Ki q1,fun j hj=>Ki (q2 j hj)⟩
 ·intro j hj;exact Ki (hxi j (by rw[hxv];exact hj))
theorem mk_real{tt:TypeId}{l c:Operand}(hop:o.op= .makeSlice tt l c)(hrel:RelS N w0 (· <n) nt t m ι a w)(hok:jb7 nt o=true){K:Tmps→Lk→Nat→Prop}
  (h:mkR P tt l c (ev t) m n fun v m'=>K (tput t o.dst v) m' (n+1)) {K':Act→World→Prop} {Q:Exit→Act→World→Prop}
  (hK:∀t' m' n' ι' a' w',K t' m' n'→n≤n'→(∀k,k<n→ι' k=ι k)→RelS N w0 (· <n') nt t' m' ι' a' w'→K' a' w'):o.wp P a w K' Q:=by
 have hl:a.eval l=ren ι (ev t l):=hrel.eval (opndsOk_spec hok (by simp[hop,Op.operands]));have hc:a.eval c=ren ι (ev t c):=hrel.eval (opndsOk_spec hok (by simp[hop,Op.operands]));unfold mkR at h;split at h
 case h_2=>exact h.elim
 rename_i el ka na kb nb hd hlv hcv;split at h
 case h_2=>exact h.elim
 rename_i i hi;split at h
 case h_2=>exact h.elim
 rename_i z hz;split at h
 case h_2=>exact h.elim
 rename_i hp;split at h
 case h_2=>exact h.elim
 rename_i hq;simp only[jaf,Ks]at hp;obtain⟨hpz,hsz,hit⟩:=hp;have hsz:=jah hsz;simp only[cnd,jaf,jae,jb2]at hq;obtain⟨⟨h0,h1⟩,hf1,hf2⟩:=hq;have hf1:=jag hf1;have hf2:=jag hf2;have hpl:ja1 (zrow z nb.toNat)=true:=zeroCells_plain hpz nb.toNat;have hm:=hrel.mem.new (id:=n) (fun k b hk=>⟨by have:=(hrel.wf.mem k b hk).1;omega,fun hj=>by have:=(hrel.wf.mem k b hk).2 _ hj;omega⟩) (b:=⟨zrow z nb.toNat,el,true⟩) rfl (by simp[jao hpl])
 have hob:jcu ι ⟨zrow z nb.toNat,el,true⟩= .cells (madeCells z.cells (nb.toNat*i.size)) el:=by
  rw[objOf_cells hit];congr 1;have e:(zrow z nb.toNat).map (ren ι)=zrow z nb.toNat:=by rw[←jb1];exact jb4 ι hpl
  simp only[e];apply Array.ext';simp[zrow,Builtin.zeroCells,madeCells,hsz]
 rw[hob]at hm
 have hb64:(i.bytes:Int)*nb≤281474976710656:=by
  have e:(i.bytes:Int)*nb=((nb.toNat*i.bytes:Nat):Int):=by
   rw[Int.natCast_mul,Int.toNat_of_nonneg (by omega),Int.mul_comm]
  rw[e];omega
 refine jcy (v:=oslc n 0 na.toNat nb.toNat) (rv:= .slice (some ⟨w.heap.size,0,none⟩) na.toNat nb.toNat) (m':=m.upd n ⟨zrow z nb.toNat,el,true⟩) (ι':=ι.upd n (w.heap.size,0)) (w':=w.alloc (.cells (madeCells z.cells (nb.toNat*i.size)) el)) hrel ?_ ?_ (fun k hk=>by simp[Nm.upd];omega) hm ?_ ?_
  fun a' hr=>hK _ _ _ _ a' _ h (Nat.le_succ n) (fun k hk=>by simp[Nm.upd];omega) hr
 ·simp only[execOp,hop,hl,hc,hlv,hcv,ren];exact run_value (run_make w tt el i z hd hi hz ka kb na nb h0 h1 hb64 (by omega))
 ·simp[oslc,ren,ren1,Nm.upd]
 ·intro k b hk;by_cases e:k=n
  ·subst e;rw[Lk.upd_same]at hk;cases hk;exact⟨Nat.lt_succ_self _,fun j hj=>by simp only[jao hpl]at hj;cases hj⟩
  ·rw[Lk.upd_other _ _ e]at hk;obtain⟨q1,q2⟩:=hrel.wf.mem k b hk;exact⟨Ki q1,fun j hj=>Ki (q2 j hj)⟩
 ·simp[oslc,ids]
theorem bld_real{tt:TypeId}{parts:Array (Nat×Operand)}(hop:o.op= .build tt parts)(hrel:RelS N w0 (· <n) nt t m ι a w)(hok:jb7 nt o=true){K:Tmps→Lk→Nat→Prop}
  (h:bldR P tt parts (ev t) m fun v m'=>K (tput t o.dst v) m' (n+1)) {K':Act→World→Prop} {Q:Exit→Act→World→Prop}
  (hK:∀t' m' n' ι' a' w',K t' m' n'→n≤n'→(∀k,k<n→ι' k=ι k)→RelS N w0 (· <n') nt t' m' ι' a' w'→K' a' w'):o.wp P a w K' Q:=by
 unfold bldR at h;split at h
 case h_2=>exact h.elim
 rename_i it fields hit hu;split at h
 case h_2=>exact h.elim
 rename_i z places hz hpl;split at h
 case h_2=>exact h.elim
 rename_i hp;split at h
 case h_2=>exact h.elim
 rename_i cells hf
 have hpc:ja1 z.cells.toList=true:=ja7.2 fun v hv=>by
  have:=jbm hp;cases z<;>simp only[Value.cells,List.mem_singleton]at hv<;>first | (subst hv;exact hp) | exact ja7.1 hp v hv
 have hparts:(parts.map fun(q,x)=>(q,a.eval x)).toList=(parts.map fun(q,x)=>(q,ev t x)).toList.map fun p=>(p.1,ren ι p.2):=by
  simp only[Array.toList_map,List.map_map];refine Ku fun p hpm=> ?_
  obtain⟨q,x⟩:=p;have:a.eval x=ren ι (ev t x):=hrel.eval (opndsOk_spec hok (by simp only[hop,Op.operands];simp;exact⟨q,by simpa using hpm⟩));simp only[Function.comp,this]
 have hzc:z.cells=z.cells.map (ren ι):=by
  apply Array.ext';rw[Array.toList_map (f:=ren ι),←jb1,jb4 ι hpc]
 have hf':=jj0 (ren ι) (fun v=>by rw[jff];apply Array.ext';simp) (places.toArray[·]?) (parts.map fun(q,x)=>(q,ev t x)).toList z.cells;rw[←hzc,←hparts,hf,Option.map_some]at hf'
 have hb:P.built tt (parts.map fun(q,x)=>(q,a.eval x)).toList=some (cells.map (ren ι)):=by
  unfold Program.built;simp only[hit,hu,hz,hpl,hf']
 refine jcy (v:= .agg ⟨cells.toList⟩) (rv:= .agg (cells.map (ren ι))) (m':=m) (ι':=ι) (w':=w) hrel ?_ ?_ (fun _ _=>rfl) hrel.mem (fun q b hq=> ?_) (fun j hj=> ?_) fun a' hr=>hK _ _ _ ι a' _ h (Nat.le_succ n) (fun _ _=>rfl) hr
 ·simp only[execOp,hop,Sem.run_bind,run_build w tt _ _ hb,Result.andThen_ok];rfl
 ·have e:cells.map (ren ι)=⟨cells.toList.map (ren ι)⟩:=by apply Array.ext';simp
  rw[e];simp only[ren,jb1]
 ·obtain⟨h1,h2⟩:=hrel.wf.mem q b hq;exact⟨Ki h1,fun j hj=>Ki (h2 j hj)⟩
 ·have hj:j∈idsL cells.toList:=hj;obtain⟨v,hv,hjv⟩:=jay.1 hj;rcases fill_mem _ _ _ _ hf v hv with hv | ⟨p,hpm,hv⟩
  ·rw[jbm (ja7.1 hpc v hv)]at hjv;cases hjv
  ·simp only[Array.toList_map,KB]at hpm;obtain⟨⟨q,x⟩,hpm,rfl⟩:=hpm
   have hjx:j∈ids (ev t x):=by
    rw[←jc4];exact jay.2 ⟨v,hv,hjv⟩
   exact Ki (jcr hrel.wf hok (x:=x) (by simp only[hop,Op.operands];simp;exact⟨q,by simpa using hpm⟩) j hjx)
theorem fld_real{tt:TypeId}{x:Operand}{i:Nat}(hop:o.op= .field tt x i)(hrel:RelS N w0 (· <n) nt t m ι a w)(hok:jb7 nt o=true){K:Tmps→Lk→Nat→Prop}
  (h:fldR P tt x i (ev t) m fun v m'=>K (tput t o.dst v) m' (n+1)) {K':Act→World→Prop} {Q:Exit→Act→World→Prop}
  (hK:∀t' m' n' ι' a' w',K t' m' n'→n≤n'→(∀k,k<n→ι' k=ι k)→RelS N w0 (· <n') nt t' m' ι' a' w'→K' a' w'):o.wp P a w K' Q:=by
 have hx:a.eval x=ren ι (ev t x):=hrel.eval (opndsOk_spec hok (by simp[hop,Op.operands]));unfold fldR at h;split at h
 case h_2=>exact h.elim
 rename_i fs l hu hxv;split at h
 case h_2=>exact h.elim
 rename_i f hf;split at h
 case h_2=>exact h.elim
 rename_i d hd;split at h
 case h_2=>exact h.elim
 rename_i v hag hv;refine jcy (v:=v) (m':=m) (ι':=ι) (w':=w) hrel ?_ rfl (fun _ _=>rfl) hrel.mem (fun q b hq=> ?_) (fun j hj=> ?_) fun a' hr=>hK _ _ _ ι a' _ h (Nat.le_succ n) (fun _ _=>rfl) hr
 ·have hl:(l.map (ren ι))[f.offset]?=some (ren ι v):=by simp[hv]
  have hna:(isAgg f.type).run P w= .ok false w:=by
   unfold jig at hag;split at hag
   ·cases hag
   ·cases hag
   ·rename_i h1 h2;cases d<;>first | (exact(h1 _ rfl).elim) | (exact(h2 _ _ rfl).elim) | simp[isAgg,underlying,hd,Result.andThen]
  simp only[execOp,hop,hx,hxv,ren,jb1,Instr.field];simp[underlying,hu,hf,asAgg,part,hna,hv,Result.andThen]
 ·obtain⟨h1,h2⟩:=hrel.wf.mem q b hq;exact⟨Ki h1,fun j hj=>Ki (h2 j hj)⟩
 ·have hjx:j∈ids (ev t x):=by
   rw[hxv];exact jay.2 ⟨v,List.mem_of_getElem? hv,hj⟩
  exact Ki (jcr hrel.wf hok (x:=x) (by simp[hop,Op.operands]) j hjx)
theorem ext_skip(hrel:RelS N w0 (· <n) nt t m ι a w){K':Act→World→Prop}{Q:Exit→Act→World→Prop}{m':Lk}{ι':Nm}{w':World}
  (hr:(execOp a.eval o).run P w= .ok .skip w') (hι:∀k,k<n→ι' k=ι k) (hm:RelM N w0 m' ι' w')
  (hwf:∀k b,m' k=some b→k<n+1∧ ∀j∈idsL b.c,j<n+1)
  (hK:∀a',RelS N w0 (· <n+1) nt (tput t o.dst undef) m' ι' a' w'→K' a' w'):o.wp P a w K' Q:=by
 refine wp_skip_op hr (hK _ ⟨?_,by rw[put_defers];exact hrel.defers,hm,⟨fun i hi j hj=> ?_,hwf⟩⟩)
 ·rw[put_tmps,hrel.tmps,Tm_congr (ι':=ι') fun i hi k hk=>(hι k (hrel.wf.tmps i hi k hk)).symm];have:=jjd t ι' nt o.dst undef;simpa[undef,ren,renL]using this
 ·cases hd:o.dst with
  | none=>rw[hd]at hj;have:=hrel.wf.tmps i hi j hj;omega
  | some d=>
   rw[hd,tput_get]at hj;split at hj
   ·simp[undef,ids,idsL]at hj
   ·have:=hrel.wf.tmps i hi j hj;omega
theorem map_real{tt:TypeId}(hop:o.op= .makeMap tt none)(hrel:RelS N w0 (· <n) nt t m ι a w)(hok:jb7 nt o=true){K:Tmps→Lk→Nat→Prop}
  (h:mapR m n fun v m'=>K (tput t o.dst v) m' (n+1)) {K':Act→World→Prop} {Q:Exit→Act→World→Prop}
  (hK:∀t' m' n' ι' a' w',K t' m' n'→n≤n'→(∀k,k<n→ι' k=ι k)→RelS N w0 (· <n') nt t' m' ι' a' w'→K' a' w'):o.wp P a w K' Q:=by
 unfold mapR at h;have hm:=hrel.mem.new (id:=n) (fun k b hk=>⟨by have:=(hrel.wf.mem k b hk).1;omega,fun hj=>by have:=(hrel.wf.mem k b hk).2 _ hj;omega⟩) (b:=⟨[.bool true],itTy,true⟩) rfl (by simp[idsL,ids]);have hob:jcu ι ⟨[.bool true],itTy,true⟩= .map #[] 0:=rfl;rw[hob]at hm
 refine jcy (v:= .chan (some n)) (rv:= .map (some w.heap.size)) (m':=m.upd n ⟨[.bool true],itTy,true⟩) (ι':=ι.upd n (w.heap.size,0)) (w':=w.alloc (.map #[] 0)) hrel ?_ ?_ (fun k hk=>by simp[Nm.upd];omega) hm ?_ ?_
  fun a' hr=>hK _ _ _ _ a' _ h (Nat.le_succ n) (fun k hk=>by simp[Nm.upd];omega) hr
 ·simp only[execOp,hop];refine run_value ?_;simp[Instr.makeMap,newObj];rfl
 ·simp[ren,Nm.upd]
 ·intro k b hk;by_cases e:k=n
  ·subst e;rw[Lk.upd_same]at hk;cases hk;exact⟨Nat.lt_succ_self _,fun j hj=>by simp[idsL,ids]at hj⟩
  ·rw[Lk.upd_other _ _ e]at hk;obtain⟨q1,q2⟩:=hrel.wf.mem k b hk;exact⟨Ki q1,fun j hj=>Ki (q2 j hj)⟩
 ·simp[ids]
omit [Tabs] in
theorem mapEs_app{kd:IntKind}{i:Int}{ι:Nm}(k v:Value):∀(l:J)(n:Nat),jfi kd i l=some none→jdy ι (l++ [k,v]) n=jdy ι l n++ [{key:=ren ι k,val:=ren ι v,born:=n+l.length/2}]
 | [],n,_=>by simp[jdy]
 | [u],n,h=>by cases u<;>simp[jfi]at h
 | .int kd' j::u::r,n,h=>by
  simp only[jfi]at h;split at h
  ·split at h
   ·simp at h
   ·have:=mapEs_app (ι:=ι) k v r (n+1) h;simp only[List.cons_append,jdy,this,List.length_cons];have e:n+1+r.length/2=n+(r.length+1+1)/2:=by omega
    rw[e]
  ·cases h
 | .bool _::_::_,_,h | .float _ _::_::_,_,h | .complex _ _ _::_::_,_,h | .string _::_::_,_,h | .pointer _::_::_,_,h | .slice _ _ _::_::_,_,h | .map _::_::_,_,h | .chan _::_::_,_,h | .func _ _ _::_::_,_,h | .nilFunc::_::_,_,h
 | .iface _ _::_::_,_,h | .nilIface::_::_,_,h | .agg _::_::_,_,h | .tuple _::_::_,_,h=>by simp[jfi]at h
theorem ins_real{tt:TypeId}{x k y:Operand}(hop:o.op= .insert tt x k y)(hrel:RelS N w0 (· <n) nt t m ι a w)(hok:jb7 nt o=true){K:Tmps→Lk→Nat→Prop}
  (h:insR P tt x k y (ev t) m fun v m'=>K (tput t o.dst v) m' (n+1)) {K':Act→World→Prop} {Q:Exit→Act→World→Prop}
  (hK:∀t' m' n' ι' a' w',K t' m' n'→n≤n'→(∀k,k<n→ι' k=ι k)→RelS N w0 (· <n') nt t' m' ι' a' w'→K' a' w'):o.wp P a w K' Q:=by
 have hx:a.eval x=ren ι (ev t x):=hrel.eval (opndsOk_spec hok (by simp[hop,Op.operands]));have hk:a.eval k=ren ι (ev t k):=hrel.eval (opndsOk_spec hok (by simp[hop,Op.operands]));have hy:a.eval y=ren ι (ev t y):=hrel.eval (opndsOk_spec hok (by simp[hop,Op.operands]));have hyi:=jcr hrel.wf hok (x:=y) (by simp[hop,Op.operands]);unfold insR at h;split at h
 case h_2=>exact h.elim
 rename_i kt et j kd i ht hxv hkv;split at h
 case h_2=>exact h.elim
 rename_i ik b hkt hj;split at h
 case h_2=>exact h.elim
 rename_i q r ho hc;split at h
 case h_2=>exact h.elim
 rename_i hq;simp only[jaf]at ho;obtain⟨g1,g2,g3⟩:=hrel.mem.blk j b hj ho.1
 have hob:jcu ι b= .map ⟨jdy ι r 0⟩ (r.length/2):=by
  simp only[jcu,ho.2,jla,hc,jeh];rfl
 rw[hob]at g3;have hget:(getObj (ι j).1).run P w= .ok (.map ⟨jdy ι r 0⟩ (r.length/2)) w:=by simp[getObj,Sem.run,g3]
 have hset:∀ob,(setObj (ι j).1 ob).run P w= .ok () {w with heap:=w.heap.setIfInBounds (ι j).1 ob}:=fun ob=>by simp[setObj,Sem.run,g3]
 have hlk:=hrel.mem.lt hj ho.1;have hck:∀em,(Instr.checkKey em 10000 kt (.int kd i)).run P w= .ok () w:=fun em=>checkKey_int (P:=P) (w:=w) hkt em 9999
 obtain⟨fo,f1,f2⟩:=jg3 (ι:=ι) (k:=ik) r 0 0 none hq;have f2:fo=none:=by cases fo with | none=>rfl | some _=>cases f2
 subst f2;have hfind:(Instr.findKey kt (.int kd i) (jdy ι r 0)).run P w= .ok none w:=by simp[Instr.findKey,run_underlying hkt,f1]
 have hob2:jcu ι ⟨.bool q::(r++ [.int kd i,ev t y]),itTy,true⟩= .map ⟨jdy ι r 0++ [{key:= .int kd i,val:=ren ι (ev t y),born:=r.length/2}]⟩ (r.length/2+1):=by
  have e1:jcu ι ⟨.bool q::(r++ [.int kd i,ev t y]),itTy,true⟩= .map ⟨jdy ι (r++ [.int kd i,ev t y]) 0⟩ ((r++ [.int kd i,ev t y]).length/2):=rfl;rw[e1,mapEs_app _ _ r 0 hq];have e2:(r++ [.int kd i,ev t y]).length/2=r.length/2+1:=by simp
  rw[e2];simp[ren]
 refine ext_skip (m':=m.upd j ⟨.bool q::(r++ [.int kd i,ev t y]),itTy,true⟩) (ι':=ι) (w':={w with heap:=w.heap.setIfInBounds (ι j).1 (.map ⟨jdy ι r 0++ [{key:= .int kd i,val:=ren ι (ev t y),born:=r.length/2}]⟩ (r.length/2+1))}) hrel ?_ (fun _ _=>rfl)
  (hrel.mem.put hj ho.1 rfl ⟨rfl,rfl,rfl,by simp⟩ (fun j' hj'=>by simp[Array.getElem?_setIfInBounds,Ne.symm hj']) (by rw[hob2];simp[Array.getElem?_setIfInBounds,hlk])) ?_ fun a' hr=>hK _ _ _ ι a' _ h (Nat.le_succ n) (fun _ _=>rfl) hr
 ·simp[execOp,hop,hx,hk,hy,hxv,hkv,ren,Instr.mapUpdate,run_underlying ht,hget,hck,hfind,hset]
 ·intro p c hp;by_cases e:p=j
  ·subst e;rw[Lk.upd_same]at hp;cases hp;obtain⟨q1,q2⟩:=hrel.wf.mem _ b hj;refine⟨Ki q1,fun j' hj'=> ?_⟩;simp only[idsL,ids,List.nil_append]at hj';obtain⟨v,hv,hjv⟩:=jay.1 hj';simp only[Kq,Kg,List.not_mem_nil,or_false]at hv;rcases hv with hv | rfl | rfl
   ·exact Ki (q2 j' (by rw[hc];exact jay.2 ⟨v,by simp[hv],hjv⟩))
   ·simp[ids]at hjv
   ·exact Ki (hyi j' hjv)
  ·rw[Lk.upd_other _ _ e]at hp;obtain⟨q1,q2⟩:=hrel.wf.mem p c hp;exact⟨Ki q1,fun j hj=>Ki (q2 j hj)⟩
theorem ext_real(hrel:RelS N w0 (· <n) nt t m ι a w)(hok:jb7 nt o=true){K:Tmps→Lk→Nat→Prop}
  (h:extR P o (ev t) m n fun v m'=>K (tput t o.dst v) m' (n+1)) {K':Act→World→Prop} {Q:Exit→Act→World→Prop}
  (hK:∀t' m' n' ι' a' w',K t' m' n'→n≤n'→(∀k,k<n→ι' k=ι k)→RelS N w0 (· <n') nt t' m' ι' a' w'→K' a' w'):o.wp P a w K' Q:=by
 unfold extR at h;split at h
 ·rename_i c hop;split at h
  ·rename_i x y t1 t2 hc ha ht;exact app_real hop hc ha ht hrel hok h hK
  ·exact h.elim
 ·rename_i x hop;exact next_real hop hrel hok h hK
 ·rename_i tt x ix hop;exact idx_real hop hrel hok h hK
 ·rename_i tt tt' x hop;unfold cvR at h;split at h
  ·exact s2b_real hop hrel hok h hK
  ·exact cst_real hop hrel hok h hK
 ·rename_i tt x hop;exact ld_real hop hrel hok h hK
 ·rename_i tt l c hop;exact mk_real hop hrel hok h hK
 ·rename_i tt parts hop;exact bld_real hop hrel hok h hK
 ·rename_i tt x i hop;exact fld_real hop hrel hok h hK
 ·rename_i tt hop;exact map_real hop hrel hok h hK
 ·rename_i tt x k y hop;exact ins_real hop hrel hok h hK
 ·exact h.elim
end
end Go.Ab
