/-
  Ab4: the run and laws.
-/
import Derived.Test.YtiahilhlpmohoaaGreatDoorS1Ab3
set_option linter.unusedVariables false
set_option linter.unusedSimpArgs false
set_option linter.unusedSectionVars false
noncomputable section
namespace Go.Ab
open Go Go.RowKit
variable [Tabs]
section
variable {P : Program} {G : Env} {o : Oper} {e : Operand → Value} {lk : Lk} {r : Res} {a : Act} {ι : Nm} {N : Nat} {w0 w : World}
theorem wp_skip_op{K:Act→World→Prop}{Q:Exit→Act→World→Prop}{w':World}(h:(execOp a.eval o).run P w= .ok .skip w')(hK:K (a.put o.dst undef) w'):o.wp P a w K Q:=by
 have _:=tbs;unfold Oper.wp;rw[h,Oper.upon_skip];exact hK
theorem wp_value'{K:Act→World→Prop}{Q:Exit→Act→World→Prop}{v:Value}{w':World}(h:(execOp a.eval o).run P w= .ok (.value v) w')(hK:K (a.put o.dst v) w'):o.wp P a w K Q:=by
 have _:=tbs;unfold Oper.wp;rw[h,Oper.upon_value];exact hK
theorem run_value{s:Sem Value}{v:Value}{w w':World}(h:s.run P w= .ok v w'):(do pure (.value (←s)):Sem Next).run P w= .ok (.value v) w':=by
 have _:=tbs;simp only[Sem.run_bind,h,Result.andThen_ok];rfl
theorem jmn{id:Nat}(hm:RelM N w0 lk ι w)(hid:∀k b,lk k=some b→k≠id∧id∉idsL b.c){b:Blk}(ho:b.own=true)(hit:Nat.ble itTy b.ty=false)(hb:id∉idsL b.c)
  {K:Act→World→Prop} {Q:Exit→Act→World→Prop} {v:Value} {rv:Value}
  (hr:(execOp a.eval o).run P w= .ok (.value rv) (w.alloc (.cells ⟨b.c.map (ren ι)⟩ b.ty))) (hrv:ren (ι.upd id (w.heap.size,0)) v=rv)
  (hK:∀ι' w',(∀k,k≠id→ι' k=ι k)→RelM N w0 (lk.upd id b) ι' w'→K (a.put o.dst (ren ι' v)) w'):o.wp P a w K Q:=by
 refine wp_value' hr ?_;rw[←hrv];have g:=hm.new hid ho hb;rw[objOf_cells hit]at g;exact hK _ _ (fun k hk=>by simp[Nm.upd,hk]) g
theorem plain_cells{z:Value}(h:plain z=true)(ι:Nm):z.cells.toList.map (ren ι)=z.cells.toList:=by
 have h1:idsL z.cells.toList=[]:=by rw[jc4];exact jbm h
 have:=renMap_congr (ι:=ι) (ι':=ι) (l:=z.cells.toList) (fun _ _=>rfl);cases z with
 | agg c=>obtain⟨l⟩:=c;simpa[Value.cells,jb1]using jb4 ι (l:=l) (by simpa[plain]using h)
 | pointer p=>cases p<;>simp[Value.cells,ja9 ι h]
 | slice p l c=>cases p<;>simp[Value.cells,ja9 ι h]
 | tuple c=>simp[Value.cells,ja9 ι h]
 | func f a b=>simp[Value.cells,ja9 ι h]
 | iface t v=>simp[Value.cells,ja9 ι h]
 | chan a=>simp[Value.cells,ja9 ι h]
 | _=>simp[Value.cells,ren]
theorem jfk(d:Nat){l q:J}:∀{fs:List Field}{r:Bool},eqF P l q fs=some r→(Op.eqFields (d+1) ⟨l⟩ ⟨q⟩ fs).run P w= .ok r w
 | [],r,h=>by
  simp only[eqF,Kb]at h;subst h;simp[Op.eqFields]
 | f::fs,r,h=>by
  have pt:∀{c:J}{u:Value}{dd:TypeDesc},P.underlying f.type=some dd→jig dd=false→c[f.offset]?=some u→(part f.type ⟨c⟩ f.offset).run P w= .ok u w:=fun{c u dd} hd ha hc=>by
   have:=isAgg_of (P:=P) hd w;rw[ha]at this;simp[part,this,hc]
  simp only[eqF]at h;split at h
  ·rename_i hn
   have hn' : f.name = "_" := by simpa using hn
   simp only[Op.eqFields,hn',ne_eq,not_true_eq_false,if_false];exact jfk d h
  ·rename_i hn
   have hn' : f.name ≠ "_" := by simpa using hn
   simp only[Op.eqFields,hn',ne_eq,not_false_eq_true,if_true,Sem.run_bind];split at h
   ·rename_i kd k a k' b hd h1 h2;split at h
    ·rename_i qq hk hr;cases h;have hk':k=k':=by simpa using hk
     subst hk';rw[pt hd rfl h1];simp only[Result.andThen_ok];rw[pt hd rfl h2];simp only[Result.andThen_ok];rw[run_equalIn_int w d f.type k kd a b hd];simp only[Result.andThen_ok];cases hab:(a==b)
     ·simp
     ·simp[jfk d hr]
    ·cases h
   ·rename_i a b hd h1 h2;split at h
    ·rename_i qq hr;cases h;rw[pt hd rfl h1];simp only[Result.andThen_ok];rw[pt hd rfl h2];simp only[Result.andThen_ok];rw[run_equalIn_bool' w d f.type a b hd];simp only[Result.andThen_ok];cases hab:(a==b)
     ·simp
     ·simp[jfk d hr]
    ·cases h
   ·rename_i a b hd h1 h2;split at h
    ·rename_i qq hr;cases h;rw[pt hd rfl h1];simp only[Result.andThen_ok];rw[pt hd rfl h2];simp only[Result.andThen_ok];rw[run_equalIn_string w d f.type a b hd];simp only[Result.andThen_ok];cases hab:(a.toList==b.toList)
     ·simp
     ·simp[jfk d hr]
    ·cases h
   ·cases h
theorem eqF_ren:∀{l q:J}{fs:List Field}{r:Bool},eqF P l q fs=some r→eqF P (l.map (ren ι)) (q.map (ren ι)) fs=some r
 | l,q,[],r,h=>by have _:=tbs;simpa[eqF]using h
 | l,q,f::fs,r,h=>by
  have gt:∀{c:J}{u:Value}(i:Nat),c[i]?=some u→plain u=true→(c.map (ren ι))[i]?=some u:=fun{c u} i hc hp=>by
   rw[List.getElem?_map,hc];simp[ja9 ι hp]
  simp only[eqF]at h ⊢;split at h
  ·rename_i hn;exact eqF_ren h
  ·rename_i hn;split at h
   ·rename_i kd k a k' b hd h1 h2;split at h
    ·rename_i qq hk hr;cases h;rw[hd,gt _ h1 rfl,gt _ h2 rfl];simp only[hk,eqF_ren hr]
    ·cases h
   ·rename_i a b hd h1 h2;split at h
    ·rename_i qq hr;cases h;rw[hd,gt _ h1 rfl,gt _ h2 rfl];simp only[eqF_ren hr]
    ·cases h
   ·rename_i a b hd h1 h2;split at h
    ·rename_i qq hr;cases h;rw[hd,gt _ h1 rfl,gt _ h2 rfl];simp only[eqF_ren hr]
    ·cases h
   ·cases h
theorem eqAgg_sound{t:TypeId}{l q:J}{r:Bool}(h:jnv P t l q=some r)(op:BinOp)(x y:Operand):
  (eqGuard op t x y (ren ι (.agg ⟨l⟩)) (ren ι (.agg ⟨q⟩))).run P w= .ok () w∧(Op.equalIn 10000 t (ren ι (.agg ⟨l⟩)) (ren ι (.agg ⟨q⟩))).run P w= .ok r w:=by
 unfold jnv at h;split at h
 ·rename_i fs hd hs hg;have hfo:P.fieldsOf t=fs:=by simp[Program.fieldsOf,hd]
  simp only[ren,jb1];refine⟨run_eqGuard_agg w op t x y _ _ hg,?_⟩;rw[run_equalIn_struct w 9999 t _ _ (by rw[hfo];exact hd) hs,hfo];exact jfk 9998 (eqF_ren h)
 ·cases h
theorem depth_succ:∃d,Op.maxDepth=d+1:=have _:=tbs;⟨Op.maxDepth-1,rfl⟩
theorem equal_slice_none{t el:TypeId}(hd:P.underlying t=some (.slice el))(a:Addr)(n c n' c':Nat)(w:World):(Op.equal t (.slice (some a) n c) (.slice none n' c')).run P w= .ok false w:=by
 obtain⟨d,e⟩:=depth_succ;rw[Op.equal,e];simp only[Op.equalIn,Sem.run_bind,run_underlying hd,Result.andThen_ok,Sem.run_pure]
theorem guard_eql_slice{t:TypeId}{p q:Operand}(a:Addr)(n c n' c':Nat)(w:World):(eqGuard .eql t p q (.slice (some a) n c) (.slice none n' c')).run P w= .ok () w:=have _:=tbs;rfl
theorem run_eql_slice_none{t el:TypeId}(hd:P.underlying t=some (.slice el))(a:Addr)(n c n' c':Nat)(w:World):(binOp .eql t (.slice (some a) n c) (.slice none n' c')).run P w= .ok (.bool false) w:=by
 have e:binOp .eql t (.slice (some a) n c) (.slice none n' c')=(do pure (.bool (←Op.equal t (.slice (some a) n c) (.slice none n' c')))):=rfl;rw[e];simp only[Sem.run_bind,equal_slice_none hd,Result.andThen_ok,Sem.run_pure,Bool.not_false]
theorem guard_neq_slice{t:TypeId}{p q:Operand}(a:Addr)(n c n' c':Nat)(w:World):(eqGuard .neq t p q (.slice (some a) n c) (.slice none n' c')).run P w= .ok () w:=have _:=tbs;rfl
theorem run_neq_slice_none{t el:TypeId}(hd:P.underlying t=some (.slice el))(a:Addr)(n c n' c':Nat)(w:World):(binOp .neq t (.slice (some a) n c) (.slice none n' c')).run P w= .ok (.bool true) w:=by
 have e:binOp .neq t (.slice (some a) n c) (.slice none n' c')=(do pure (.bool (!(←Op.equal t (.slice (some a) n c) (.slice none n' c'))))):=rfl;rw[e];simp only[Sem.run_bind,equal_slice_none hd,Result.andThen_ok,Sem.run_pure,Bool.not_false]
theorem equal_pointer_none{t el:TypeId}(hd:P.underlying t=some (.pointer el))(a:Addr)(w:World):(Op.equal t (.pointer (some a)) (.pointer none)).run P w= .ok false w:=by
 obtain⟨d,e⟩:=depth_succ;rw[Op.equal,e];simp only[Op.equalIn,Sem.run_bind,run_underlying hd,Result.andThen_ok,Sem.run_pure]
theorem guard_eql_pointer{t:TypeId}{p q:Operand}(a:Addr)(w:World):(eqGuard .eql t p q (.pointer (some a)) (.pointer none)).run P w= .ok () w:=have _:=tbs;rfl
theorem run_eql_pointer_none{t el:TypeId}(hd:P.underlying t=some (.pointer el))(a:Addr)(w:World):(binOp .eql t (.pointer (some a)) (.pointer none)).run P w= .ok (.bool false) w:=by
 have e:binOp .eql t (.pointer (some a)) (.pointer none)=(do pure (.bool (←Op.equal t (.pointer (some a)) (.pointer none)))):=rfl;rw[e];simp only[Sem.run_bind,equal_pointer_none hd,Result.andThen_ok,Sem.run_pure,Bool.not_false]
theorem guard_neq_pointer{t:TypeId}{p q:Operand}(a:Addr)(w:World):(eqGuard .neq t p q (.pointer (some a)) (.pointer none)).run P w= .ok () w:=have _:=tbs;rfl
theorem run_neq_pointer_none{t el:TypeId}(hd:P.underlying t=some (.pointer el))(a:Addr)(w:World):(binOp .neq t (.pointer (some a)) (.pointer none)).run P w= .ok (.bool true) w:=by
 have e:binOp .neq t (.pointer (some a)) (.pointer none)=(do pure (.bool (!(←Op.equal t (.pointer (some a)) (.pointer none))))):=rfl;rw[e];simp only[Sem.run_bind,equal_pointer_none hd,Result.andThen_ok,Sem.run_pure,Bool.not_false]
theorem equal_func_none{t:TypeId}{x y:Array TypeId}{z:Bool}(hd:P.underlying t=some (.func x y z))(f:Fn)(b c:Array Value)(w:World):(Op.equal t (.func f b c) .nilFunc).run P w= .ok false w:=by
 obtain⟨d,e⟩:=depth_succ;rw[Op.equal,e];simp only[Op.equalIn,Sem.run_bind,run_underlying hd,Result.andThen_ok,Sem.run_pure]
theorem guard_eql_func{t:TypeId}{p q:Operand}(f:Fn)(b c:Array Value)(w:World):(eqGuard .eql t p q (.func f b c) .nilFunc).run P w= .ok () w:=have _:=tbs;rfl
theorem guard_neq_func{t:TypeId}{p q:Operand}(f:Fn)(b c:Array Value)(w:World):(eqGuard .neq t p q (.func f b c) .nilFunc).run P w= .ok () w:=have _:=tbs;rfl
theorem run_eql_func_none{t:TypeId}{x y:Array TypeId}{z:Bool}(hd:P.underlying t=some (.func x y z))(f:Fn)(b c:Array Value)(w:World):(binOp .eql t (.func f b c) .nilFunc).run P w= .ok (.bool false) w:=by
 have e:binOp .eql t (.func f b c) .nilFunc=(do pure (.bool (←Op.equal t (.func f b c) .nilFunc))):=rfl;rw[e];simp only[Sem.run_bind,equal_func_none hd,Result.andThen_ok,Sem.run_pure,Bool.not_false]
theorem run_neq_func_none{t:TypeId}{x y:Array TypeId}{z:Bool}(hd:P.underlying t=some (.func x y z))(f:Fn)(b c:Array Value)(w:World):(binOp .neq t (.func f b c) .nilFunc).run P w= .ok (.bool true) w:=by
 have e:binOp .neq t (.func f b c) .nilFunc=(do pure (.bool (!(←Op.equal t (.func f b c) .nilFunc)))):=rfl;rw[e];simp only[Sem.run_bind,equal_func_none hd,Result.andThen_ok,Sem.run_pure,Bool.not_false]
theorem binR_sound{id:Nat}{op:BinOp}{xt yt:TypeId}{x y:Operand}(hop:o.op= .binOp op xt x y yt)(h:binR P o e op xt x y=some (true,r))(he:∀x∈o.op.operands,a.eval x=ren ι (e x))(hm:RelM N w0 lk ι w)
  {K:Act→World→Prop} {Q:Exit→Act→World→Prop}
  (hK:∀ι' w',(∀k,k≠id→ι' k=ι k)→RelM N w0 (jc5 id r lk) ι' w'→K (a.put o.dst (ren ι' (resV id r))) w'):o.wp P a w K Q:=by
 have hx:a.eval x=ren ι (e x):=he x (by simp[hop,Op.operands]);have hy:a.eval y=ren ι (e y):=he y (by simp[hop,Op.operands]);have hs:∀cs b,o.op≠ .select cs b:=fun cs b=>by rw[hop];simp
 unfold binR at h;split at h
 ·rename_i k u k' v hu hv;split at h
  ·rename_i hk;simp only[Kb,Ke,jae]at h;obtain⟨hne,rfl⟩:=h;have hk':k=k':=by simpa using hk
   refine wp_value (v:= .int k (k.wrap (u.tdiv v))) ?_ (by have:=hK ι w (fun _ _=>rfl) hm;simpa only[resV,ren]using this);simp only[execOp,hop,hx,hy,hu,hv,ren,eqGuard,binOp,←hk'];simp[Op.intDiv,hne]
  ·cases h
 ·rename_i k u k' v hu hv;split at h
  ·rename_i hk;simp only[Kb,Ke,jae]at h;obtain⟨hne,rfl⟩:=h;have hk':k=k':=by simpa using hk
   refine wp_value (v:= .int k (u.tmod v)) ?_ (by have:=hK ι w (fun _ _=>rfl) hm;simpa only[resV,ren]using this);simp only[execOp,hop,hx,hy,hu,hv,ren,eqGuard,binOp,←hk'];simp[Op.intDiv,hne]
  ·cases h
 ·rename_i k u k' v hu hv;simp only[Kb,Ke,jae]at h;obtain⟨hne,rfl⟩:=h;refine wp_value (v:= .int k (k.wrap (u*2^min v.toNat k.bits))) ?_ (by have:=hK ι w (fun _ _=>rfl) hm;simpa only[resV,ren]using this);have hne':¬v<0:=by omega
  simp only[execOp,hop,hx,hy,hu,hv,ren,eqGuard,binOp];simp[Op.shift,hne']
 ·rename_i k u k' v hu hv;simp only[Kb,Ke,jae]at h;obtain⟨hne,rfl⟩:=h;refine wp_value (v:= .int k (u.fdiv (2^min v.toNat k.bits))) ?_ (by have:=hK ι w (fun _ _=>rfl) hm;simpa only[resV,ren]using this);have hne':¬v<0:=by omega
  simp only[execOp,hop,hx,hy,hu,hv,ren,eqGuard,binOp];simp[Op.shift,hne']
 ·rename_i u v hu hv;simp only[Kb,Ke,jae]at h;obtain⟨hne,rfl⟩:=h;refine wp_value (v:= .string (u++v)) ?_ (by have:=hK ι w (fun _ _=>rfl) hm;simpa only[resV,ren]using this);have hne':¬(((u.size+v.size:Nat):Int)>IntKind.i64.max):=by have:=strFit_spec hne;omega
  simp only[execOp,hop,hx,hy,hu,hv,ren,eqGuard,binOp,Op.stringOp];rw[Kc hne'];simp
 ·rename_i l q hu hv;split at h
  ·rename_i bb hb;simp only[Kb,Ke,true_and]at h;subst h;obtain⟨h1,h2⟩:=eqAgg_sound (ι:=ι) (w:=w) hb .eql x y;refine wp_value (v:= .bool bb) ?_ (by have:=hK ι w (fun _ _=>rfl) hm;simpa only[resV,ren]using this);simp only[execOp,hop,hx,hy,hu,hv,Sem.run_bind,h1,Result.andThen_ok];simp only[ren]at h2 ⊢;rw[run_eql_struct,h2];simp
  ·cases h
 ·rename_i l q hu hv;split at h
  ·rename_i bb hb;simp only[Kb,Ke,true_and]at h;subst h;obtain⟨h1,h2⟩:=eqAgg_sound (ι:=ι) (w:=w) hb .neq x y;refine wp_value (v:= .bool !bb) ?_ (by have:=hK ι w (fun _ _=>rfl) hm;simpa only[resV,ren]using this);simp only[execOp,hop,hx,hy,hu,hv,Sem.run_bind,h1,Result.andThen_ok];simp only[ren]at h2 ⊢;rw[run_neq_struct,h2];simp
  ·cases h
 ·rename_i ad n1 c1 n2 c2 hu hv;split at h
  ·rename_i s hsp hd;obtain⟨d,hd⟩:=isSl_spec hd;simp only[Kb,Ke,true_and]at h;subst h;refine wp_value (v:= .bool false) ?_ (by have:=hK ι w (fun _ _=>rfl) hm;simpa only[resV,ren]using this);simp only[execOp,hop,hx,hy,hu,hv,ren,ren1,hsp,Sem.run_bind,guard_eql_slice,Result.andThen_ok,run_eql_slice_none hd,Sem.run_pure]
  ·exact jb9 (id:=id) hs h he hm hK
 ·rename_i ad hu hv;split at h
  ·rename_i s hsp hd;obtain⟨d,hd⟩:=isPt_spec hd;simp only[Kb,Ke,true_and]at h;subst h;refine wp_value (v:= .bool false) ?_ (by have:=hK ι w (fun _ _=>rfl) hm;simpa only[resV,ren]using this);simp only[execOp,hop,hx,hy,hu,hv,ren,ren1,hsp,Sem.run_bind,guard_eql_pointer,Result.andThen_ok,run_eql_pointer_none hd,Sem.run_pure]
  ·exact jb9 (id:=id) hs h he hm hK
 ·rename_i ad n1 c1 n2 c2 hu hv;split at h
  ·rename_i s hsp hd;obtain⟨d,hd⟩:=isSl_spec hd;simp only[Kb,Ke,true_and]at h;subst h;refine wp_value (v:= .bool true) ?_ (by have:=hK ι w (fun _ _=>rfl) hm;simpa only[resV,ren]using this);simp only[execOp,hop,hx,hy,hu,hv,ren,ren1,hsp,Sem.run_bind,guard_neq_slice,Result.andThen_ok,run_neq_slice_none hd,Sem.run_pure]
  ·exact jb9 (id:=id) hs h he hm hK
 ·rename_i ad hu hv;split at h
  ·rename_i s hsp hd;obtain⟨d,hd⟩:=isPt_spec hd;simp only[Kb,Ke,true_and]at h;subst h;refine wp_value (v:= .bool true) ?_ (by have:=hK ι w (fun _ _=>rfl) hm;simpa only[resV,ren]using this);simp only[execOp,hop,hx,hy,hu,hv,ren,ren1,hsp,Sem.run_bind,guard_neq_pointer,Result.andThen_ok,run_neq_pointer_none hd,Sem.run_pure]
  ·exact jb9 (id:=id) hs h he hm hK
 ·rename_i f1 b1 c1 hu hv;split at h
  ·rename_i hd;obtain⟨d1,d2,d3,hd⟩:=isFn_spec hd;simp only[Kb,Ke,true_and]at h;subst h;obtain⟨b1⟩:=b1;obtain⟨c1⟩:=c1;refine wp_value (v:= .bool false) ?_ (by have:=hK ι w (fun _ _=>rfl) hm;simpa only[resV,ren]using this);simp only[execOp,hop,hx,hy,hu,hv,ren,Sem.run_bind,guard_eql_func,Result.andThen_ok,run_eql_func_none hd,Sem.run_pure]
  ·exact jb9 (id:=id) hs h he hm hK
 ·rename_i f1 b1 c1 hu hv;split at h
  ·rename_i hd;obtain⟨d1,d2,d3,hd⟩:=isFn_spec hd;simp only[Kb,Ke,true_and]at h;subst h;obtain⟨b1⟩:=b1;obtain⟨c1⟩:=c1;refine wp_value (v:= .bool true) ?_ (by have:=hK ι w (fun _ _=>rfl) hm;simpa only[resV,ren]using this);simp only[execOp,hop,hx,hy,hu,hv,ren,Sem.run_bind,guard_neq_func,Result.andThen_ok,run_neq_func_none hd,Sem.run_pure]
  ·exact jb9 (id:=id) hs h he hm hK
 ·exact jb9 (id:=id) hs h he hm hK
theorem run_callFunc{f:FuncId}(hc:jbt P f)(args:Array Value):(callFunc f args).run P w= .ok (.enter f args) w:=by
 have _:=tbs;obtain⟨fn,hf,hn,hb⟩:=hc;have hp:(program).run P w= .ok P w:=rfl;simp only[callFunc,Sem.run_bind,hp,Result.andThen_ok,hf,hn,hb,Bool.false_eq_true,if_false];rfl
theorem callR_sound(hG:jfq P G){id:Nat}{c:Call}(hop:o.op= .call c)(h:jlo P G o e lk c=some (true,r))(he:∀x∈o.op.operands,a.eval x=ren ι (e x))(hm:RelM N w0 lk ι w)
  {K:Act→World→Prop} {Q:Exit→Act→World→Prop}
  (hK:∀ι' w',(∀k,k≠id→ι' k=ι k)→RelM N w0 (jc5 id r lk) ι' w'→K (a.put o.dst (ren ι' (resV id r))) w'):o.wp P a w K Q:=by
 have hs:∀cs b,o.op≠ .select cs b:=fun cs b=>by rw[hop];simp
 have hargs:∀x∈c.args,a.eval x=ren ι (e x):=fun x hx=>he x (by simp[hop,Op.operands,Call.operands,hx])
 obtain⟨cal,args,tys⟩:=c;unfold jlo at h;simp only at h hargs;split at h
 ·rename_i x;have hxe:a.eval x=ren ι (e x):=he x (by simp[hop,Op.operands,Call.operands]);split at h
  ·rename_i f first captured hfv
   split at h
   ·rename_i s hs';split at h
    ·rename_i bb v hv;split at h
     ·rename_i hpl;simp only[Kb,Ke]at h;obtain⟨rfl,rfl⟩:=h;obtain⟨hcal,hcon⟩:=hG f s hs'
      have hmap:args.map a.eval=((args.toList.map e).map (ren ι)).toArray:=by
       apply Array.toList_inj.1;simp only[Array.toList_map,List.map_map];exact Ku fun x hx=>by simpa using hargs x (by simpa using hx)
      have hrun:(execOp a.eval o).run P w= .ok (.enter f ((first++args.toList.map e++captured).map (ren ι)).toArray) w:=by
       simp only[execOp,hop,resolve,Sem.run_bind,hxe,hfv,ren,Deferred.ofValue];simp only[Sem.run_pure,Result.andThen_ok,invoke,hmap];rw[run_callFunc hcal];simp[jb1]
      unfold Oper.wp;rw[hrun,Oper.upon_enter];refine(hcon _ v N w0 lk ι w hm hv hpl).mono fun e' w' ⟨he',hb⟩=> ?_
      subst he';have:=hK ι w' (fun _ _=>rfl) (hm.grow hb);simpa only[resV,ja9 ι hpl]using this
     ·cases h
    ·cases h
   ·cases h
  ·cases h
 ·-- len
  split at h
  ·rename_i x t hx ht;split at h
   ·rename_i ad n cp hv;split at h
    ·rename_i el hd
     have h:r= .val (.int .i64 (n:Int)):=by
      split at h
      ·simp only[Kb,Ke,true_and]at h;exact h.symm
      ·simp only[Kb,Ke,true_and]at h;rw[←h,jby]
     subst h;obtain rfl:args= #[x]:=by apply Array.toList_inj.1;simpa using hx
     obtain rfl:tys= #[t]:=by apply Array.toList_inj.1;simpa using ht
     have hxe:=hargs x (by simp)
     have hren:∃ad',ren ι (e x)= .slice ad' n cp:=by
      rw[hv];cases ad with
      | none=>exact⟨none,by simp[ren]⟩
      | some q=>exact⟨some (ren1 ι q),by simp[ren]⟩
     obtain⟨ad',had⟩:=hren;refine wp_value (v:= .int .i64 n) ?_ (by have:=hK ι w (fun _ _=>rfl) hm;simpa only[resV,ren]using this);simp only[execOp,hop,resolve,Sem.run_bind,Sem.run_pure,Result.andThen_ok,invoke,builtin,Builtin.len_];simp[run_underlying hd,hxe,had,goInt]
    ·cases h
   ·exact jb9 (id:=id) hs h he hm hK
  ·cases h
 ·split at h
  ·rename_i x y hx;split at h
   ·rename_i k u k' v hu hv;simp only[Kb,Ke,true_and]at h;subst h;obtain rfl:args= #[x,y]:=by apply Array.toList_inj.1;simpa using hx
    have hxe:=hargs x (by simp);have hye:=hargs y (by simp);refine wp_value (v:= .int k (imax u v)) ?_ (by have:=hK ι w (fun _ _=>rfl) hm;simpa only[resV,ren]using this);simp only[execOp,hop,resolve,Sem.run_bind,Sem.run_pure,Result.andThen_ok,invoke,builtin,Builtin.max_];simp[hxe,hye,hu,hv,ren,Builtin.max2,imax]
   ·cases h
  ·exact jb9 (id:=id) hs h he hm hK
 ·split at h
  ·rename_i x y hx;split at h
   ·rename_i k u k' v hu hv;simp only[Kb,Ke,true_and]at h;subst h;obtain rfl:args= #[x,y]:=by apply Array.toList_inj.1;simpa using hx
    have hxe:=hargs x (by simp);have hye:=hargs y (by simp);refine wp_value (v:= .int k (imin u v)) ?_ (by have:=hK ι w (fun _ _=>rfl) hm;simpa only[resV,ren]using this);simp only[execOp,hop,resolve,Sem.run_bind,Sem.run_pure,Result.andThen_ok,invoke,builtin,Builtin.min_];simp[hxe,hye,hu,hv,ren,Builtin.min2,imin]
   ·cases h
  ·exact jb9 (id:=id) hs h he hm hK
 ·cases h
 ·exact jb9 (id:=id) hs h he hm hK
 ·rename_i x name;have hxe:a.eval x=ren ι (e x):=he x (by simp[hop,Op.operands,Call.operands]);split at h
  case h_2=>cases h
  rename_i t u hiv;split at h
  case h_2=>cases h
  rename_i hpu;split at h
  case h_2=>cases h
  rename_i f rv hmeth;split at h
  case h_2=>cases h
  rename_i hprv;split at h
  case h_2=>cases h
  rename_i s hs';split at h
  case h_2=>cases h
  rename_i bb v hv;split at h
  case h_2=>cases h
  rename_i hpl;simp only[Kb,Ke]at h;obtain⟨rfl,rfl⟩:=h;obtain⟨hcal,hcon⟩:=hG f s hs'
  have hmap:args.map a.eval=((args.toList.map e).map (ren ι)).toArray:=by
   apply Array.toList_inj.1;simp only[Array.toList_map,List.map_map];exact Ku fun x hx=>by simpa using hargs x (by simpa using hx)
  have hm2:=jg1 hmeth w;have hp:(program).run P w= .ok P w:=rfl
  have hrun:(execOp a.eval o).run P w= .ok (.enter f ((rv::args.toList.map e).map (ren ι)).toArray) w:=by
   simp only[execOp,hop,resolve,Sem.run_bind,hxe,hiv,ren,ja9 ι hpu];simp only[Sem.run_pure,Result.andThen_ok,invoke];simp only[Array.getElem?_append,Array.size_singleton,Nat.zero_lt_one,if_true,callMethod,List.getElem?_toArray,List.getElem?_cons_zero,Sem.run_bind,hp,Result.andThen_ok,hm2];rw[run_callFunc hcal];simp only[List.map_cons,ja9 ι hprv,hmap];congr 1;congr 1;apply Array.toList_inj.1;simp;exact Kw (by simp)
  unfold Oper.wp;rw[hrun,Oper.upon_enter];refine(hcon _ v N w0 lk ι w hm hv hpl).mono fun e' w' ⟨he',hb⟩=> ?_
  subst he';have:=hK ι w' (fun _ _=>rfl) (hm.grow hb);simpa only[resV,ja9 ι hpl]using this
theorem sliceBounds_run{isS:Bool}{len cap:Nat}{lo hi:Option Operand}{l h:Int}{ln hn:Nat}(hl:bndV e lo 0=some (l,ln))(hh:bndV e hi len=some (h,hn))(b1:0≤l)(b2:l≤h)(b3:h≤cap):
  (Instr.sliceBounds isS len cap (lo.map fun y=>ren ι (e y)) (hi.map fun y=>ren ι (e y)) none).run P w= .ok (ln,hn,cap) w:=by
 have _:=tbs
 have key:∀{y:Option Operand}{d:Nat}{n:Int}{m:Nat},bndV e y d=some (n,m)→(y=none∧n=d∧m=d)∨ ∃z k,y=some z∧e z= .int k n∧m=n.toNat:=fun{y d n m} hy=>by
  cases y with
  | none=>
   simp only[bndV,Kb,Ke]at hy;exact .inl ⟨rfl,hy.1.symm,hy.2.symm⟩
  | some z=>
   simp only[bndV]at hy;split at hy
   ·rename_i k n' hv;simp only[Kb,Ke]at hy;obtain⟨rfl,rfl⟩:=hy;exact .inr ⟨z,k,rfl,hv,rfl⟩
   ·cases hy
 have low:∀(q:Nat)(z:Operand)(k:IntKind)(c:BoundsCode),e z= .int k l→h≤q→(Instr.sliceBound (ren ι (e z)) q c).run P w= .ok l.toNat w:=fun q z k c hz hq=>by
  simp only[hz,ren,Instr.sliceBound,asIntOf,Sem.run_bind,Sem.run_pure,Result.andThen_ok];rw[Kd ⟨b1,by omega⟩];simp
 have high:∀(z:Operand)(k:IntKind)(c:BoundsCode),e z= .int k h→(Instr.sliceBound (ren ι (e z)) cap c).run P w= .ok h.toNat w:=fun z k c hz=>by
  simp only[hz,ren,Instr.sliceBound,asIntOf,Sem.run_bind,Sem.run_pure,Result.andThen_ok];rw[Kd ⟨by omega,b3⟩];simp
 unfold Instr.sliceBounds;rcases key hl with⟨rfl,rfl,rfl⟩ | ⟨z,k,rfl,hz,rfl⟩ <;>rcases key hh with⟨rfl,rfl,rfl⟩ | ⟨z',k',rfl,hz',rfl⟩
 ·simp
 ·simp[high z' k' _ hz']
 ·simp[low hn z k _ hz (by omega)]
 ·simp only[Option.map_some,Sem.run_bind,Sem.run_pure,Result.andThen_ok,high z' k' _ hz',low h.toNat z k _ hz (by omega)]
theorem isBytes_ren:∀{l:J},jbz l=true→l.map (ren ι)=l
 | [],_=>have _:=tbs;rfl
 | .int .u8 n::r,h=>by
  simp only[jbz]at h;simp[ren,isBytes_ren h]
theorem bytesToString_run(hm:RelM N w0 lk ι w){k:Nat}{b:Blk}(hk:lk k=some b)(hit:(b.own&&Nat.beq b.ty itTy)=false){off n:Nat}(hok:ja8 b.c off n=true)(cap:Nat):
  (Conv.bytesToString (.slice (some ⟨(ι k).1,(ι k).2+off,none⟩) n cap)).run P w= .ok (.string (ja5 b.c off n)) w:=by
 simp only[ja8,jaf]at hok;obtain⟨h1,h2⟩:=hok;have h2:=jag h2;have hlen:((b.c.drop off).take n).length=n:=by simp;omega
 have hl:=run_loadCells_list (P:=P) (w:=w) ⟨(ι k).1,(ι k).2+off,none⟩ (((b.c.drop off).take n).map (ren ι)) (fun j v hj=>by
  rw[cell_add];rw[List.getElem?_map]at hj;cases hq:((b.c.drop off).take n)[j]? with
  | none=>rw[hq]at hj;cases hj
  | some u=>
   rw[hq]at hj;simp only[Option.map_some,Kb]at hj;subst hj;refine hm.cell hk hit ?_;rw[List.getElem?_take]at hq;split at hq
   ·rw[KN]at hq;exact hq
   ·cases hq)
 rw[K9,hlen,isBytes_ren h1]at hl
 have key:∀(l:J)(acc:Yc),jbz l=true→(forIn (m:=Go.Sem) l (⟨acc.toArray⟩:Y) fun c s=>(match c with
   | .int .u8 n=>pure (.yield (s.push (UInt8.ofNat n.toNat)))
   | _=>do
    let _ : PUnit ← stuck "bytesToString: byte expected"
    pure (.yield s))).run P w= .ok ⟨(acc++jdt l).toArray⟩ w:=by
  intro l
  induction l with
  | nil=>intro acc _;simp[jdt]
  | cons v r ih=>
   intro acc h;unfold jbz at h;split at h
   ·rename_i hv;cases hv
   ·rename_i n r' hv;cases hv;have:=ih (acc++ [UInt8.ofNat n.toNat]) h;simp only[Kz,List.singleton_append]at this;simp only[List.forIn_cons,Sem.run_bind,Sem.run_pure,Result.andThen_ok,jdt];rw[←this];simp[ByteArray.push]
   ·cases h
 unfold Conv.bytesToString;simp only[Sem.run_bind,hl,Result.andThen_ok];have:=key ((b.c.drop off).take n) [] h1;simp only[List.nil_append]at this;rw[List.forIn_toArray];have e:ByteArray.empty=(⟨([]:Yc).toArray⟩:Y):=rfl;rw[e]
 erw [this]
 simp[ja5]
theorem checkKey_int{kt:TypeId}{k kd:IntKind}{i:Int}(h:P.underlying kt=some (.int k))(em:Bool)(n:Nat):(Instr.checkKey em (n+1) kt (.int kd i)).run P w= .ok () w:=by
 simp[Instr.checkKey,run_underlying h]
theorem jg3{k kd:IntKind}{i:Int}:∀(l:J)(n m:Nat)(q:Option Value),jfi kd i l=some q→ ∃o,Instr.findNow (.int k) (.int kd i) (jdy ι l n) m=some o∧o.map (·.2)=q.map (ren ι)
 | [],n,m,q,h=>by
  simp only[jfi,Kb]at h;subst h;exact⟨none,rfl,rfl⟩
 | [.int kd' j],n,m,q,h=>by simp[jfi]at h
 | .int kd' j::v::r,n,m,q,h=>by
  simp only[jfi]at h;split at h
  ·rename_i hk;have hk:kd=kd':=by simpa using hk
   subst hk;split at h
   ·rename_i hd;have hd:=jab hd;simp only[Kb]at h;subst h hd;exact⟨some (m,ren ι v),by simp[jdy,Instr.findNow,Instr.sameNow,ren],rfl⟩
   ·rename_i hd;have hd:=jac hd;obtain⟨o,h1,h2⟩:=jg3 (k:=k) r (n+1) (m+1) q h;have hb:(i==j)=false:=by simp[hd]
    exact⟨o,by simp[jdy,Instr.findNow,Instr.sameNow,ren,hb,h1],h2⟩
  ·cases h
theorem lookR_sound{t:TypeId}{x ix:Operand}(h:jk8 P e lk t x ix=some (true,r))(hm:RelM N w0 lk ι w):
  ∃v,r= .val v∧(Instr.lookup t (ren ι (e x)) (ren ι (e ix)) false).run P w= .ok (ren ι v) w:=by
 unfold jk8 at h;split at h
 ·rename_i kt et k kd i ht hx hix;split at h
  ·rename_i ik b ti hkt hk hti;split at h
   ·rename_i q rr z ho hc hz;simp only[jaf]at ho;obtain⟨_,_,g3⟩:=hm.blk k b hk ho.1
    have hob:jcu ι b= .map ⟨jdy ι rr 0⟩ (rr.length/2):=by
     simp only[jcu,ho.2,jla,hc,jeh];rfl
    rw[hob]at g3;have hget:(getObj (ι k).1).run P w= .ok (.map ⟨jdy ι rr 0⟩ (rr.length/2)) w:=by simp[getObj,Sem.run,g3]
    have hck:∀em,(Instr.checkKey em 10000 kt (.int kd i)).run P w= .ok () w:=fun em=>checkKey_int (P:=P) (w:=w) hkt em 9999
    have hfind:∀u,jfi kd i rr=some u→ ∃o,(Instr.findKey kt (.int kd i) (jdy ι rr 0)).run P w= .ok o w∧o.map (·.2)=u.map (ren ι):=fun u hu=>by
     obtain⟨o,h1,h2⟩:=jg3 (ι:=ι) (k:=ik) rr 0 0 u hu;exact⟨o,by simp[Instr.findKey,run_underlying hkt,h1],h2⟩
    split at h
    ·rename_i v hv;simp only[Kb,Ke,true_and]at h;refine⟨v,h.symm,?_⟩;obtain⟨o,h1,h2⟩:=hfind _ hv;cases o with
     | none=>cases h2
     | some o=>
      obtain⟨oi,ov⟩:=o;simp only[Option.map_some,Kb]at h2;subst h2;simp[hx,hix,ren,Instr.lookup,run_underlying ht,hget,hck,h1]
    ·rename_i hv hp;simp only[Kb,Ke,true_and]at h;refine⟨z,h.symm,?_⟩;obtain⟨o,h1,h2⟩:=hfind _ hv;cases o with
     | some o=>cases h2
     | none=>
      simp[hx,hix,ren,Instr.lookup,run_underlying ht,hget,hck,h1,zeroValue,typeInfo,hti,hz,ja9 ι hp]
    ·cases h
   ·cases h
  ·cases h
 ·cases h
theorem aop_sound(hG:jfq P G)(h:aop P G o e lk=some (true,r))(he:∀x∈o.op.operands,a.eval x=ren ι (e x))(hm:RelM N w0 lk ι w)
  {id:Nat} (hid:∀k b,lk k=some b→k≠id∧id∉idsL b.c) (hopd:∀x∈o.op.operands,id∉ids (e x))
  {K:Act→World→Prop} {Q:Exit→Act→World→Prop}
  (hK:∀ι' w',(∀k,k≠id→ι' k=ι k)→RelM N w0 (jc5 id r lk) ι' w'→K (a.put o.dst (ren ι' (resV id r))) w'):o.wp P a w K Q:=by
 have same:∀{v:Value},r= .val v→(execOp a.eval o).run P w= .ok (.value (ren ι v)) w→o.wp P a w K Q:=fun{v} hv hr=>by
  subst hv;exact wp_value hr (hK ι w (fun _ _=>rfl) hm)
 have same':∀{t x ix},o.op= .indexAddr t x ix→jd2 P e t x ix=some (true,r)→o.wp P a w K Q:=fun{t x ix} hop h=>by
  have hx:=he x (by simp[hop,Op.operands]);have hix:=he ix (by simp[hop,Op.operands]);unfold jd2 at h;split at h
  ·rename_i len el kk i hd hi;split at h
   ·rename_i k off sp ti ho hti;simp only[Kb,Ke,jae]at h;obtain⟨hb,h⟩:=h;have hs:=jc2 ho;refine same h.symm ?_;have hsz:(sizeOf el).run P w= .ok ti.size w:=by simp[sizeOf,typeInfo,hti]
    simp only[execOp,hop,hx,hix,hi,hs,ren_own,ren,Instr.indexAt,asIntOf,Sem.run_bind,Sem.run_pure,Result.andThen_ok,run_underlying hd,Instr.sureAddr];rw[Kd hb];simp only[Sem.run_bind,hsz,Result.andThen_ok,Sem.run_pure,cell_add,jez]
   ·rename_i ti ho hti;split at h
    ·rename_i b off htp;simp only[Kb,Ke,jae]at h;obtain⟨hb,h⟩:=h;have hs:=tabPtr_some htp;refine same h.symm ?_;have hsz:(sizeOf el).run P w= .ok ti.size w:=by simp[sizeOf,typeInfo,hti]
     simp only[execOp,hop,hx,hix,hi,hs,ren,ren1,Instr.indexAt,asIntOf,Sem.run_bind,Sem.run_pure,Result.andThen_ok,run_underlying hd,Instr.sureAddr];rw[Kd hb];simp only[Sem.run_bind,hsz,Result.andThen_ok,Sem.run_pure];have e:=cell_add (k:=(b,0)) (off:=off) (j:=i.toNat*ti.size);simp only[Nat.zero_add]at e;rw[e]
    ·cases h
   ·cases h
  ·rename_i el ad len cap kk i hd hxv hi;split at h
   ·rename_i s ti hsp hti;simp only[Kb,Ke,jae]at h;obtain⟨hb,h⟩:=h;refine same h.symm ?_;have hsz:(sizeOf el).run P w= .ok ti.size w:=by simp[sizeOf,typeInfo,hti]
    simp only[execOp,hop,hx,hix,hi,hxv,ren,ren1,hsp,Instr.indexAt,asIntOf,Sem.run_bind,Sem.run_pure,Result.andThen_ok,run_underlying hd];rw[Kd hb];simp only[Sem.run_bind,hsz,Result.andThen_ok,Sem.run_pure,cell_add,jez]
   ·cases h
  ·cases h
 have same'':∀{t x ix},o.op= .index t x ix→ji8 P e t x ix=some (true,r)→o.wp P a w K Q:=fun{t x ix} hop h=>by
  have hx:=he x (by simp[hop,Op.operands]);have hix:=he ix (by simp[hop,Op.operands]);unfold ji8 at h;split at h
  ·rename_i len el l kk i hd hxv hi;split at h
   ·rename_i d ti hel hti;split at h
    ·rename_i z hag hsz1 hz;split at h
     ·rename_i c v hv;simp only[Kb,Ke,jaf,jae]at h;obtain⟨⟨hb,rfl⟩,h⟩:=h;obtain⟨g1,g2,_⟩:=typed1_spec hv;refine same h.symm ?_;have hsz:(sizeOf el).run P w= .ok ti.size w:=by simp[sizeOf,typeInfo,hti]
      have e1:ti.size=1:=jah hsz1;have ha:=isAgg_of (P:=P) hel w;rw[hag]at ha;have hg:(l.map (ren ι))[i.toNat]?=some (ren ι v):=by rw[List.getElem?_map,g1];rfl
      simp only[execOp,hop,hx,hix,hi,hxv,ren,jb1,Instr.index,asIntOf,Sem.run_bind,Sem.run_pure,Result.andThen_ok,run_underlying hd];rw[Kd hb];simp only[Sem.run_bind,hsz,Result.andThen_ok,part,ha,Bool.false_eq_true,if_false,e1,Nat.mul_one];simp[hg]
     ·cases h
    ·cases h
   ·cases h
  ·rename_i sv kk i hd hxv hi;simp only[Kb,Ke,jae]at h;obtain⟨hb,h⟩:=h;refine same h.symm ?_;have hlt:i.toNat<sv.size:=by omega
   have hg:sv[i.toNat]?=some sv[i.toNat]:=by simp[hlt]
   have hbt:jai sv i.toNat=((sv[i.toNat]).toNat:Int):=by
    have h2:sv.data.toList[i.toNat]?=some sv[i.toNat]:=by
     rw[Array.getElem?_toList];have:i.toNat<sv.data.size:=hlt;rw[Array.getElem?_eq_getElem this];rfl
    simp[jai,h2]
   simp only[execOp,hop,hx,hix,hi,hxv,ren,Instr.index,asIntOf,Sem.run_bind,Sem.run_pure,Result.andThen_ok,run_underlying hd];rw[Kd hb.1,hg,hbt];simp
  ·cases h
 have bs:∀{t len parts},o.op= .buildSlice t len parts→jdl P e t len parts=some (true,r)→o.wp P a w K Q:=fun{t len parts} hop h=>by
  unfold jdl at h;split at h
  ·rename_i el hd;split at h
   ·rename_i i hi;split at h
    ·rename_i hle;simp only[jaf,Ks]at hle;obtain⟨hle,hit⟩:=hle;split at h
     ·rename_i zero hz;split at h
      ·rename_i hp;split at h
       ·rename_i cells hf;simp only[Kb,Ke,true_and]at h;subst h
        have hparts:(parts.map fun(q,x)=>(q,a.eval x)).toList=(parts.map fun(q,x)=>(q,e x)).toList.map fun p=>(p.1,ren ι p.2):=by
         simp only[Array.toList_map,List.map_map];refine Ku fun p hpm=> ?_
         obtain⟨q,x⟩:=p;have:=he x (by simp only[hop,Op.operands];simp;exact⟨q,by simpa using hpm⟩);simp only[Function.comp,this]
        have hpn:((Array.range (len*i.size)).map fun q=>zero[q%zero.size]!)=((Array.range (len*i.size)).map fun q=>zero[q%zero.size]!).map (ren ι):=by
         apply Array.ext';rw[Array.toList_map (f:=ren ι),←jb1,jb4 ι hp]
        have hf':=jj0 (ren ι) (fun v=>by rw[jff];apply Array.ext';simp) (fun q=>some (q*i.size,i.size)) (parts.map fun(q,x)=>(q,e x)).toList ((Array.range (len*i.size)).map fun q=>zero[q%zero.size]!);rw[←hpn,←hparts,hf,Option.map_some]at hf';have hcl:cells.map (ren ι)=⟨cells.toList.map (ren ι)⟩:=by apply Array.ext';simp
        rw[hcl]at hf'
        have hids:id∉idsL cells.toList:=fun hj=>by
         obtain⟨v,hv,hjv⟩:=jay.1 hj;rcases fill_mem _ _ _ _ hf v hv with hv | ⟨p,hpm,hv⟩
         ·rw[jbm (ja7.1 hp v hv)]at hjv;cases hjv
         ·simp only[Array.toList_map,KB]at hpm;obtain⟨⟨q,x⟩,hpm,rfl⟩:=hpm;refine hopd x (by simp only[hop,Op.operands];simp;exact⟨q,by simpa using hpm⟩) ?_;rw[←jc4];exact jay.2 ⟨v,hv,hjv⟩
        refine jmn hm hid (b:=⟨cells.toList,el,true⟩) rfl hit hids (v:=oslc id 0 len len) (rv:= .slice (some ⟨w.heap.size,0,none⟩) len len) ?_ ?_ hK
        ·generalize hpa:(parts.map fun(q,x)=>(q,a.eval x))=pa at*;have hle':¬(len*i.size>2^24):=by have:=jag hle;omega
         have hsz:(sizeOf el).run P w= .ok i.size w:=by simp[sizeOf,typeInfo,hi]
         simp only[execOp,hop,hpa,Instr.buildSlice,Sem.run_bind,run_underlying hd,Result.andThen_ok,hsz];rw[Kc hle'];unfold bsZero at hz;split at hz
         ·rename_i h0;have h00:=jah h0;cases hz;rw[Kd h00];simp only[Sem.run_bind,Sem.run_pure,Result.andThen_ok,hf',newRow,newObj];rfl
         ·rename_i h0;have hne:len*i.size≠0:=fun e0=>by rw[e0]at h0;cases h0
          split at hz
          ·rename_i z hzz;cases hz;have hzv:(zeroValue el).run P w= .ok z w:=by simp[zeroValue,typeInfo,hi,hzz]
           rw[Kc hne];simp only[Sem.run_bind,hzv,Sem.run_pure,Result.andThen_ok,hf',newRow,newObj];rfl
          ·cases hz
        ·simp[oslc,ren,ren1,Nm.upd]
       ·cases h
      ·cases h
     ·cases h
    ·cases h
   ·cases h
  ·cases h
 unfold aop at h;split at h
 ·rename_i x hop;simp only[Kb,Ke,true_and]at h;exact same h.symm (by rw[←he x (by simp[hop,Op.operands])];simp[execOp,hop])
 ·rename_i x hop;simp only[Kb,Ke,true_and]at h;exact same h.symm (by rw[←he x (by simp[hop,Op.operands])];simp[execOp,hop])
 ·rename_i c x y hop;have hc:=he c (by simp[hop,Op.operands]);split at h
  ·rename_i hb;simp only[Kb,Ke,true_and]at h;exact same h.symm (by rw[←he x (by simp[hop,Op.operands])];simp[execOp,hop,hc,hb,ren,asBool])
  ·rename_i hb;simp only[Kb,Ke,true_and]at h;exact same h.symm (by rw[←he y (by simp[hop,Op.operands])];simp[execOp,hop,hc,hb,ren,asBool])
  ·cases h
 ·rename_i t hop;split at h
  ·rename_i i hi;split at h
   ·rename_i z hz;split at h
    ·rename_i hp;simp only[jaf,Ks]at hp;obtain⟨hp,hit⟩:=hp;simp only[Kb,Ke,true_and]at h;subst h;refine jmn hm hid (b:=⟨z.cells.toList,t,true⟩) rfl hit (by rw[jc4,jbm hp];simp) (v:=optr id 0 0) (rv:= .pointer (some ⟨w.heap.size,0,none⟩)) ?_ ?_ hK
     ·simp only[plain_cells hp];simp[execOp,hop,Instr.alloc,zeroValue,typeInfo,hi,hz,newVar,newRow,newObj];rfl
     ·rw[jez];simp[Nm.upd]
    ·cases h
   ·cases h
  ·cases h
 ·rename_i t x hop;split at h
  ·cases h
  rename_i hit;simp only[Kb,Ke,true_and]at h;subst h;have hx:=he x (by simp[hop,Op.operands]);refine jmn hm hid (b:=⟨(e x).cells.toList,t,true⟩) rfl hit (by rw[jc4];exact hopd x (by simp[hop,Op.operands])) (v:=optr id 0 0) (rv:= .pointer (some ⟨w.heap.size,0,none⟩)) ?_ ?_ hK
  ·simp only[←jff];simp[execOp,hop,Instr.box,hx,newVar,newRow,newObj];rfl
  ·rw[jez];simp[Nm.upd]
 ·rename_i t x hop;have hx:=he x (by simp[hop,Op.operands]);split at h
  ·rename_i k off sp ho;have hs:=jc2 ho;split at h
   ·rename_i b hk;split at h
    ·cases h
    obtain⟨v,rfl,_,hr⟩:=je4 hm hk h;refine same rfl ?_;simp only[execOp,hop,hx,hs,ren_own,Instr.loadAt,Instr.sureAddr];simp[hr]
   ·cases h
  ·unfold jjh at h;split at h
   ·rename_i b off htp;split at h
    ·rename_i r' hrow;have hs:=tabPtr_some htp;obtain⟨v,rfl,hi,hr⟩:=je4 (hm.tabView hrow) (k:=0) (b:=⟨r',0,false⟩) rfl h
     have hv:ids v=[]:=List.eq_nil_iff_forall_not_mem.2 fun j hj=>by
      have:=hi j hj;simp only[jao (Tabs.plain b r' hrow)]at this;cases this
     have hv':ren (fun _=>(b,0)) v=ren ι v:=jc0 fun j hj=>by rw[hv]at hj;cases hj
     refine same rfl ?_;rw[hv']at hr;simp only[Nat.zero_add]at hr;simp only[execOp,hop,hx,hs,ren,ren1,Instr.loadAt,Instr.sureAddr];simp[hr]
    ·cases h
   ·cases h
 ·rename_i t x y hop;have hx:=he x (by simp[hop,Op.operands]);have hy:=he y (by simp[hop,Op.operands]);split at h
  ·rename_i k off sp ho;have hs:=jc2 ho;split at h
   ·rename_i b hk;obtain⟨b',rfl,h1,h2,h3,h3',h4,hr⟩:=storeB_sound hm hk h;refine wp_skip_op (w':=w.setRow (ι k).1 ⟨b'.c.map (ren ι)⟩) ?_ ?_
    ·simp only[execOp,hop,hx,hy,hs,ren_own,Instr.storeAt,Instr.sureAddr];simp[hr]
    ·have:=hK ι _ (fun _ _=>rfl) (hm.write hk h1 h2 h3 h3' h4);simpa[resV,ren,renL,undef]using this
   ·cases h
  ·cases h
 ·rename_i s x f hop;have hx:=he x (by simp[hop,Op.operands]);split at h
  ·rename_i k off sp ho;have hs:=jc2 ho;split at h
   ·rename_i fo hf;simp only[Kb,Ke,true_and]at h;refine same h.symm ?_;have:=fieldOff_sound (P:=P) (w:=w) hf (ι k) off;simp only[execOp,hop,hx,hs,ren_own];simp[this,jez]
   ·cases h
  ·cases h
 ·rename_i x i hop;have hx:=he x (by simp[hop,Op.operands]);split at h
  ·rename_i vs hv;split at h
   ·rename_i v hvi;simp only[Kb,Ke,true_and]at h;refine same h.symm ?_;obtain⟨l⟩:=vs;have hvi':l[i]?=some v:=by simpa using hvi
    simp[execOp,hop,hx,hv,ren,Instr.extract,jb1,hvi']
   ·cases h
  ·cases h
 ·rename_i op xt x y yt hop;exact binR_sound (id:=id) hop h he hm hK
 ·rename_i c hop;exact callR_sound hG (id:=id) hop h he hm hK
 ·rename_i t x ix hop;exact same' hop h
 ·rename_i t x ix hop;exact same'' hop h
 ·rename_i t len parts hop;exact bs hop h
 ·rename_i fn first captured hop
  simp only[Kb,Ke,true_and]at h;refine same h.symm ?_
  have h1:first.map a.eval=(first.toList.map fun x=>ren ι (e x)).toArray:=by
   apply Array.toList_inj.1;simp only[Array.toList_map];exact Ku fun x hx=>he x (by simp[hop,Op.operands];exact .inl (by simpa using hx))
  have h2:captured.map a.eval=(captured.toList.map fun x=>ren ι (e x)).toArray:=by
   apply Array.toList_inj.1;simp only[Array.toList_map];exact Ku fun x hx=>he x (by simp[hop,Op.operands];exact .inr (by simpa using hx))
  simp only[execOp,hop,Instr.makeFunc,h1,h2];simp[ren,jb1,Function.comp_def]
 ·rename_i t x hop;have hx:=he x (by simp[hop,Op.operands]);split at h
  ·rename_i s hd hxv;simp only[Kb,Ke,true_and]at h;subst h;have hnew:=hm.new (id:=id) hid (b:=⟨[.string s,.int .i64 0],itTy,true⟩) rfl (by simp[idsL,ids]);have hob:jcu ι ⟨[.string s,.int .i64 0],itTy,true⟩= .stringIter s 0:=rfl;rw[hob]at hnew;refine wp_value' (v:=ren (ι.upd id (w.heap.size,0)) (optr id 0 0)) (w':=w.alloc (.stringIter s 0)) ?_ (hK _ _ (fun k hk=>by simp[Nm.upd,hk]) hnew);rw[jez];simp[execOp,hop,hx,hxv,ren,Instr.range,run_underlying hd,newObj,Nm.upd];rfl
  ·cases h
 ·rename_i t x lo hi mx hop;have gen:jbr P o e=some (true,r)→o.wp P a w K Q:=fun h=>jb9 (id:=id) (fun cs b=>by rw[hop];simp) h he hm hK
  have hx:=he x (by simp[hop,Op.operands]);have hlo:∀y,lo=some y→a.eval y=ren ι (e y):=fun y hy=>he y (by subst hy;simp[hop,Op.operands])
  have hhi:∀y,hi=some y→a.eval y=ren ι (e y):=fun y hy=>he y (by subst hy;cases lo<;>simp[hop,Op.operands])
  unfold jkh at h;split at h
  ·rename_i el ad len cap hd hxv;split at h
   ·rename_i s ti l ln hh hn hsp hti hl hhn;simp only[Kb,Ke,jae]at h;obtain⟨⟨b1,b2,b3⟩,h⟩:=h;refine same h.symm ?_;have hsz:(sizeOf el).run P w= .ok ti.size w:=by simp[sizeOf,typeInfo,hti]
    have B:=sliceBounds_run (P:=P) (w:=w) (ι:=ι) (e:=e) (isS:=true) (len:=len) (cap:=cap) hl hhn b1 b2 b3;have e1:(lo.map a.eval)=lo.map fun y=>ren ι (e y):=by cases lo with | none=>rfl | some y=>simp[hlo y rfl]
    have e2:(hi.map a.eval)=hi.map fun y=>ren ι (e y):=by cases hi with | none=>rfl | some y=>simp[hhi y rfl]
    simp only[execOp,hop,hx,hxv,ren,ren1,hsp,Instr.sliceAt,Instr.slice,Sem.run_bind,run_underlying hd,Result.andThen_ok,e1,e2,Option.map_none,B,hsz,Sem.run_pure];by_cases hc:cap=ln
    ·simp[hc]
    ·have hc':Nat.beq cap ln=false:=by
      cases hb:Nat.beq cap ln
      ·rfl
      ·exact absurd (jah hb) hc
     simp[hc,hc',cell_add,Nat.add_assoc]
   ·exact gen h
  ·rename_i el hd hxv;split at h
   ·rename_i ti l ln hh hn hti hl hhn;simp only[Kb,Ke,jae]at h;obtain⟨⟨b1,b2,b3⟩,h⟩:=h;refine same h.symm ?_;have hsz:(sizeOf el).run P w= .ok ti.size w:=by simp[sizeOf,typeInfo,hti]
    have B:=sliceBounds_run (P:=P) (w:=w) (ι:=ι) (e:=e) (isS:=true) (len:=0) (cap:=0) hl hhn b1 b2 b3;have e1:(lo.map a.eval)=lo.map fun y=>ren ι (e y):=by cases lo with | none=>rfl | some y=>simp[hlo y rfl]
    have e2:(hi.map a.eval)=hi.map fun y=>ren ι (e y):=by cases hi with | none=>rfl | some y=>simp[hhi y rfl]
    have z2:hn=0:=by
     unfold bndV at hhn;split at hhn
     ·cases hhn;rfl
     ·split at hhn
      ·cases hhn;omega
      ·cases hhn
    simp only[execOp,hop,hx,hxv,ren,Instr.sliceAt,Instr.slice,Sem.run_bind,run_underlying hd,Result.andThen_ok,e1,e2,Option.map_none,B,hsz,Sem.run_pure];simp[z2]
   ·exact gen h
  ·rename_i sv hd hxv;split at h
   ·rename_i l ln hh hn hl hhn;simp only[Kb,Ke,jae]at h;obtain⟨⟨b1,b2,b3⟩,h⟩:=h;refine same h.symm ?_;have B:=sliceBounds_run (P:=P) (w:=w) (ι:=ι) (e:=e) (isS:=false) (len:=sv.size) (cap:=sv.size) hl hhn b1 b2 b3;have e1:(lo.map a.eval)=lo.map fun y=>ren ι (e y):=by cases lo with | none=>rfl | some y=>simp[hlo y rfl]
    have e2:(hi.map a.eval)=hi.map fun y=>ren ι (e y):=by cases hi with | none=>rfl | some y=>simp[hhi y rfl]
    simp only[execOp,hop,hx,hxv,ren,Instr.sliceAt,Instr.slice,Sem.run_bind,run_underlying hd,Result.andThen_ok,e1,e2,Option.map_none,Option.isSome_none,Bool.false_eq_true,if_false,B,Sem.run_pure]
   ·cases h
  ·exact gen h
 ·rename_i t t' x hop;have gen:jbr P o e=some (true,r)→o.wp P a w K Q:=fun h=>jb9 (id:=id) (fun cs b=>by rw[hop];simp) h he hm hK
  have hx:=he x (by simp[hop,Op.operands]);unfold jnf at h;split at h
  ·rename_i ad n cap hxv;split at h
   ·rename_i s el hsp hd hd';split at h
    ·rename_i b hel hk;split at h
     ·rename_i hit;simp only[Kb,Ke]at h;obtain⟨hok,h⟩:=h;refine same h.symm ?_;have:=bytesToString_run (P:=P) hm hk hit hok;simp only[execOp,hop,hx,hxv,ren,ren1,hsp,convert,Sem.run_bind,run_underlying hd,run_underlying hd',Result.andThen_ok,run_underlying hel];simp[this cap,ren]
     ·cases h
    ·cases h
   ·exact gen h
  ·exact gen h
 ·rename_i x hop;have hx:=he x (by simp[hop,Op.operands]);split at h
  ·rename_i p ho;obtain⟨k,off,sp⟩:=p;simp only[Kb,Ke,true_and]at h;refine same h.symm ?_;rw[jc2 ho]at hx ⊢;simp[execOp,hop,hx,ren,ren1]
  ·exact jb9 (id:=id) (fun cs b=>by rw[hop];simp) h he hm hK
 ·rename_i t x hop;have hx:=he x (by simp[hop,Op.operands]);split at h
  ·cases h
  ·rename_i d hnd hd;simp only[Kb,Ke,true_and]at h;refine same h.symm ?_;cases d with
   | interface q=>exact absurd rfl (hnd q)
   | _=>simp[execOp,hop,hx,Instr.makeInterface,run_underlying hd,ren]
  ·cases h
 rotate_left 4
 ·rename_i t x ix hop;obtain⟨v,rfl,hr⟩:=lookR_sound h hm;refine same rfl ?_;have hx:=he x (by simp[hop,Op.operands]);have hix:=he ix (by simp[hop,Op.operands]);simp[execOp,hop,hx,hix,hr]
 all_goals first
  | (rename_i hop;exact jb9 (id:=id) (fun cs b=>by rw[hop];simp) h he hm hK)
  | cases h
end
end Go.Ab
