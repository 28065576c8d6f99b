/-
  Part 5: the run and laws.
-/
import Derived.Test.YtpflidodnhbeoaaGreatDoorV4
set_option linter.unusedVariables false
set_option linter.unusedSimpArgs false
noncomputable section
set_option maxHeartbeats 3200000
namespace Go.Cx
open Go Go.Ab Go.Proofs Go.Shelf Go.Px Go.Cv
open Go.Fx (Ty Vl check ja9 most base pw bnd Fit fits tv vv tup V0 T0 jbh jbl jbc jbx str0)
instance tabsU6:Tabs:=tabs
def jbk(v:Vl)(t:Ty):Fu:=if t.k=1∨t.k=2 then .w v.n t else if t.k=4 then .b v.s else if t.k=5∧pN (bz t.s)=true then .p v.s t.s else .c v.s
open Classical in
theorem cuK_ex:∃d:Bool→Fu→Ty→Bool,∀b f t,d b f t=true↔cuA f t∧(cuV f t).2.2.2.isNone=b:=⟨fun b f t=>decide (cuA f t∧(cuV f t).2.2.2.isNone=b),fun b f t=>by simp⟩
def cuK:Bool→Fu→Ty→Bool:=Classical.choose cuK_ex
theorem jig{b:Bool}{f:Fu}{t:Ty}:cuK b f t=true↔cuA f t∧(cuV f t).2.2.2.isNone=b:=Classical.choose_spec cuK_ex b f t
theorem cuO_ex:∃d:Fu→Ty→Int×Y×Int×Y,∀f t,d f t=((cuV f t).1,(cuV f t).2.1,(cuV f t).2.2.1,(cuV f t).2.2.2.getD ⟨#[]⟩):=⟨_,fun _ _=>rfl⟩
def cuO:Fu→Ty→Int×Y×Int×Y:=Classical.choose cuO_ex
theorem cuO_eq(f:Fu)(t:Ty):cuO f t=((cuV f t).1,(cuV f t).2.1,(cuV f t).2.2.1,(cuV f t).2.2.2.getD ⟨#[]⟩):=Classical.choose_spec cuO_ex f t
def s97w(v:Vl)(t:Ty):Bool×Value:=(decide (t.k=1∨t.k=2),.iface 174 (.agg ⟨[.int .i64 v.n,.int .i64 t.k,.int .i64 t.p,.int .i64 t.q,.bool t.v,.string t.s]⟩))
def s97b(v:Vl)(t:Ty):Bool×Value:=(decide (t.k=4),.iface 175 (.string v.s))
def s97p(v:Vl)(t:Ty):Bool×Value:=(decide (t.k=5∧pN (bz t.s)=true∧t.s.size≤9223372036854775807),.iface 177 (.agg ⟨[.string v.s,.string t.s]⟩))
def s97c(v:Vl)(t:Ty):Bool×Value:=(decide (¬(t.k=1∨t.k=2)∧t.k≠4∧(t.k=5→ ¬pN (bz t.s)=true)∧t.s.size≤9223372036854775807),.iface 178 (.string v.s))
def s99y:Ab.Spec:=fun args _=>match args with
 | [a,.agg ⟨[.int .i64 k,.int .i64 p,.int .i64 q,.bool w,.string u]⟩]=>match decU a with
  | some f=>some (cuK true f ⟨k,p,q,w,u⟩,tp3 (cuO f ⟨k,p,q,w,u⟩).1 (cuO f ⟨k,p,q,w,u⟩).2.1 (cuO f ⟨k,p,q,w,u⟩).2.2.1 .nilIface)
  | none=>none
 | _=>none
def s99n:Ab.Spec:=fun args _=>match args with
 | [a,.agg ⟨[.int .i64 k,.int .i64 p,.int .i64 q,.bool w,.string u]⟩]=>match decU a with
  | some f=>some (cuK false f ⟨k,p,q,w,u⟩,tp3 (cuO f ⟨k,p,q,w,u⟩).1 (cuO f ⟨k,p,q,w,u⟩).2.1 (cuO f ⟨k,p,q,w,u⟩).2.2.1 (er (cuO f ⟨k,p,q,w,u⟩).2.2.2))
  | none=>none
 | _=>none
def zrV(t:Ty):Y:=if t.k=4 then szO (List.replicate t.p.toNat 48)else if t.k=5 then sz (zeS (bz t.s))else⟨#[]⟩
theorem zrO_ex:∃d:Ty→Y,d=zrV:=⟨_,rfl⟩
def zrO:Ty→Y:=Classical.choose zrO_ex
theorem jhn:zrO=zrV:=Classical.choose_spec zrO_ex
def s101u(t:Ty):Bool×Value:=(decide (t.s.size≤9223372036854775807∧(t.k=4→0≤t.p∧t.p≤1000)),.agg ⟨[I 0,S (zrO t)]⟩)
def Uz:Env:=K9p.add 176 (sp1 Px.s54)
def Uv:Env:=(((Env.nil.add 22 (sp2 z22)).add 20 (sp1 z20)).add 101 (sp1 s101u)).addG 100 h100
def Uy(s97:Vl→Ty→Bool×Value):Env:=(Uv.add 97 (sp2 s97)).add 99 s99y
def Un(s97:Vl→Ty→Bool×Value):Env:=(Uv.add 97 (sp2 s97)).add 99 s99n
def v97:Env:=Env.nil.add 59 (sp1 Px.s31)
theorem u97(v:Vl)(t:Ty)(R:Value→Prop):jaz Tryz.prog v97 noL Tryz.f97 [Enc.enc v,Enc.enc t] (fun _=>none) 0 (fun v _ _=>R v)=(bif b4 t 1 then R (s97w v t).snd else bif b4 t 2 then R (s97w v t).snd else bif b4 t 4 then R (s97b v t).snd else bif b4 t 5 then fq (dp (Fx.Ty.s t)) (pN (dy t)) (s97p v t).snd (s97c v t).snd R else R (s97c v t).snd):=by kernel_rfl
theorem u101(t:Ty)(R:Value→Prop):jaz Tryz.prog Uz noL Tryz.f101 [Enc.enc t] (fun _=>none) 0 (fun v _ _=>R v)=(bif b4 t 4 then bif j6 d9 (Fx.Ty.p t) 1000 1000 then∀a:Y,oh (Fx.Ty.p t) 48=a→R (b9 [Px.I 0,S a])else False else bif b4 t 5 then ay (dp (Fx.Ty.s t)) (b9 [Px.I 0,S (sz (zeS (dy t)))]) R else R (b9 [Px.I 0,S ao])):=by kernel_rfl
def hd34(R:Value→Prop)(v:Vl)(f t:Ty)(c:Bool)(X:Prop):Prop:=
 bif decide (ByteArray.size f.s≤9223372036854775807∧ByteArray.size v.s≤9223372036854775807)then bif ftT v f !=0 then R (tp3 0 ⟨#[]⟩ 0 (I (ftT v f)))else
 bif decide (ByteArray.size t.s≤9223372036854775807)then bif ckT t !=0 then R (tp3 0 ⟨#[]⟩ 0 (I (ckT t)))else
 bif f.k==6 || true then bif f.k==6 || t.k==6 then bif f.k !=t.k then R (tp3 0 ⟨#[]⟩ 0 (I 5))else R (tp3 v.n v.s 0 (I 0))else bif c then X else False else False else False else False
def tl34(R:Value→Prop)(g:Fu)(t:Ty):Prop:=bif cuK true g t then R (tp3 (cuO g t).1 (cuO g t).2.1 (cuO g t).2.2.1 (I 0))else False
def tn34(R:Value→Prop)(g:Fu)(t:Ty):Prop:=bif cuK false g t then bif decide (t.s.size≤9223372036854775807∧(t.k=4→0≤t.p∧t.p≤1000))then R (tp3 0 (zrO t) 4 (I 0))else False else False
theorem u34yw(v:Vl)(f t:Ty)(R:Value→Prop):jaz Tryz.prog (Uy s97w) noL Tryz.f34 [Enc.enc v,Enc.enc f,Enc.enc t] (fun _=>none) 0 (fun v _ _=>R v)=hd34 R v f t (s97w v f).1 (tl34 R (.w v.n f) t):=by kernel_rfl
theorem u34yb(v:Vl)(f t:Ty)(R:Value→Prop):jaz Tryz.prog (Uy s97b) noL Tryz.f34 [Enc.enc v,Enc.enc f,Enc.enc t] (fun _=>none) 0 (fun v _ _=>R v)=hd34 R v f t (s97b v f).1 (tl34 R (.b v.s) t):=by kernel_rfl
theorem u34yp(v:Vl)(f t:Ty)(R:Value→Prop):jaz Tryz.prog (Uy s97p) noL Tryz.f34 [Enc.enc v,Enc.enc f,Enc.enc t] (fun _=>none) 0 (fun v _ _=>R v)=hd34 R v f t (s97p v f).1 (tl34 R (.p v.s f.s) t):=by kernel_rfl
theorem u34yc(v:Vl)(f t:Ty)(R:Value→Prop):jaz Tryz.prog (Uy s97c) noL Tryz.f34 [Enc.enc v,Enc.enc f,Enc.enc t] (fun _=>none) 0 (fun v _ _=>R v)=hd34 R v f t (s97c v f).1 (tl34 R (.c v.s) t):=by kernel_rfl
theorem u34nw(v:Vl)(f t:Ty)(R:Value→Prop):jaz Tryz.prog (Un s97w) noL Tryz.f34 [Enc.enc v,Enc.enc f,Enc.enc t] (fun _=>none) 0 (fun v _ _=>R v)=hd34 R v f t (s97w v f).1 (tn34 R (.w v.n f) t):=by kernel_rfl
theorem u34nb(v:Vl)(f t:Ty)(R:Value→Prop):jaz Tryz.prog (Un s97b) noL Tryz.f34 [Enc.enc v,Enc.enc f,Enc.enc t] (fun _=>none) 0 (fun v _ _=>R v)=hd34 R v f t (s97b v f).1 (tn34 R (.b v.s) t):=by kernel_rfl
theorem u34np(v:Vl)(f t:Ty)(R:Value→Prop):jaz Tryz.prog (Un s97p) noL Tryz.f34 [Enc.enc v,Enc.enc f,Enc.enc t] (fun _=>none) 0 (fun v _ _=>R v)=hd34 R v f t (s97p v f).1 (tn34 R (.p v.s f.s) t):=by kernel_rfl
theorem u34nc(v:Vl)(f t:Ty)(R:Value→Prop):jaz Tryz.prog (Un s97c) noL Tryz.f34 [Enc.enc v,Enc.enc f,Enc.enc t] (fun _=>none) 0 (fun v _ _=>R v)=hd34 R v f t (s97c v f).1 (tn34 R (.c v.s) t):=by kernel_rfl
theorem ok_v97:jaw Tryz.prog v97:=jai jap Px.ok31
theorem ok_Uz:jaw Tryz.prog Uz:=jai ok_K9p Px.ok54
theorem ok97w:jam Tryz.prog 97 (sp2 s97w):=by
 refine jcj ok_v97 hmix fn97 jak jag fun v t hc=> ?_
 have hc:t.k=1∨t.k=2:=jab hc;rw[ja0,u97];delta dx fq dy dp b4;exact cond_intro (fun _=>rfl) fun h1=>cond_intro (fun _=>rfl) fun h2=>by simp at h1 h2;omega
theorem ok97b:jam Tryz.prog 97 (sp2 s97b):=by
 refine jcj ok_v97 hmix fn97 jak jag fun v t hc=> ?_
 have hc:t.k=4:=jab hc;rw[ja0,u97];delta dx fq dy dp b4;rw[hc];rfl
theorem ok97p:jam Tryz.prog 97 (sp2 s97p):=by
 refine jcj ok_v97 hmix fn97 jak jag fun v t hc=> ?_
 have hc:t.k=5∧pN (bz t.s)=true∧t.s.size≤9223372036854775807:=jab hc;rw[ja0,u97];delta dx fq dy dp b4;rw[hc.1,hc.2.1];refine cond_intro (fun h=>absurd h (by decide)) fun _=>cond_intro (fun h=>absurd h (by decide)) fun _=>cond_intro (fun h=>absurd h (by decide)) fun _=>c_t rfl (c_t (jaa hc.2.2) rfl)
theorem ok97c:jam Tryz.prog 97 (sp2 s97c):=by
 refine jcj ok_v97 hmix fn97 jak jag fun v t hc=> ?_
 have hc:¬(t.k=1∨t.k=2)∧t.k≠4∧(t.k=5→ ¬pN (bz t.s)=true)∧t.s.size≤9223372036854775807:=jab hc;rw[ja0,u97];delta dx fq dy dp b4;refine cond_intro (fun h=> ?_) fun h1=>cond_intro (fun h=> ?_) fun h2=>cond_intro (fun h=> ?_) fun h4=>cond_intro (fun h=> ?_) fun h5=>rfl
 ·exact absurd (.inl (by simpa using h)) hc.1
 ·exact absurd (.inr (by simpa using h)) hc.1
 ·exact absurd (by simpa using h) hc.2.1
 ·refine c_t (jaa hc.2.2.2) ?_;have:=hc.2.2.1 (by simpa using h);exact cond_intro (fun h=>absurd h this) fun _=>rfl
theorem s99_y{args:E}{bs:O}{v:Value}(h:s99y args bs=some (true,v)):s99u args bs=some (true,v):=by
 unfold s99y at h;unfold s99u;split at h
 case h_2=>cases h
 split at h
 case h_2=>cases h
 rename_i f hf
 try simp only[hf]
 simp only[Option.some.injEq,Prod.mk.injEq]at h;obtain⟨h1,rfl⟩:=h;obtain⟨h2,h3⟩:=jig.1 h1;rw[jku.2 h2,cuO_eq];refine congrArg some (congrArg (Prod.mk true) ?_);show tp3 _ _ _ _=tp3 _ _ _ _;cases e:(cuV f ⟨_,_,_,_,_⟩).2.2.2 with
 | none=>rfl
 | some _=>rw[e]at h3;cases h3
theorem s99_n{args:E}{bs:O}{v:Value}(h:s99n args bs=some (true,v)):s99u args bs=some (true,v):=by
 unfold s99n at h;unfold s99u;split at h
 case h_2=>cases h
 split at h
 case h_2=>cases h
 rename_i f hf
 try simp only[hf]
 simp only[Option.some.injEq,Prod.mk.injEq]at h;obtain⟨h1,rfl⟩:=h;obtain⟨h2,h3⟩:=jig.1 h1;rw[jku.2 h2,cuO_eq];refine congrArg some (congrArg (Prod.mk true) ?_);show tp3 _ _ _ _=tp3 _ _ _ _;cases e:(cuV f ⟨_,_,_,_,_⟩).2.2.2 with
 | none=>rw[e]at h3;cases h3
 | some _=>rfl
theorem jgq{ι:Type}{P:Program}{f:FuncId}{s:Ab.Spec}{T:ι→Ab.Spec}(i0:ι)(hT:∀i,jam P f (T i))(h:∀args bs v,s args bs=some (true,v)→ ∃i,T i args bs=some (true,v)):jam P f s:=
 ⟨(hT i0).1, fun args v N w0 m ι w hrel hs hv => by
  obtain⟨i,hi⟩:=h _ _ _ hs;exact(hT i).2 args v N w0 m ι w hrel hi hv⟩
theorem ok99y:jam Tryz.prog 99 s99y:=jgq () (fun _=>ok99u) fun _ _ _ h=>⟨(),s99_y h⟩
theorem ok99n:jam Tryz.prog 99 s99n:=jgq () (fun _=>ok99u) fun _ _ _ h=>⟨(),s99_n h⟩
theorem ok101u:jam Tryz.prog 101 (sp1 s101u):=by
 refine jby ok_Uz hmix fn101 jak jag fun t hc=> ?_
 have hc:t.s.size≤9223372036854775807∧(t.k=4→0≤t.p∧t.p≤1000):=jab hc;rw[ja0,u101];delta b9 ao ay dy dp b4 oh j6 d9;dsimp only[s101u];rw[jhn];unfold zrV;refine cond_intro (fun h4=> ?_) fun h4=>cond_intro (fun h5=> ?_) fun h5=> ?_
 ·have h4:t.k=4:=by simpa using h4
  refine c_t (jaa ⟨(hc.2 h4).1,(hc.2 h4).2,by decide⟩) fun s' e=> ?_
  rw[←e,show bz (ByteArray.mk #[48])=[48]from rfl,jhu,if_pos h4]
 ·have h5:t.k=5:=by simpa using h5
  rw[if_neg (by omega),if_pos h5];exact c_t (jaa hc.1) rfl
 ·have h4:t.k≠4:=by simpa using h4
  have h5:t.k≠5:=by simpa using h5
  rw[if_neg h4,if_neg h5]
theorem ok_Uv:jaw Tryz.prog Uv:=jao (jai (jai (jai jap (z22_eq▸ok22f)) (z20_eq▸ok20f)) ok101u) gen100
def toV(v:Vl)(f t:Ty):Int×Y×Int×Int:=
 if fit4 v f≠0 then(0,⟨#[]⟩,0,fit4 v f)else if chk4 t≠0 then(0,⟨#[]⟩,0,chk4 t)
 else if f.k=6∨t.k=6 then(if f.k≠t.k then(0,⟨#[]⟩,0,5)else(v.n,v.s,0,0))
 else if(cuV (jbk v f) t).2.2.2=none then((cuV (jbk v f) t).1,(cuV (jbk v f) t).2.1,(cuV (jbk v f) t).2.2.1,0)else(0,zrV t,4,0)
def toC(v:Vl)(f t:Ty):Prop:=t.s.size≤9223372036854775807∧f.s.size≤9223372036854775807∧v.s.size≤9223372036854775807
instance (v:Vl)(f t:Ty):Decidable (toC v f t):=by unfold toC;infer_instance
abbrev toR(v:Vl)(f t:Ty):Value:=tp3 (toV v f t).1 (toV v f t).2.1 (toV v f t).2.2.1 (I (toV v f t).2.2.2)
theorem hd_ok{v:Vl}{f t:Ty}{c:Bool}{X:Prop}(h:toC v f t)(hX:fit4 v f=0→chk4 t=0→f.k≠6→t.k≠6→c=true∧X):hd34 (fun x=>x=toR v f t) v f t c X:=by
 obtain⟨h1,h2,h3⟩:=h;unfold hd34;rw[jla,jlf];refine c_t (jaa ⟨h2,h3⟩) (cond_intro (fun e=> ?_) (fun e=>c_t (jaa h1) (cond_intro (fun e'=> ?_) (fun e'=>c_t (Bool.or_true _) (cond_intro (fun e6=>cond_intro (fun g=> ?_) (fun g=> ?_)) (fun e6=> ?_))))))
 ·have e:fit4 v f≠0:=by simpa using e
  unfold toR toV;rw[if_pos e]
 ·have e:¬fit4 v f≠0:=by simpa using e
  have e':chk4 t≠0:=by simpa using e'
  unfold toR toV;rw[if_neg e,if_pos e']
 ·have e:¬fit4 v f≠0:=by simpa using e
  have e':¬chk4 t≠0:=by simpa using e'
  unfold toR toV;rw[if_neg e,if_neg e',if_pos (by simpa using e6),if_pos (by simpa using g)]
 ·have e:¬fit4 v f≠0:=by simpa using e
  have e':¬chk4 t≠0:=by simpa using e'
  unfold toR toV;rw[if_neg e,if_neg e',if_pos (by simpa using e6),if_neg (by simpa using g)]
 ·have e6:f.k≠6∧t.k≠6:=by simpa using e6
  obtain⟨a,b⟩:=hX (by simpa using e) (by simpa using e') e6.1 e6.2;exact c_t a b
def earl(v:Vl)(f t:Ty):Prop:=fit4 v f≠0∨chk4 t≠0∨f.k=6∨t.k=6
instance (v:Vl)(f t:Ty):Decidable (earl v f t):=by unfold earl;infer_instance
def s34i(c:Vl→Ty→Bool×Value)(b:Bool)(v:Vl)(f t:Ty):Bool×Value:=(decide (toC v f t) && (decide (earl v f t) || (c v f).1&&cuK b (jbk v f) t),toR v f t)
theorem i_c{c:Vl→Ty→Bool×Value}{b:Bool}{v:Vl}{f t:Ty}(h:(s34i c b v f t).1=true):toC v f t∧(fit4 v f=0→chk4 t=0→f.k≠6→t.k≠6→(c v f).1=true∧cuK b (jbk v f) t=true):=by
 have h:(decide (toC v f t) && (decide (earl v f t) || (c v f).1&&cuK b (jbk v f) t))=true:=h;rw[jaf,Bool.or_eq_true,jaf]at h;refine⟨jab h.1,fun h1 h2 h3 h4=>h.2.resolve_left fun e=> ?_⟩;rcases jab e with e | e | e | e
 ·exact e h1
 ·exact e h2
 ·exact h3 e
 ·exact h4 e
theorem tl_y{v:Vl}{f t:Ty}{g:Fu}(hg:jbk v f=g)(h1:fit4 v f=0)(h2:chk4 t=0)(h3:f.k≠6)(h4:t.k≠6)(hk:cuK true (jbk v f) t=true):tl34 (fun x=>x=toR v f t) g t:=by
 subst hg;refine c_t hk ?_;have hn:(cuV (jbk v f) t).2.2.2=none:=by simpa using(jig.1 hk).2
 rw[cuO_eq];unfold toR toV;rw[if_neg (by simp[h1]),if_neg (by simp[h2]),if_neg (by simp[h3,h4]),if_pos hn]
theorem tl_n{v:Vl}{f t:Ty}{g:Fu}(hs:t.s.size≤9223372036854775807)(hg:jbk v f=g)(h1:fit4 v f=0)(h2:chk4 t=0)(h3:f.k≠6)(h4:t.k≠6)(hk:cuK false (jbk v f) t=true):tn34 (fun x=>x=toR v f t) g t:=by
 subst hg;refine c_t hk (c_t (jaa ⟨hs,fun q=>p1000 h2 (.inr q)⟩) ?_)
 have hn:¬(cuV (jbk v f) t).2.2.2=none:=by
  have:=(jig.1 hk).2;intro e;rw[e]at this;cases this
 rw[jhn];unfold toR toV;rw[if_neg (by simp[h1]),if_neg (by simp[h2]),if_neg (by simp[h3,h4]),if_neg hn]
theorem fm_w{v:Vl}{f:Ty}(h:(s97w v f).1=true):jbk v f= .w v.n f:=if_pos (jab h)
theorem fm_b{v:Vl}{f:Ty}(h:(s97b v f).1=true):jbk v f= .b v.s:=by
 have h:f.k=4:=jab h;unfold jbk;rw[if_neg (by omega),if_pos h]
theorem fm_p{v:Vl}{f:Ty}(h:(s97p v f).1=true):jbk v f= .p v.s f.s:=by
 have h:f.k=5∧pN (bz f.s)=true∧f.s.size≤9223372036854775807:=jab h;unfold jbk;rw[if_neg (by omega),if_neg (by omega),if_pos ⟨h.1,h.2.1⟩]
theorem fm_c{v:Vl}{f:Ty}(h:(s97c v f).1=true):jbk v f= .c v.s:=by
 have h:¬(f.k=1∨f.k=2)∧f.k≠4∧(f.k=5→ ¬pN (bz f.s)=true)∧f.s.size≤9223372036854775807:=jab h;unfold jbk;rw[if_neg h.1,if_neg h.2.1,if_neg fun q=>h.2.2.1 q.1 q.2]
theorem ok_Uy{c:Vl→Ty→Bool×Value}(h:jam Tryz.prog 97 (sp2 c)):jaw Tryz.prog (Uy c):=jai (jai ok_Uv h) ok99y
theorem ok_Un{c:Vl→Ty→Bool×Value}(h:jam Tryz.prog 97 (sp2 c)):jaw Tryz.prog (Un c):=jai (jai ok_Uv h) ok99n
theorem jkz{c:Vl→Ty→Bool×Value}{g:Vl→Ty→Fu}(h:jam Tryz.prog 97 (sp2 c))(hg:∀v f,(c v f).1=true→jbk v f=g v f)
  (hu:∀(v:Vl)(f t:Ty)(R:Value→Prop),jaz Tryz.prog (Uy c) noL Tryz.f34 [Enc.enc v,Enc.enc f,Enc.enc t] (fun _=>none) 0 (fun v _ _=>R v)=hd34 R v f t (c v f).1 (tl34 R (g v f) t)):jam Tryz.prog 34 (sp3 (s34i c true)):=by
 refine jgf (ok_Uy h) hmix fn34 jak jag fun v f t hc=> ?_
 obtain⟨h1,h2⟩:=i_c hc;rw[ja0,hu];exact hd_ok h1 fun a b d e=>⟨(h2 a b d e).1,tl_y (hg v f (h2 a b d e).1) a b d e (h2 a b d e).2⟩
theorem jk5{c:Vl→Ty→Bool×Value}{g:Vl→Ty→Fu}(h:jam Tryz.prog 97 (sp2 c))(hg:∀v f,(c v f).1=true→jbk v f=g v f)
  (hu:∀(v:Vl)(f t:Ty)(R:Value→Prop),jaz Tryz.prog (Un c) noL Tryz.f34 [Enc.enc v,Enc.enc f,Enc.enc t] (fun _=>none) 0 (fun v _ _=>R v)=hd34 R v f t (c v f).1 (tn34 R (g v f) t)):jam Tryz.prog 34 (sp3 (s34i c false)):=by
 refine jgf (ok_Un h) hmix fn34 jak jag fun v f t hc=> ?_
 obtain⟨h1,h2⟩:=i_c hc;rw[ja0,hu];exact hd_ok h1 fun a b d e=>⟨(h2 a b d e).1,tl_n h1.1 (hg v f (h2 a b d e).1) a b d e (h2 a b d e).2⟩
def cF:Fin 4→Vl→Ty→Bool×Value
 | 0=>s97w
 | 1=>s97b
 | 2=>s97p
 | 3=>s97c
theorem ok34y:∀i,jam Tryz.prog 34 (sp3 (s34i (cF i) true))
 | 0=>jkz ok97w (fun _ _=>fm_w) u34yw
 | 1=>jkz ok97b (fun _ _=>fm_b) u34yb
 | 2=>jkz ok97p (fun _ _=>fm_p) u34yp
 | 3=>jkz ok97c (fun _ _=>fm_c) u34yc
theorem ok34n:∀i,jam Tryz.prog 34 (sp3 (s34i (cF i) false))
 | 0=>jk5 ok97w (fun _ _=>fm_w) u34nw
 | 1=>jk5 ok97b (fun _ _=>fm_b) u34nb
 | 2=>jk5 ok97p (fun _ _=>fm_p) u34np
 | 3=>jk5 ok97c (fun _ _=>fm_c) u34nc
def s34u(v:Vl)(f t:Ty):Bool×Value:=(decide (toC v f t),toR v f t)
theorem cuF_of{v:Vl}{f:Ty}(hf:f.s.size≤9223372036854775807)(hv:v.s.size≤9223372036854775807)(h:fit4 v f=0):cuF (jbk v f):=by
 unfold fit4 at h;split at h
 ·rename_i q;exact absurd h q
 rename_i c1;split at h
 case isFalse=>cases h
 rename_i i1;have c1:chk4 f=0:=by simpa using c1
 unfold is4 at i1;unfold jbk;by_cases k12:f.k=1∨f.k=2
 ·rw[if_pos k12]at i1 ⊢
  have hV:ja9 f:=by
   unfold chk4 at c1;split at c1
   ·assumption
   ·rw[if_neg (by omega),if_neg (by omega),if_neg (by omega),if_neg (by omega)]at c1;cases c1
  have hb:=Fx.bnd_range hV;have i1:Fx.fits v f=0:=by simpa using i1
  unfold Fx.fits at i1;rw[if_pos hV]at i1;split at i1
  ·rename_i hF;obtain⟨-,g1,g2⟩:=hF;exact⟨hV,by omega,by omega⟩
  ·cases i1
 ·rw[if_neg k12]at i1 ⊢;by_cases k4:f.k=4
  ·rw[if_pos k4];rw[if_neg (by omega),if_pos k4]at i1;simp only[jaf,jae]at i1;have:=p1000 c1 (.inr k4)
   have h64:f.p≤64:=by
    unfold chk4 at c1;rw[if_neg (fun q=>k12 q.1),if_neg (by omega)]at c1;split at c1
    ·rename_i q;exact q.2.2.2.2.2
    ·rw[if_neg (by omega),if_neg (by omega)]at c1;cases c1
   exact⟨i1.2,by omega⟩
  ·rw[if_neg k4];split
   ·rename_i q;exact⟨q.2,hv,hf⟩
   ·exact hv
theorem ok34u:jam Tryz.prog 34 (sp3 s34u):=by
 refine jgq (T:=fun i:Fin 4×Bool=>sp3 (s34i (cF i.1) i.2)) (0,true) (fun i=> ?_) fun args bs r hs=> ?_
 ·obtain⟨i,b⟩:=i;cases b
  ·exact ok34n i
  ·exact ok34y i
 ·unfold sp3 at hs;split at hs
  case h_2=>cases hs
  split at hs
  case h_2=>cases hs
  rename_i v f t hv hf ht;simp only[s34u,Option.some.injEq,Prod.mk.injEq]at hs;obtain⟨hc,rfl⟩:=hs;have hC:=jab hc
  have key:∃i:Fin 4×Bool,(decide (earl v f t) || (cF i.1 v f).1&&cuK i.2 (jbk v f) t)=true:=by
   by_cases he:earl v f t
   ·exact⟨(0,true),by rw[jaa he];rfl⟩
   have h1:fit4 v f=0:=Classical.not_not.1 fun q=>he (.inl q)
   have h2:chk4 t=0:=Classical.not_not.1 fun q=>he (.inr (.inl q))
   have h4:t.k≠6:=fun q=>he (.inr (.inr (.inr q)))
   have hk:cuK (cuV (jbk v f) t).2.2.2.isNone (jbk v f) t=true:=jig.2 ⟨⟨cuF_of hC.2.1 hC.2.2 h1,h2,h4,hC.1⟩,rfl⟩
   have hi:∃i,(cF i v f).1=true:=by
    by_cases k12:f.k=1∨f.k=2
    ·exact⟨0,jaa k12⟩
    by_cases k4:f.k=4
    ·exact⟨1,jaa k4⟩
    by_cases k5:f.k=5∧pN (bz f.s)=true
    ·exact⟨2,jaa ⟨k5.1,k5.2,hC.2.1⟩⟩
    ·exact⟨3,jaa ⟨k12,k4,fun q w=>k5 ⟨q,w⟩,hC.2.1⟩⟩
   obtain⟨i,hi⟩:=hi;exact⟨(i,_),by rw[hi,hk];simp⟩
  obtain⟨i,hi⟩:=key;refine⟨i,?_⟩;unfold sp3;simp only[hv,hf,ht];refine congrArg some (Prod.ext ?_ rfl);show(decide (toC v f t) &&_)=true;rw[hc,hi];rfl
instance tabsV1:Tabs:=tabs
def E0:Env:=Env.nil.addG 29 (hideS (sp1 s29))
theorem ok_E0:jaw Tryz.prog E0:=jao jap (jcu ok29)
def fiL(s c:Y)(n:Int):Y:=if(s.size:Int)<n then szO (jd5 (bz s) n.toNat ((bz c).headD 0))else s
theorem fill_snoc(l:J)(n:Nat)(x:Int)(h:l.length<n):jd5 (l++ [x]) n x=jd5 l n x:=by
 unfold jd5;rw[List.take_of_length_le (by simp;omega),List.take_of_length_le (by omega),List.append_assoc,List.length_append];congr 1;rw[show n-l.length=(n-(l.length+1))+1 by omega,List.replicate_succ];rfl
theorem ito01:itoZ 0=[48]∧itoZ 1=[49]:=⟨by kernel_rfl,by kernel_rfl⟩
theorem bz_one{c:Y}(h:c.size=1):bz c=[(bz c).headD 0]:=by
 have:(bz c).length=1:=by rw[jal,h]
 match e:bz c,this with
 | [x],_=>rfl
def V102_0:Y×Int×Y×Y→E:=fun(s,n,c,r)=> [S s,I n,S c,S r]
def B102_0:Y×Int×Y×Y→O:=fun _=> []
def S102_0:LSpec (Y×Int×Y×Y) where
 live:=[0,1,2,6]
 mid:=[]
 n:=40
 dec vs bs:=match vs,bs with | [.string s,.int .i64 n,.string c,.string r],[]=>some (s,n,c,r) | _,_=>none
 pre:=fun(s,n,c,r)=>decide (c.size=1∧n≤1000∧((s.size:Int)<n→s.size≤1000))
 fin:=fun(s,n,c,r) Z=>Z (.exit 0) [S (fiL s c n),I n,S c,S r] []
theorem r102_0(s:Y)(n:Int)(c:Y)(r:Y)(jk:Tmps)(R:Exit→E→O→Prop):(jbp Tryz.prog E0 noL Tryz.f102.ntmps (ja6 Tryz.f102 0) (tl S102_0.live (V102_0 (s,n,c,r)) jk) (ml S102_0.mid (B102_0 (s,n,c,r))) S102_0.n fun e t' m' _=>R e (List.map t' S102_0.live) (List.map m' S102_0.mid))=(bif b8 (am s) n then bm (ew s c) R [] [S (s++c),ak n,S c,S r]else R (.exit 0) [S s,ak n,S c,S r] []):=by kernel_rfl
theorem l102_0:LOKf Tryz.prog (oneL 0 S102_0.h) Tryz.f102:=by
 refine jbe (h:=S102_0.h) (by kernel_rfl) (ja7 ok_E0 hmix (by kernel_rfl) (ja1 _) S102_0 V102_0 B102_0 (fun(s,n,c,r)=>(n-s.size).toNat) ?_ ?_ ?_)
 ·intro vs bs s h;simp only[S102_0]at h;split at h
  all_goals first | (cases h;exact⟨rfl,rfl⟩) | cases h | (split at h<;>first | (rename_i hq;cases h;have hq:=jah hq;subst hq;exact⟨rfl,rfl⟩) | cases h)
 ·exact fun _ _ _ h=>h
 ·intro⟨s,n,c,r⟩ jk Z hp hf;rw[r102_0];delta ak bm ew b8 am;simp only[S102_0]at hp hf;have hp:=jab hp;obtain⟨h1,h2,h3⟩:=hp;apply cond_intro<;>intro h
  ·have h:=jab h;have z:(s++c).size=s.size+1:=by rw[ByteArray.size_append,h1]
   refine c_t (fitN (by rw[h1];omega)) ?_;refine⟨(s++c,n,c,r),rfl,rfl,by simp only[S102_0,jae];exact⟨h1,h2,fun _=>by omega⟩,by simp only[z];omega,?_⟩;simp only[S102_0]at hf ⊢
   have e:fiL (s++c) c n=fiL s c n:=by
    unfold fiL;rw[if_pos h];have hb:=bz_one h1;split
    ·rw[jbr,hb];exact congrArg szO (fill_snoc _ _ _ (by rw[jal];omega))
    ·have hn:n.toNat=s.size+1:=by omega
     refine jgn ?_;rw[jbr];unfold jd5;rw[List.take_of_length_le (by rw[jal];omega),jal,hn,show s.size+1-s.size=1 by omega];exact congrArg (bz s++ ·) hb
   rw[e];exact hf
  ·have h:=jac h;have e:fiL s c n=s:=if_neg h;rw[e]at hf;exact hf
def s102(s:Y)(n:Int)(c:Y):Bool×Value:=(decide (c.size=1∧0≤n∧n≤1000∧s.size≤9223372036854775807),S (fiU s n ((bz c).headD 0)))
theorem fn102:Fn1 Tryz.prog 102 Tryz.f102:= .m Tryz.func102
theorem v102(s:Y)(n:Int)(c:Y)(R:Value→Prop):jaz Tryz.prog E0 (oneL 0 S102_0.h) Tryz.f102 [Enc.enc s,Enc.enc n,Enc.enc c] (fun _=>none) 0 (fun v _ _=>R v)=(go (S102_0.pre (s,(n,(c,ao)))) (o4 ((fiL s c n).extract 0 n.toNat) n (cw (fiL s c n)) R) Tmps):=by kernel_rfl
theorem ok102:jam Tryz.prog 102 (sp3 s102):=by
 refine jgf ok_E0 hmix fn102 l102_0 jag fun s n c hc=> ?_
 rw[ja0,v102];delta go ay d5 o4 cw ao;have hc:(c.size=1∧0≤n∧n≤1000∧s.size≤9223372036854775807):=jab hc
 try dsimp only[s102]
 obtain⟨c1,c2,c3,c4⟩:=hc
 have e:(fiL s c n).extract 0 n.toNat=fiU s n ((bz c).headD 0)∧n≤((fiL s c n).size:Int):=by
  unfold fiL;split
  ·have z:(szO (jd5 (bz s) n.toNat ((bz c).headD 0))).size=n.toNat:=by
    rw[jci];unfold jd5;rw[List.length_append,List.length_take,List.length_replicate];omega
   refine⟨?_,by omega⟩;refine jlh ?_;rw[jdo,List.take_of_length_le (by rw[jal];omega)];rfl
  ·rename_i h;refine⟨jgn ?_,by omega⟩;unfold jd5;rw[jdo,jal,show n.toNat-s.size=0 by omega,List.replicate_zero,List.append_nil]
 refine c_t (jaa ⟨c1,c3,fun _=>by omega⟩) fun x=>c_t (jaa ⟨by omega,c2,e.2⟩) ?_
 rw[e.1]
def V177_0:Int×Int×Y×Y×Int→E:=fun(n,w,r,s,i)=> [I n,I w,S r,S s,I i]
def B177_0:Int×Int×Y×Y×Int→O:=fun _=> []
def S177_0:LSpec (Int×Int×Y×Y×Int) where
 live:=[0,1,4,5,6]
 mid:=[]
 n:=40
 dec vs bs:=match vs,bs with | [.int .i64 n,.int .i64 w,.string r,.string s,.int .i64 i],[]=>some (n,w,r,s,i) | _,_=>none
 pre:=fun(n,w,r,s,i)=>decide (0≤n∧n≤4294967296∧0≤i∧i≤w∧w≤1000∧s.size=i.toNat)
 fin:=fun(n,w,r,s,i) Z=>∀n',Z (.exit 0) [I n',I w,S r,S (szO (inB (w-i).toNat n++bz s)),I w] []
theorem r177_0(n:Int)(w:Int)(r:Y)(s:Y)(i:Int)(jk:Tmps)(R:Exit→E→O→Prop):(jbp Tryz.prog E0 noL Tryz.f177.ntmps (ja6 Tryz.f177 0) (tl S177_0.live (V177_0 (n,w,r,s,i)) jk) (ml S177_0.mid (B177_0 (n,w,r,s,i))) S177_0.n fun e t' m' _=>R e (List.map t' S177_0.live) (List.map m' S177_0.mid))=(bif ct i w then oo (n.tmod 2) (∀a:Y,szO (itoZ (n.tmod 2))=a→bm (ew a s) R [] (kw (n.tdiv 2)::ak w::S r::S (a++s)::bp i))else R (.exit 0) [ak n,ak w,S r,S s,ak i] []):=by kernel_rfl
theorem l177_0:LOKf Tryz.prog (oneL 0 S177_0.h) Tryz.f177:=by
 refine jbe (h:=S177_0.h) (by kernel_rfl) (ja7 ok_E0 hmix (by kernel_rfl) (ja1 _) S177_0 V177_0 B177_0 (fun(n,w,r,s,i)=>(w-i).toNat) ?_ ?_ ?_)
 ·intro vs bs s h;simp only[S177_0]at h;split at h
  all_goals first | (cases h;exact⟨rfl,rfl⟩) | cases h | (split at h<;>first | (rename_i hq;cases h;have hq:=jah hq;subst hq;exact⟨rfl,rfl⟩) | cases h)
 ·exact fun _ _ _ h=>h
 ·intro⟨n,w,r,s,i⟩ jk Z hp hf;rw[r177_0];delta ak d8 oo bm au bu bp kw ew ct;simp only[S177_0]at hp hf;have hp:=jab hp;have em:n.tmod 2=n%2:=Int.tmod_eq_emod_of_nonneg (by omega);have ed:n.tdiv 2=n/2:=Int.tdiv_eq_ediv_of_nonneg (by omega);rw[em,ed];apply cond_intro<;>intro h
  ·have h:=jab h;refine c_t (jaa (by omega)) fun s' hs=> ?_
   have b1:bz s'=[48+n%2]:=by
    rw[←hs,jcp (jfe _)];have:n%2=0∨n%2=1:=by omega
    rcases this with q | q<;>rw[q]
    ·exact ito01.1
    ·exact ito01.2
   have z1:s'.size=1:=by rw[←jal,b1];rfl
   refine c_t (fitN (by omega)) ?_;rw[w64 (n:=n/2) (by omega),w64 (n:=i+1) (by omega)];refine⟨(n/2,w,r,s'++s,i+1),rfl,rfl,by simp only[S177_0,jae];exact⟨by omega,by omega,by omega,by omega,by omega,by rw[ByteArray.size_append];omega⟩,by simp only;omega,?_⟩;simp only[S177_0]at hf ⊢;have e:(w-i).toNat=(w-(i+1)).toNat+1:=by omega
   rw[e,inB,List.append_assoc]at hf;rw[jbr,b1];exact hf
  ·have h:=jac h;have e:i=w:=by omega
   subst e;have:=hf n;rw[Int.sub_self,Int.toNat_zero,inB,List.nil_append,jcw,jf6]at this;exact this
def s177(n:Int)(w:Int):Bool×Value:=(decide (0≤n∧n≤4294967296∧0≤w∧w≤1000),S (szO (inB w.toNat n)))
theorem fn177:Fn1 Tryz.prog 177 Tryz.f177:= .m Tryz.func177
theorem v177(n:Int)(w:Int)(R:Value→Prop):jaz Tryz.prog E0 (oneL 0 S177_0.h) Tryz.f177 [Enc.enc n,Enc.enc w] (fun _=>none) 0 (fun v _ _=>R v)=(go (S177_0.pre (n,(w,(ao,(ao,(0:Int)))))) (Tmps→R (S (szO (inB (Int.toNat (w-0)) n++ [])))) Int):=by kernel_rfl
theorem ok177:jam Tryz.prog 177 (sp2 s177):=by
 refine jcj ok_E0 hmix fn177 l177_0 jag fun n w hc=> ?_
 rw[ja0,v177];delta go ao;have hc:(0≤n∧n≤4294967296∧0≤w∧w≤1000):=jab hc
 try dsimp only[s177]
 refine c_t (jaa ⟨by omega,by omega,by omega,by omega,by omega,rfl⟩) fun n' x=> ?_
 rw[Int.sub_zero,List.append_nil]
instance tabsU9:Tabs:=tabs
def Y0:Env:=Env.nil
theorem ok_Y0:jaw Tryz.prog Y0:=jap
def s96(v:Vl):Bool×Value:=(true,B (decide ((v.s.size:Int)>2000)))
theorem fn96:Fn1 Tryz.prog 96 Tryz.f96:= .m Tryz.func96
theorem v96(v:Vl)(R:Value→Prop):jaz Tryz.prog Y0 noL Tryz.f96 [Enc.enc v] (fun _=>none) 0 (fun v _ _=>R v)=(R (B (decide ((v.s.size:Int)>2000)))):=by kernel_rfl
theorem ok96:jam Tryz.prog 96 (sp1 s96):=by
 refine jby ok_Y0 hmix fn96 jak jag fun v hc=> ?_
 rw[ja0,v96]
 try dsimp only[s96]
theorem fn165:Fn1 Tryz.prog 165 Tryz.f165:= .m Tryz.func165
theorem fn95:Fn1 Tryz.prog 95 Tryz.f95:= .m Tryz.func95
theorem fn31:Fn1 Tryz.prog 31 Tryz.f31:= .m Tryz.func31
theorem ex_to(v:Vl)(f t:Ty):∃x:Int×Y×Int×Int,x=toV v f t:=⟨_,rfl⟩
def toH(v:Vl)(f t:Ty):Int×Y×Int×Int:=Classical.choose (ex_to v f t)
theorem toH_eq(v:Vl)(f t:Ty):toH v f t=toV v f t:=Classical.choose_spec (ex_to v f t)
def s34h(v:Vl)(f t:Ty):Bool×Value:=(decide (toC v f t),tp3 (toH v f t).1 (toH v f t).2.1 (toH v f t).2.2.1 (I (toH v f t).2.2.2))
theorem s34h_eq:s34h=s34u:=by funext v f t;unfold s34h s34u;rw[toH_eq]
theorem fill_isB{l:J}(hl:IsB l){q:Nat}{c:Int}(hc:0≤c∧c<256):IsB (jd5 l q c):=(hl.take _).append fun x hx=>by rw[List.eq_of_mem_replicate hx];omega
theorem bz_fi{s:Y}{n c:Int}(hc:0≤c∧c<256):bz (fiU s n c)=jd5 (bz s) n.toNat c:=jcp (fill_isB (jdq s) hc)
instance tabsU10:Tabs:=tabs
end Go.Cx
end
noncomputable section
namespace Go.Px
open Go Go.Ab Go.Proofs
end Go.Px
end
noncomputable section
set_option maxHeartbeats 3200000
namespace Go.Cx
open Go Go.Ab Go.Proofs Go.Shelf Go.Px Go.Cv
open Go.Fx (Ty Vl check ja9 most base pw bnd Fit fits tv vv tup V0 T0 jbh jbl jbc jbx str0 scl cutN cutC InB)
theorem fit0{v:Vl}{t:Ty}:fit4 v t=0↔chk4 t=0∧is4 v t=true:=by
 unfold fit4;split
 ·rename_i h;exact⟨fun q=>absurd q h,fun q=>absurd q.1 h⟩
 ·rename_i h;have h:chk4 t=0:=by simpa using h
  split
  ·rename_i g;exact⟨fun _=>⟨h,g⟩,fun _=>rfl⟩
  ·rename_i g;exact⟨fun q=>absurd q (by decide),fun q=>absurd q.2 g⟩
theorem chk_v{t:Ty}(h:chk4 t=0)(h1:t.k=1∨t.k=2):ja9 t:=by
 unfold chk4 at h;split at h
 ·assumption
 ·rw[if_neg (by omega),if_neg (by omega),if_neg (by omega),if_neg (by omega)]at h;cases h
theorem chk_p{t:Ty}(h:chk4 t=0)(h1:t.k=5):vOK (bz t.s)=true:=(k5_of h (by omega) (by omega) (by omega) (by omega)).2
end Go.Cx
end
noncomputable section
set_option maxHeartbeats 3200000
namespace Go.Cx
open Go Go.Ab Go.Proofs Go.Shelf Go.Px Go.Cv
open Go.Fx (Ty Vl check ja9 most base pw bnd Fit fits tv vv tup V0 T0 jbh jbl jbc jbx str0)
end Go.Cx
end
noncomputable section
set_option maxHeartbeats 3200000
namespace Go.Cx
open Go Go.Ab Go.Proofs Go.Shelf Go.Px Go.Cv
open Go.Fx (Ty Vl check ja9 most base pw bnd Fit fits tv vv tup V0 T0 jbh jbl jbc jbx str0 scl cutN cutC InB)
theorem chk_ar{t:Ty}(h:ja9 t):chk4 t=0:=by unfold chk4;rw[if_pos h]
end Go.Cx
end
noncomputable section
set_option maxHeartbeats 3200000
namespace Go.Cx
open Go Go.Ab Go.Proofs Go.Shelf Go.Px Go.Cv
open Go.Fx (Ty Vl check ja9 most base pw bnd Fit fits tv vv tup V0 T0 jbh jbl jbc jbx str0)
instance tabsV2:Tabs:=tabs
def E1:Env:=((((((Env.nil.add 110 (sp1 s110)).add 111 (sp1 Px.s47)).add 149 (sp2 Px.s23)).add 68 (sp1 s68)).add 178 (sp2 s178)).add 116 (sp1 s116)).add 177 (sp2 s177)
def E2:Env:=E1.add 74 (sp1 s74)
theorem ok_E2:jaw Tryz.prog E2:=jai (jai (jai (jai (jai (jai (jai (jai jap ok110) Px.ok47) Px.ok23) ok68) ok178) ok116) ok177) ok74
def E3:Env:=(((((((Env.nil.add 110 (sp1 s110)).add 111 (sp1 Px.s47)).add 149 (sp2 Px.s23)).add 68 (sp1 s68)).add 29 (sp1 s29)).add 80 (sp3 s80)).add 82 (sp1 s82)).add 81 (sp2 Px.s87)
def E4:Env:=E3.add 25 (sp1 s25)
theorem ok_E4:jaw Tryz.prog E4:=jai (jai (jai (jai (jai (jai (jai (jai (jai jap ok110) Px.ok47) Px.ok23) ok68) ok29) ok80) ok82) Px.ok87) ok25
def arK(v:Vl)(t:Ty):Prop:=ja9 t∧t.s.size≤9223372036854775807∧ -2147483648≤v.n∧v.n≤2147483648
instance (v:Vl)(t:Ty):Decidable (arK v t):=by unfold arK;infer_instance
abbrev nuV(x:Num)(b:Bool):Value:= .tuple ⟨[numV x,B b]⟩
abbrev biV(x:Y)(b:Bool):Value:= .tuple ⟨[S x,B b]⟩
theorem divT_pw:∀(k:Nat)(n:Int),0≤n→divT k n=n/10^k
 | 0,n,_=>by simp[divT]
 | k+1,n,h=>by
  rw[divT,divT_pw k (n/10) (Int.ediv_nonneg h (by decide)),Int.pow_succ,Int.mul_comm,Int.ediv_ediv_of_nonneg (by decide:(0:Int)≤10)]
theorem numT_f{t:Ty}(h:t.k=1∨t.k=2):numT t=false:=by
 unfold numT;rw[show(t.k==5)=false from beq_eq_false_iff_ne.2 (by omega)];rfl
theorem jhb{t:Ty}:numT t=true↔t.k=5∧pN (bz t.s)=true:=by
 unfold numT;rw[jaf,beq_iff_eq]
theorem jhm{v:Vl}{t:Ty}(h:arK v t):imax v.n (IntKind.wrap .i64 (0-v.n))=absI v.n∧0≤absI v.n∧absI v.n≤2147483648∧IntKind.wrap .i64 (pw 10 t.q)=pw 10 t.q∧1≤pw 10 t.q∧
  (absI v.n).tdiv (pw 10 t.q)=divT t.q.toNat (absI v.n)∧0≤divT t.q.toNat (absI v.n)∧divT t.q.toNat (absI v.n)≤2147483648∧bwT t=jd6 t∧scal t=0∧0≤jd6 t∧jd6 t≤1000:=by
 obtain⟨hV,-,h1,h2⟩:=h;have hq:=Fx.valid_r hV;have a0:0≤absI v.n∧absI v.n≤2147483648:=by unfold absI;split<;>omega
 have hr:=jjk t.q.toNat _ a0.1;refine⟨?_,a0.1,a0.2,jbx (.inl ⟨rfl,by omega⟩),Fx.pw_pos (by decide) _,?_,hr.1,by omega,?_,?_,?_⟩
 ·rw[w64 (n:=0-v.n) (by omega),jja];unfold absI;split<;>omega
 ·rw[Int.tdiv_eq_ediv_of_nonneg a0.1,divT_pw _ _ a0.1];rfl
 ·unfold bwT;rw[if_pos hV.1];rfl
 ·unfold scal;rw[if_neg (by have:=hV.1;omega)];exact chk_ar hV
 ·unfold jd6;split<;>omega
def bitA(v:Vl)(t:Ty):Y:=szO (inB (jd6 t).toNat (divT t.q.toNat (absI v.n)))
def s103a(v:Vl)(t:Ty):Bool×Value:=(decide (arK v t),biV (bitA v t) true)
theorem fn103:Fn1 Tryz.prog 103 Tryz.f103:= .m Tryz.func103
def nl(d f:Bool)(a:Fx.Ty)(b:Fx.Vl)(c e g h:Prop):Prop:=bif decide (sz63 a)then bif numT a then bif dp (Fx.Ty.s a)then ia (g0 (Fx.Vl.s b) (Fx.Ty.s a).size 9223372036854775807 9223372036854775807) c else False else bif decide (Fx.ja9 a)then ia d e else av f g h else False
def qx(a:Fx.Ty)(b:Fx.Vl)(c:Value→Prop):Prop:=px (decide (sz63 a∧scal a=0)) (kc 0 (aw ((imax (Fx.Vl.n b) (cm 0 (Fx.Vl.n b))).tdiv (IntKind.i64.wrap (Fx.pw 10 (Fx.Ty.q a)))) .i64) 4294967296 0 (bwT a) 1000) (Fx.pw 10 (Fx.Ty.q a)) .i64 (c (du jb (.string (szO (inB (bwT a).toNat (aw ((imax (Fx.Vl.n b) (cm 0 (Fx.Vl.n b))).tdiv (IntKind.i64.wrap (Fx.pw 10 (Fx.Ty.q a)))) .i64))))))
theorem v103a(v:Vl)(t:Ty)(R:Value→Prop):jaz Tryz.prog E2 noL Tryz.f103 [Enc.enc v,Enc.enc t] (fun _=>none) 0 (fun v _ _=>R v)=(nl (decide (Fx.Ty.q t≤1000)) (dp (Fx.Vl.s v)) t v False (qx t v R) (R (du [B (jcb (i6 v))] (S (Fx.Vl.s v)))) False):=by kernel_rfl
theorem ok103a:jam Tryz.prog 103 (sp2 s103a):=by
 refine jcj ok_E2 hmix fn103 jak jag fun v t hc=> ?_
 rw[ja0,v103a];delta av ia g0 dp nl du i6 px aw cm jb kc qx;have hc:(arK v t):=jab hc
 try dsimp only[s103a]
 obtain⟨a1,a2,a3,a4,a5,a6,a7,a8,a9,a10,a11,a12⟩:=jhm hc;obtain⟨hV,hs,h1,h2⟩:=hc;have hq:=Fx.valid_r hV;rw[a1,a4,a6,w64 (n:=divT _ _) (by omega),a9];exact c_t (jaa hs) (c_f (numT_f hV.1) (c_t (jaa hV) (c_t (jaa (by omega)) (c_t (jaa (by omega)) (c_t (jaa ⟨hs,a10⟩) (c_t (jaa (by omega)) rfl))))))
def s106a(v:Vl)(t:Ty):Bool×Value:=(decide (arK v t),nuV (numA v.n t.q) true)
theorem fn106:Fn1 Tryz.prog 106 Tryz.f106:= .m Tryz.func106
theorem v106a(v:Vl)(t:Ty)(R:Value→Prop):jaz Tryz.prog E4 noL Tryz.f106 [Enc.enc v,Enc.enc t] (fun _=>none) 0 (fun v _ _=>R v)=(nl (d8 (-9223372036854775808) (imax (Fx.Vl.n v) (cv 0 (Fx.Vl.n v))) 9223372036854775807) (b4 t 4) t v False (nj (b8 (Fx.Vl.n v) 0) (szO (itoZ (imax (Fx.Vl.n v) (cv 0 (Fx.Vl.n v))))) (Fx.Ty.q t) 1000 (B true) R) (bif jcb (i6 v) &&decide ((Fx.Vl.s v).size≤64)then nk (b6 (binG (i6 v) 0) 18446744073709551616) (isTen 10) false (sz (decZ (binG (i6 v) 0))) 1000 (B true) R else False) (ay (dp (Fx.Vl.s v)) (.tuple (po (rdN (i6 v)))) R)):=by kernel_rfl
theorem ok106a:jam Tryz.prog 106 (sp2 s106a):=by
 refine jcj ok_E4 hmix fn106 jak jag fun v t hc=> ?_
 rw[ja0,v106a];delta av ia g0 dp nl ay b9 ku mb po i6 f0 ot md np nk b6 nj aw cv b8 b4 d8;have hc:(arK v t):=jab hc
 try dsimp only[s106a]
 obtain⟨a1,a2,a3,a4,a5,a6,a7,a8,a9,a10,a11,a12⟩:=jhm hc;obtain⟨hV,hs,h1,h2⟩:=hc;have hq:=Fx.valid_r hV;rw[a1,jcp (jfe _)];have hl:=jdz (m:=absI v.n) (by omega);exact c_t (jaa hs) (c_f (numT_f hV.1) (c_t (jaa hV) (c_t (jaa (by omega)) (c_t (jaa (by rw[jci];omega)) rfl))))
theorem kO_ex:∃d:Vl→Ty→Bool,∀v t,d v t=true↔cuF (jbk v t)∧chk4 t=0∧t.s.size≤9223372036854775807∧v.s.size≤9223372036854775807:=by
 classical
 exact⟨fun v t=>decide (cuF (jbk v t)∧chk4 t=0∧t.s.size≤9223372036854775807∧v.s.size≤9223372036854775807),fun v t=>by simp⟩
def kO:Vl→Ty→Bool:=Classical.choose kO_ex
theorem jj4{v:Vl}{t:Ty}:kO v t=true↔cuF (jbk v t)∧chk4 t=0∧t.s.size≤9223372036854775807∧v.s.size≤9223372036854775807:=Classical.choose_spec kO_ex v t
theorem nuO_ex:∃d:Vl→Ty→Num×Bool,∀v t,d v t=((numU (jbk v t)).getD num0,(numU (jbk v t)).isSome):=⟨_,fun _ _=>rfl⟩
def nuO:Vl→Ty→Num×Bool:=Classical.choose nuO_ex
theorem jim(v:Vl)(t:Ty):nuO v t=((numU (jbk v t)).getD num0,(numU (jbk v t)).isSome):=Classical.choose_spec nuO_ex v t
theorem biO_ex:∃d:Vl→Ty→Y×Bool,∀v t,d v t=((bitU (jbk v t)).getD v.s,(bitU (jbk v t)).isSome):=⟨_,fun _ _=>rfl⟩
def biO:Vl→Ty→Y×Bool:=Classical.choose biO_ex
theorem jli(v:Vl)(t:Ty):biO v t=((bitU (jbk v t)).getD v.s,(bitU (jbk v t)).isSome):=Classical.choose_spec biO_ex v t
def E5:Env:=E2.add 103 (sp2 s103a)
theorem ok_E5:jaw Tryz.prog E5:=jai ok_E2 ok103a
def E6:Env:=E4.add 106 (sp2 s106a)
theorem ok_E6:jaw Tryz.prog E6:=jai ok_E4 ok106a
def s103(v:Vl)(t:Ty):Bool×Value:=(kO v t,biV (biO v t).1 (biO v t).2)
theorem v103(v:Vl)(t:Ty)(R:Value→Prop):jaz Tryz.prog E5 noL Tryz.f103 [Enc.enc v,Enc.enc t] (fun _=>none) 0 (fun v _ _=>R v)=(nl (decide (Fx.Ty.q t≤1000)) (dp (Fx.Vl.s v)) t v (ay (decide (arK (Fx.Vl.mk (rdV (dy t) (i6 v)).fst ao) (lb (Fx.Ty.s t)))) (du jb (S (bitA (Fx.Vl.mk (rdV (dy t) (i6 v)).fst ao) (lb (Fx.Ty.s t))))) R) (qx t v R) (R (du [B (jcb (i6 v))] (S (Fx.Vl.s v)))) False):=by kernel_rfl
theorem ok103:jam Tryz.prog 103 (sp2 s103):=by
 refine jcj ok_E5 hmix fn103 jak jag fun v t hc=> ?_
 rw[ja0,v103];delta av ia g0 dp nl du i6 px aw cm jb kc qx ay ao lb dy
 try dsimp only[s103]
 obtain⟨hF,hk,hs,hvs⟩:=jj4.1 hc;refine c_t (jaa hs) (cond_intro (fun hN=> ?_) (fun hN=> ?_))
 ·obtain⟨h5,hp⟩:=jhb.1 hN;have hr:=rdV_r (t:=v.s) hp;have e:jbk v t= .p v.s t.s:=by unfold jbk;rw[if_neg (by omega),if_neg (by omega),if_pos ⟨h5,hp⟩]
  refine c_t (jaa hs) (c_t (jaa ⟨hs,hvs⟩) (c_t (jaa ⟨(pT_v hp).1,by show(ByteArray.mk #[]).size≤_;decide,by show _≤(rdV _ _).1;omega,by show(rdV _ _).1≤_;omega⟩) ?_));rw[jli,e];rfl
 have hN':¬(t.k=5∧pN (bz t.s)=true):=fun q=>by rw[jhb.2 q]at hN;cases hN
 apply cond_intro<;>intro hV
 ·have hV:ja9 t:=jab hV;have e:jbk v t= .w v.n t:=if_pos hV.1;rw[e]at hF;have hc:arK v t:=⟨hV,hs,hF.2.1,hF.2.2⟩
  obtain⟨a1,a2,a3,a4,a5,a6,a7,a8,a9,a10,a11,a12⟩:=jhm hc;have hq:=Fx.valid_r hV;rw[a1,a4,a6,w64 (n:=divT _ _) (by omega),a9];refine c_t (jaa (by omega)) (c_t (jaa (by omega)) (c_t (jaa ⟨hs,a10⟩) (c_t (jaa (by omega)) ?_)));rw[jli,e];rfl
 have hV:¬ja9 t:=jac hV;have h12:¬(t.k=1∨t.k=2):=fun q=>hV (chk_v hk q)
 refine c_t (jaa hvs) ?_;rw[jli];by_cases h4:t.k=4
 ·have e:jbk v t= .b v.s:=by unfold jbk;rw[if_neg h12,if_pos h4]
  rw[e]at hF ⊢;rw[hF.1];rfl
 ·have e:jbk v t= .c v.s:=by unfold jbk;rw[if_neg h12,if_neg h4,if_neg hN']
  rw[e];show Value.tuple ⟨[S v.s,B (jcb (bz v.s))]⟩=biV ((if jcb (bz v.s)=true then some v.s else none).getD v.s) (if jcb (bz v.s)=true then some v.s else none).isSome;cases jcb (bz v.s) <;>rfl
def s106(v:Vl)(t:Ty):Bool×Value:=(kO v t,nuV (nuO v t).1 (nuO v t).2)
theorem v106(v:Vl)(t:Ty)(R:Value→Prop):jaz Tryz.prog E6 noL Tryz.f106 [Enc.enc v,Enc.enc t] (fun _=>none) 0 (fun v _ _=>R v)=(nl (d8 (-9223372036854775808) (imax (Fx.Vl.n v) (cv 0 (Fx.Vl.n v))) 9223372036854775807) (b4 t 4) t v (ay (decide (arK (Fx.Vl.mk (rdV (dy t) (i6 v)).fst ao) (lb (Fx.Ty.s t)))) (f0 (mb (Prod.fst (numA (rdV (dy t) (i6 v)).fst (pQ (dy t)))) (Prod.snd (numA (rdV (dy t) (i6 v)).fst (pQ (dy t))))) (B true)) R) (nj (b8 (Fx.Vl.n v) 0) (szO (itoZ (imax (Fx.Vl.n v) (cv 0 (Fx.Vl.n v))))) (Fx.Ty.q t) 1000 (B true) R) (bif jcb (i6 v) &&decide ((Fx.Vl.s v).size≤64)then nk (b6 (binG (i6 v) 0) 18446744073709551616) (isTen 10) false (sz (decZ (binG (i6 v) 0))) 1000 (B true) R else False) (ay (dp (Fx.Vl.s v)) (.tuple (po (rdN (i6 v)))) R)):=by kernel_rfl
theorem ok106:jam Tryz.prog 106 (sp2 s106):=by
 refine jcj ok_E6 hmix fn106 jak jag fun v t hc=> ?_
 rw[ja0,v106];delta av ia g0 dp nl ay b9 ku mb po i6 f0 ot md np nk b6 nj aw cv b8 dy ao lb b4 d8
 try dsimp only[s106]
 obtain⟨hF,hk,hs,hvs⟩:=jj4.1 hc;refine c_t (jaa hs) (cond_intro (fun hN=> ?_) (fun hN=> ?_))
 ·obtain⟨h5,hp⟩:=jhb.1 hN;have hr:=rdV_r (t:=v.s) hp;have e:jbk v t= .p v.s t.s:=by unfold jbk;rw[if_neg (by omega),if_neg (by omega),if_pos ⟨h5,hp⟩]
  refine c_t (jaa hs) (c_t (jaa ⟨hs,hvs⟩) (c_t (jaa ⟨(pT_v hp).1,by show(ByteArray.mk #[]).size≤_;decide,by show _≤(rdV _ _).1;omega,by show(rdV _ _).1≤_;omega⟩) ?_));rw[jim,e];rfl
 have hN':¬(t.k=5∧pN (bz t.s)=true):=fun q=>by rw[jhb.2 q]at hN;cases hN
 apply cond_intro<;>intro hV
 ·have hV:ja9 t:=jab hV;have e:jbk v t= .w v.n t:=if_pos hV.1;rw[e]at hF;have hc:arK v t:=⟨hV,hs,hF.2.1,hF.2.2⟩
  obtain⟨a1,a2,a3,a4,a5,a6,a7,a8,a9,a10,a11,a12⟩:=jhm hc;have hq:=Fx.valid_r hV;have hl:=jdz (m:=absI v.n) (by omega);rw[a1,jcp (jfe _)];refine c_t (jaa (by omega)) (c_t (jaa (by rw[jci];omega)) ?_);rw[jim,e];rfl
 have hV:¬ja9 t:=jac hV;have h12:¬(t.k=1∨t.k=2):=fun q=>hV (chk_v hk q)
 apply cond_intro<;>intro h4
 ·have h4:t.k=4:=by simpa using h4
  have e:jbk v t= .b v.s:=by unfold jbk;rw[if_neg h12,if_pos h4]
  rw[e]at hF;have hb:=jiv hF.1 (by rw[jal];exact hF.2)
  have hd:(decZ (binG (bz v.s) 0)).length≤20:=by
   have:=jis 20 (binG (bz v.s) 0) hb.1 (Int.lt_of_lt_of_le hb.2 (by decide));unfold dz at this;split at this
   ·rename_i h0;rw[h0,decZ,Int.toNat_zero,Lib.decDigits_one (by decide)];decide
   ·exact this
  refine c_t (by rw[hF.1,jaa hF.2];rfl) (c_t (by rw[jaa hb];rfl) (c_t (jaa (by rw[jcf];omega)) ?_));rw[jim,e,jcy (show IsB (decZ (binG (bz v.s) 0))from zl_isB _)];rfl
 ·have h4:t.k≠4:=by simpa using h4
  have e:jbk v t= .c v.s:=by unfold jbk;rw[if_neg h12,if_neg h4,if_neg hN']
  refine c_t (jaa hvs) ?_;rw[jim,e];rfl
def isN(x:Num):Prop:=jd4 x.1 x.2.1 x.2.2=true
theorem jhc{g:Bool}{l:J}{q:Int}(h:jbu l=true)(hl:l.length≤400)(hq: -400≤q-l.length∧q≤400):isN (ja4 g l q):=by
 obtain⟨k,e1,e2⟩:=nz_val l;have hk:=jg3 l 48;unfold isN ja4;by_cases h0:nz l=[]
 ·rw[if_pos h0];rfl
 ·rw[if_neg h0];obtain⟨n1,n2⟩:=nz_head (l:=l);unfold jd4;simp only;rw[if_neg h0,nz_digs h,jaa (show(nz l).length≤400 by omega),jaa (show -400≤q-(((tlZ l 48).length:Int)-(nz l).length)∧q-(((tlZ l 48).length:Int)-(nz l).length)≤400 by omega)];have a1:((nz l).head?==some 48)=false:=by simpa using n1
  have a2:((nz l).getLast?==some 48)=false:=by simpa using n2
  rw[a1,a2];rfl
theorem expD_r{l:J}{e:Int}(h:expD l=some e):0≤e∧e≤99:=by
 unfold expD at h;split at h
 ·rename_i q;cases h;rw[←jgx];exact decG_rng q.2.2 q.2.1
 ·cases h
theorem expZ_r{l:J}{e:Int}(h:expZ l=some e): -99≤e∧e≤99:=by
 cases l with
 | nil=>cases h
 | cons c r=>
  rw[jgj]at h;split at h
  ·cases hd:expD r with
   | none=>rw[hd]at h;cases h
   | some x=>rw[hd]at h;cases h;have:=expD_r hd;simp only;omega
  ·split at h<;>(have:=expD_r h;omega)
theorem decR_num{g:Bool}{l:J}{x:Num}(hl:l.length≤255)(h:decR ja4 g l=some x):isN x:=by
 rw[jkt]at h;cases hd:decE l with
 | none=>rw[hd]at h;cases h
 | some e=>
  rw[hd]at h
  have he: -99≤e∧e≤99:=by
   unfold decE at hd;split at hd
   ·cases hd;omega
   ·exact expZ_r hd
  have h:decB g (Cv.ahead 69 l) e=some x:=h;unfold decB at h;split at h
  ·rename_i q;cases h;have h1:=jfz 69 l;have h2:=jfz 46 (Cv.ahead 69 l)
   have h3:(Cv.ahead 46 (Cv.ahead 69 l)).length+((past 46 (Cv.ahead 69 l)).getD []).length≤l.length:=by
    rw[jdw];split
    ·rw[Option.getD_some,List.length_drop];omega
    ·simp;omega
   refine jhc ?_ (by rw[List.length_append];omega) (by rw[List.length_append];omega);unfold jbu at*;rw[List.all_append,q.2.1,q.2.2];rfl
  ·cases h
theorem jjr{g:Bool}{l:J}{x:Num}(hl:l.length≤255)(h:bodR ja4 binD g l=some x):isN x:=by
 unfold bodR at h;split at h
 ·split at h
  ·rename_i q;cases h;have hr:=bin_31 q.2 (by rw[List.length_dropLast];exact q.1)
   have hn:(binD l.dropLast).length≤11:=by
    rw[binD,decZ,zl,List.length_map];have:=jgl 9 (binG l.dropLast 0).toNat (by omega);omega
   exact jhc (jhh 30 _ (by omega)).1 (by omega) (by omega)
  ·cases h
 ·exact decR_num hl h
theorem rdN_num{l:J}{x:Num}(h:rdN l=some x):isN x:=by
 unfold rdN at h;split at h
 ·cases h
 rename_i hl;have h1:=jjv (tlZ l 32) 32;have h2:=jg3 l 32;unfold numR at h;rw[trL_eq,trR_eq]at h;generalize trZ (tlZ l 32) 32=u at h h1;unfold sgnR at h;split at h
 ·cases h;rfl
 ·rename_i r _;exact jjr (by simp at h1;omega) h
 ·rename_i r _;exact jjr (by simp at h1;omega) h
 ·exact jjr (by omega) h
theorem numU_num{f:Fu}(h:cuF f){x:Num}(hx:numU f=some x):isN x:=by
 have hA:∀n q:Int,-2147483648≤n∧n≤2147483648→0≤q∧q≤9→isN (numA n q):=fun n q hn hq=>by
  have hm:0≤(if n<0 then -n else n)∧(if n<0 then -n else n)≤2147483648:=by split<;>omega
  have:=jdz hm;exact jhc (ito_digs hm).1 (by omega) (by omega)
 cases f with
 | w n u=>
  obtain⟨hv,h1,h2⟩:=h;cases hx;have:=Fx.valid_r hv;exact hA _ _ ⟨h1,h2⟩ (by omega)
 | b s=>
  cases hx;have hb:=jiv h.1 (by rw[jal];exact h.2);rw[←ji8];have hd:=jis 20 (binG (bz s) 0) hb.1 (Int.lt_of_lt_of_le hb.2 (by decide));refine jhc ?_ (by omega) (by omega);unfold dz;split
  ·rfl
  ·exact(jhh 30 _ (by omega)).1
 | c s=>exact rdN_num hx
 | p s pc=>
  cases hx;have hr:=rdV_r (t:=s) h.1;have:=(pT_v h.1).2;exact hA _ _ (by omega) this
instance tabsV3:Tabs:=tabs
theorem txO_ex:∃d:Vl→Ty→Y,∀v t,d v t=txtU (jbk v t):=⟨_,fun _ _=>rfl⟩
def txO:Vl→Ty→Y:=Classical.choose txO_ex
theorem jik(v:Vl)(t:Ty):txO v t=txtU (jbk v t):=Classical.choose_spec txO_ex v t
def s98h(v:Vl)(t:Ty):Bool×Value:=(kO v t,S (txO v t))
theorem tx_eq{v:Vl}{t:Ty}(hk:chk4 t=0):txS v t=txtU (jbk v t):=by
 unfold txS jbk;by_cases h1:t.k=1∨t.k=2
 ·rw[if_pos (chk_v hk h1),if_pos h1];rfl
 ·rw[if_neg (fun q=>h1 q.1),if_neg h1];split
  ·rfl
  ·split<;>rfl
theorem sp2_mono{g h:Vl→Ty→Bool×Value}(H:∀a b,(g a b).1=true→h a b=g a b){args:E}{bs:O}{v:Value}(hs:sp2 g args bs=some (true,v)):sp2 h args bs=some (true,v):=by
 unfold sp2 at hs ⊢;split at hs
 case h_2=>cases hs
 split at hs
 case h_2=>cases hs
 rename_i x y hx hy;cases hs':g x y with
 | mk c w=>
  rw[hs']at hs;cases hs;rw[H x y (by rw[hs']),hs']
theorem ok98h:jam Tryz.prog 98 (sp2 s98h):=by
 obtain⟨hc,hp⟩:=ok98;refine⟨hc,fun args v N w0 m ι w hrel hs hcc=>hp args v N w0 m ι w hrel (sp2_mono (fun a b h=> ?_) hs) hcc⟩;obtain⟨hF,hk,h1,h2⟩:=jj4.1 (show kO a b=true from h);unfold s98h s98;rw[show kO a b=true from h,jik,tx_eq hk,jaa];refine⟨h1,fun hV=> ?_⟩;rw[show jbk a b= .w a.n b from if_pos hV.1]at hF;exact hF.2
theorem tx_size{f:Fu}(h:cuF f):(txtU f).size≤9223372036854775807:=by
 cases f with
 | w n t=>
  have hq:=Fx.valid_r h.1;have h1:=(fixS_len (n:=n) (q:=t.q) h.2 (by omega)).1;have hw:0≤wid t∧wid t≤100:=by unfold wid;split<;>omega
  show(szO (txtZ n t)).size≤_;rw[jci];unfold txtZ;rw[List.length_append,List.length_replicate];omega
 | b s=>have:=h.2;show s.size≤_;omega
 | c s=>exact h
 | p s pc=>exact h.2.1
def E7:Env:=(Env.nil.add 102 (sp3 s102)).add 179 (sp1 Px.s55)
theorem ok_E7:jaw Tryz.prog E7:=jai (jai jap ok102) Px.ok55
def s104(t:Ty):Bool×Value:=(decide (chk4 t=0∧t.s.size≤9223372036854775807),.agg ⟨[I 0,S (zrO t)]⟩)
theorem fn104:Fn1 Tryz.prog 104 Tryz.f104:= .m Tryz.func104
theorem v104(t:Ty)(R:Value→Prop):jaz Tryz.prog E7 noL Tryz.f104 [Enc.enc t] (fun _=>none) 0 (fun v _ _=>R v)=(bif b4 t 4 then ay (decide (d9.size=1∧0≤Fx.Ty.p t∧Fx.Ty.p t≤1000∧ao.size≤9223372036854775807)) (b9 [ak 0,S (fiU ao (Fx.Ty.p t) ((bz d9).headD (0:Int)))]) R else bif b4 t 5 then ay (dp (Fx.Ty.s t)) (b9 [ak 0,S (sz (zeS (dy t)))]) R else R (Cs.io 0)):=by kernel_rfl
theorem ok104:jam Tryz.prog 104 (sp1 s104):=by
 refine jby ok_E7 hmix fn104 jak jag fun t hc=> ?_
 rw[ja0,v104];delta ao cu ak Cs.io ay b9 dy dp b4 d9;have hc:(chk4 t=0∧t.s.size≤9223372036854775807):=jab hc
 try dsimp only[s104]
 obtain⟨hk,hs⟩:=hc;rw[jhn];unfold zrV;refine cond_intro (fun h=> ?_) (fun h=>cond_intro (fun h5=> ?_) (fun h5=> ?_))
 ·have h4:t.k=4:=by simpa using h
  have hp:=p1000 hk (.inr h4);refine c_t (jaa ⟨rfl,hp.1,hp.2,by decide⟩) ?_;rw[if_pos h4];show Value.agg ⟨[I 0,S (fiU ⟨#[]⟩ t.p 48)]⟩=_
  have:jd5 (bz ⟨#[]⟩) t.p.toNat 48=List.replicate t.p.toNat 48:=by
   unfold jd5;rw[show bz ⟨#[]⟩=[]from rfl];simp
  rw[fiU,this]
 ·have h4:¬t.k=4:=by simpa using h
  have h5:t.k=5:=by simpa using h5
  rw[if_neg h4,if_pos h5];exact c_t (jaa hs) rfl
 ·have h4:¬t.k=4:=by simpa using h
  have h5:¬t.k=5:=by simpa using h5
  rw[if_neg h4,if_neg h5]
theorem fl_fi{l:J}(s:Y)(hw:0≤pW l):bz (fiU s (pW l) 32)=flZ l (bz s):=by
 rw[bz_fi (by decide)];unfold jd5 flZ;generalize pW l=w at*;split
 ·rw[show w.toNat-(bz s).length=0 by omega,List.replicate_zero,List.append_nil]
 ·rw[List.take_of_length_le (by omega),rep1,show(w-((bz s).length:Int)).toNat=w.toNat-(bz s).length by omega]
def tuV(f:Fu)(t:Ty):Int×Y×Int:=if(cuV f t).2.2.2=none then((cuV f t).1,(cuV f t).2.1,(cuV f t).2.2.1)else(0,zrV t,4)
theorem tuO_ex:∃d:Vl→Ty→Ty→Int×Y×Int,∀v f t,d v f t=tuV (jbk v f) t:=⟨_,fun _ _ _=>rfl⟩
def tuO:Vl→Ty→Ty→Int×Y×Int:=Classical.choose tuO_ex
theorem tuO_eq(v:Vl)(f t:Ty):tuO v f t=tuV (jbk v f) t:=Classical.choose_spec tuO_ex v f t
def E8:Env:=((((((((Env.nil.add 180 (sp1 Px.s49)).add 98 (sp2 s98h)).add 181 (sp2 Px.s53)).add 104 (sp1 s104)).add 106 (sp2 s106)).add 111 (sp1 Px.s47)).add 87 (sp2 s87)).add 182 (sp3 Px.s21))
theorem ok_E8:jaw Tryz.prog E8:=jai (jai (jai (jai (jai (jai (jai (jai jap Px.ok49) ok98h) Px.ok53) Cx.ok104) ok106) Px.ok47) ok87) Px.ok21
def s105(v:Vl)(f:Ty)(t:Ty):Bool×Value:=(kO v f&&decide (t.k=5∧chk4 t=0∧t.s.size≤9223372036854775807),.tuple ⟨[.agg ⟨[I (tuO v f t).1,S (tuO v f t).2.1]⟩,I (tuO v f t).2.2]⟩)
theorem fn105:Fn1 Tryz.prog 105 Tryz.f105:= .m Tryz.func105
def pb(b c:Fx.Ty)(a:Fx.Vl):Prod Int Int:=tkR (nuO a b).fst.fst (bz (szO (nuO a b).fst.snd.fst)) (nuO a b).fst.snd.snd (Fx.bnd (lb (Fx.Ty.s c))) (pQ (dy c))
theorem v105(v:Vl)(f:Ty)(t:Ty)(R:Value→Prop):jaz Tryz.prog E8 noL Tryz.f105 [Enc.enc v,Enc.enc f,Enc.enc t] (fun _=>none) 0 (fun v _ _=>R v)=(k8 (!pN (dy t)) (Fx.Ty.s t) (bif kO v f then bif g0 (txO v f) (Fx.Ty.s t).size 9223372036854775807 9223372036854775807 then bif !fiF (dy t) (bz (txO v f))then ay (decide (chk4 t=0∧(Fx.Ty.s t).size≤9223372036854775807)) (f0 [ak 0,S (zrO t)] (ak 4)) R else R (f0 [ak 0,S (sz (fiS (dy t) (bz (txO v f))))] (ak 0))else False else False) (bif kO v f then bif !(nuO v f).snd then ay (decide (chk4 t=0∧(Fx.Ty.s t).size≤9223372036854775807)) (f0 [ak 0,S (zrO t)] (ak 4)) R else bif dp (Fx.Ty.s t)then bif jd4 (nuO v f).fst.fst (bz (szO (nuO v f).fst.snd.fst)) (nuO v f).fst.snd.snd&&decide (Fx.ja9 (lb (Fx.Ty.s t)))then fq (md (Fx.Ty.s t) (-9223372036854775808) (pb f t v).fst 9223372036854775807 9223372036854775807) (!edF (dy t) (pb f t v).fst (pQ (dy t))) (f0 [ak 0,S (sz (edS (dy t) (pb f t v).fst (pQ (dy t))))] (ak 1)) (f0 [ak 0,S (sz (edS (dy t) (pb f t v).fst (pQ (dy t))))] (I (pb f t v).snd)) R else False else False else False)):=by kernel_rfl
theorem ok105:jam Tryz.prog 105 (sp3 s105):=by
 refine jgf ok_E8 hmix fn105 jak jag fun v f t hc=> ?_
 rw[ja0,v105];delta av dp k8 dx fq b9 ku f0 dy ao lb pb ak md ay g0
 try dsimp only[s105]
 have hc:(kO v f&&decide (t.k=5∧chk4 t=0∧t.s.size≤9223372036854775807))=true:=hc;rw[jaf]at hc;obtain⟨hK,hT⟩:=hc;obtain⟨h5,hk,hs⟩:=jab hT;obtain⟨hF,hkf,hfs,hvs⟩:=jj4.1 hK;have hv:=chk_p hk h5;have n12:¬(t.k=1∨t.k=2):=by omega
 have hz:(txtU (jbk v f)).size≤9223372036854775807:=tx_size hF;rw[tuO_eq];refine c_t (jaa hs) (cond_intro (fun hN=> ?_) (fun hN=> ?_))
 ·have hN:pN (bz t.s)=false:=by simpa using hN
  have e:cuV (jbk v f) t=if hoZ (bz t.s) (bz (fiU (txtU (jbk v f)) (tyP (bz t.s)) 32))=true then(0,fiU (txtU (jbk v f)) (tyP (bz t.s)) 32,0,none)else(0,⟨#[]⟩,0,some (fiU (txtU (jbk v f)) (tyP (bz t.s)) 32)):=by
   unfold cuV;rw[if_neg n12,if_neg (by omega),if_neg (by omega),hN,if_neg (by decide)]
  have et:tyP (bz t.s)=pW (bz t.s):=by rw[tyP,if_pos hv,hN];rfl
  have ef:=fl_fi (l:=bz t.s) (txtU (jbk v f)) (jjy (s:=t.s)).1;rw[et]at e;refine c_t hK (c_t (jaa ⟨hs,by rw[jik];exact hz⟩) (cond_intro (fun h=> ?_) (fun h=> ?_)))
  ·have h:fiF (bz t.s) (bz (txO v f))=false:=by simpa using h
   rw[fiF,if_pos ⟨hv,hN⟩,jik,←ef]at h;refine c_t (jaa ⟨hk,hs⟩) ?_;have e':=e.trans (if_neg (by rw[h];decide));rw[tuV,e',if_neg (by simp),jhn]
  ·have h:fiF (bz t.s) (bz (txO v f))=true:=by simpa using h
   rw[fiF,if_pos ⟨hv,hN⟩,jik,←ef]at h;have e':=e.trans (if_pos h);rw[tuV,e',if_pos rfl,fiS,if_pos ⟨hv,hN⟩,jik,←ef,jf6]
 ·have hN:pN (bz t.s)=true:=by simpa using hN
  have e:cuV (jbk v f) t=cuN (jbk v f) fun x=>(0,sz (edS (bz t.s) (tkU x (pT t.s)).1 (pQ (bz t.s))),if edF (bz t.s) (tkU x (pT t.s)).1 (pQ (bz t.s))=true then(tkU x (pT t.s)).2.1 else 1,none):=by
   unfold cuV;rw[if_neg n12,if_neg (by omega),if_neg (by omega),if_pos hN]
  refine c_t hK ?_;rw[jim];cases hx:numU (jbk v f)with
  | none=>
   refine c_t rfl (c_t (jaa ⟨hk,hs⟩) ?_);rw[tuV,e,cuN,hx,jhn];rfl
  | some x=>
   have hn:=numU_num hF hx;have hV:=(pT_v hN).1;refine c_f rfl (c_t (jaa hs) ?_);have hB:bz (szO x.2.1)=x.2.1:=jcp (jhf (jd1 hn).2.1);have hq:0≤pQ (bz t.s)∧pQ (bz t.s)≤100:=by have:=(pT_v hN).2;omega
   have et:tkU x (pT t.s)=((tkR x.1 (bz (szO x.2.1)) x.2.2 (bnd (pT t.s)) (pQ (bz t.s))).1,(tkR x.1 (bz (szO x.2.1)) x.2.2 (bnd (pT t.s)) (pQ (bz t.s))).2,0):=by
    unfold tkU tkV;rw[if_neg (by rw[hB,show jd4 x.1 x.2.1 x.2.2=true from hn];decide),if_neg (by simpa using hV)]
   have hr:=tkV_rng x.1 (bz (szO x.2.1)) x.2.2 (pT t.s);rw[show tkV x.1 (bz (szO x.2.1)) x.2.2 (pT t.s)=_ from et]at hr;have hr2: -9223372036854775808≤(tkR x.1 (bz (szO x.2.1)) x.2.2 (bnd (pT t.s)) (pQ (bz t.s))).1∧(tkR x.1 (bz (szO x.2.1)) x.2.2 (bnd (pT t.s)) (pQ (bz t.s))).1≤9223372036854775807:=by simp only at hr;omega
   simp only[Option.getD_some];rw[tuV,e,cuN,hx];simp only[et];refine c_t (by rw[hB,show jd4 x.1 x.2.1 x.2.2=true from hn,jaa hV];rfl) (c_t (jaa ⟨hs,hr2.1,hr2.2⟩) ?_);apply cond_intro<;>intro h
   ·have h:edF (bz t.s) (tkR x.1 (bz (szO x.2.1)) x.2.2 (bnd (pT t.s)) (pQ (bz t.s))).1 (pQ (bz t.s))=false:=by simpa using h
    simp only[h,if_true,Bool.false_eq_true,if_false]
   ·have h:edF (bz t.s) (tkR x.1 (bz (szO x.2.1)) x.2.2 (bnd (pT t.s)) (pQ (bz t.s))).1 (pQ (bz t.s))=true:=by simpa using h
    simp only[h,if_true]
theorem imin_eq(a b:Int):imin a b=min a b:=by unfold imin;split<;>omega
theorem bit_size{f:Fu}(h:cuF f){s:Y}(hs:bitU f=some s):s.size≤9223372036854775807:=by
 have key:∀(t:Ty)(n:Int),ja9 t→(szO (inB (jd6 t).toNat n)).size≤9223372036854775807:=fun t n hv=>by
  have hq:=Fx.valid_r hv;rw[jci,inB_len];unfold jd6;split<;>omega
 cases f with
 | w n t=>cases hs;exact key _ _ h.1
 | b s'=>cases hs;have:=h.2;omega
 | c s'=>
  simp only[bitU]at hs;split at hs
  ·cases hs;exact h
  ·cases hs
 | p s' pc=>cases hs;exact key _ _ (pT_v h.1).1
def E9:Env:=(((((((Env.nil.add 23 (sp2 z22)).add 21 (sp1 z20)).add 98 (sp2 s98h)).add 102 (sp3 s102)).add 103 (sp2 s103)).add 104 (sp1 s104)).add 105 (sp3 s105)).add 106 (sp2 s106)
def E10:Env:=E9.add 87 (sp2 s87)
theorem ok_E10:jaw Tryz.prog E10:=jai (jai (jai (jai (jai (jai (jai (jai (jai jap (z22_eq2▸ok23)) (z20_eq2▸ok21)) ok98h) ok102) ok103) Cx.ok104) ok105) ok106) ok87
def s35(v:Vl)(f:Ty)(t:Ty):Bool×Value:=(decide (toC v f t),toR v f t)
theorem fn35:Fn1 Tryz.prog 35 Tryz.f35:= .m Tryz.func35
def sk(a c:Y)(b:Fx.Ty)(d:Value→Prop):Prop:=ay (decide (a.size=1∧0≤Fx.Ty.p b∧Fx.Ty.p b≤1000∧c.size≤9223372036854775807)) (gn (fiU c (Fx.Ty.p b) ((bz a).headD (0:Int))) 0 0 (ak 0)) d
theorem v35(v:Vl)(f:Ty)(t:Ty)(R:Value→Prop):jaz Tryz.prog E10 noL Tryz.f35 [Enc.enc v,Enc.enc f,Enc.enc t] (fun _=>none) 0 (fun v _ _=>R v)=(bif g0 (Fx.Vl.s v) (Fx.Ty.s f).size 9223372036854775807 9223372036854775807 then bif ftT v f !=0 then R (gn ao 0 0 (I (ftT v f)))else k8 (ckT t !=0) (Fx.Ty.s t) (R (gn ao 0 0 (I (ckT t)))) (bif !b4 f 6==b4 t 6 then R (gn ao 0 0 (ak 5))else bif b4 t 6 then R (gn (Fx.Vl.s v) (Fx.Vl.n v) 0 (ak 0))else bif b4 t 3 then bif kO v f then bif Fx.Ty.v t then ay (d5 0 0 (imin (cw (txO v f)) (Fx.Ty.p t)) (imin (cw (txO v f)) (Fx.Ty.p t)) (cw (txO v f))) (gn ((txO v f).extract 0 (imin (cw (txO v f)) (Fx.Ty.p t)).toNat) 0 0 (ak 0)) R else sk ⟨#[32]⟩ (txO v f) t R else False else bif b4 t 4 then bif kO v f then bif !(biO v f).snd then ay (decide (chk4 t=0∧(Fx.Ty.s t).size≤9223372036854775807)) (gn (zrO t) 0 4 (ak 0)) R else sk d9 (biO v f).fst t R else False else bif b4 t 5 then ay (kO v f&&decide (Fx.Ty.k t=5∧chk4 t=0∧(Fx.Ty.s t).size≤9223372036854775807)) (gn (tuO v f t).snd.fst (tuO v f t).fst (tuO v f t).snd.snd (ak 0)) R else bif kO v f then bif !(nuO v f).snd then ay (decide (chk4 t=0∧(Fx.Ty.s t).size≤9223372036854775807)) (gn (zrO t) 0 4 (ak 0)) R else ay (jd4 (nuO v f).fst.fst (bz (szO (nuO v f).fst.snd.fst)) (nuO v f).fst.snd.snd&&decide (Fx.ja9 t)) (qy (tkR (nuO v f).fst.fst (bz (szO (nuO v f).fst.snd.fst)) (nuO v f).fst.snd.snd (Fx.bnd t) (Fx.Ty.q t))) R else False)else False):=by kernel_rfl
theorem ok35:jam Tryz.prog 35 (sp3 s35):=by
 refine jgf ok_E10 hmix fn35 jak jag fun v f t hc=> ?_
 rw[ja0,v35];delta av dp k8 ay ak b9 sq gn ao qy b4 sk d9 cw d5 g0;have hc:(toC v f t):=jab hc
 try dsimp only[s35]
 have⟨hT,hF,hV⟩:=hc;rw[jla,jlf];refine c_t (jaa ⟨hF,hV⟩) (cond_intro (fun e=> ?_) (fun e=>c_t (jaa hT) (cond_intro (fun e'=> ?_) (fun e'=>cond_intro (fun h6=> ?_) (fun h6=> ?_)))))
 ·have e:fit4 v f≠0:=by simpa using e
  unfold toR toV;rw[if_pos e]
 ·have e:¬fit4 v f≠0:=by simpa using e
  have e':chk4 t≠0:=by simpa using e'
  unfold toR toV;rw[if_neg e,if_pos e']
 ·have e:¬fit4 v f≠0:=by simpa using e
  have e':¬chk4 t≠0:=by simpa using e'
  have h:(f.k=6∨t.k=6)∧f.k≠t.k:=by
   by_cases a:f.k=6<;>by_cases b:t.k=6
   ·rw[a,b]at h6;cases h6
   ·exact⟨.inl a,by omega⟩
   ·exact⟨.inr b,by omega⟩
   ·rw[beq_eq_false_iff_ne.2 a,beq_eq_false_iff_ne.2 b]at h6;cases h6
  unfold toR toV;rw[if_neg e,if_neg e',if_pos h.1,if_pos h.2]
 have hv:fit4 v f=0:=by simpa using e
 have ht:chk4 t=0:=by simpa using e'
 have h6:f.k=6↔t.k=6:=by
  by_cases a:f.k=6<;>by_cases b:t.k=6<;>simp[a,b]at h6 ⊢
 apply cond_intro<;>intro t6
 ·have t6:t.k=6:=by simpa using t6
  have f6:=h6.2 t6;unfold toR toV;rw[if_neg (by simp[hv]),if_neg (by simp[ht]),if_pos (.inl f6),if_neg (by omega)]
 have t6:t.k≠6:=by simpa using t6
 have f6:f.k≠6:=fun q=>t6 (h6.1 q)
 have hX:=cuF_of hF hV hv;have hK:kO v f=true:=jj4.2 ⟨hX,(fit0.1 hv).1,hF,hV⟩
 have key:toR v f t=tp3 (tuV (jbk v f) t).1 (tuV (jbk v f) t).2.1 (tuV (jbk v f) t).2.2 (I 0):=by
  unfold toR toV tuV;rw[if_neg (by simp[hv]),if_neg (by simp[ht]),if_neg (by omega)];split<;>rfl
 rw[key];have hz:=tx_size hX;refine cond_intro (fun t3=> ?_) (fun t3=>cond_intro (fun t4=> ?_) (fun t4=>cond_intro (fun t5=> ?_) (fun t5=> ?_)))
 ·have t3:t.k=3:=by simpa using t3
  have hp:=p1000 ht (.inl t3)
  have e:tuV (jbk v f) t=(0,if t.v=true∧ ¬((txtU (jbk v f)).size:Int)>t.p then txtU (jbk v f)else fiU (txtU (jbk v f)) t.p 32,0):=by
   have e0:cuV (jbk v f) t=(0,if t.v=true∧ ¬((txtU (jbk v f)).size:Int)>t.p then txtU (jbk v f)else fiU (txtU (jbk v f)) t.p 32,0,none):=by
    unfold cuV;rw[if_neg (by omega),if_pos t3]
   rw[tuV,e0,if_pos rfl]
  rw[e,jik];generalize txtU (jbk v f)=s at*;refine c_t hK (cond_intro (fun hv=> ?_) (fun hv=> ?_))
  ·rw[imin_eq];refine c_t (jaa (by omega)) ?_;rw[hv];by_cases hl:(s.size:Int)>t.p
   ·rw[if_neg (fun q=>q.2 hl),show min (s.size:Int) t.p=t.p by omega]
    have:s.extract 0 t.p.toNat=fiU s t.p 32:=by
     refine jgn ?_;unfold jd5;rw[jdo,jal,show t.p.toNat-s.size=0 by omega,List.replicate_zero,List.append_nil]
    rw[this]
   ·rw[if_pos ⟨rfl,hl⟩,show min (s.size:Int) t.p=s.size by omega];have:s.extract 0 (s.size:Int).toNat=s:=jlh (by rw[jdo,List.take_of_length_le (by rw[jal];omega)]);rw[this]
  ·rw[hv,if_neg (by simp)];exact c_t (jaa ⟨rfl,hp.1,hp.2,hz⟩) rfl
 ·have t4:t.k=4:=by simpa using t4
  have hp:=p1000 ht (.inr t4)
  have e:cuV (jbk v f) t=(0,fiU ((bitU (jbk v f)).getD ⟨#[]⟩) t.p 48,0,if(bitU (jbk v f)).isSome then none else some (txtU (jbk v f))):=by
   unfold cuV;rw[if_neg (by omega),if_neg (by omega),if_pos t4]
  rw[tuV,e,jli];refine c_t hK ?_;cases hb:bitU (jbk v f)with
  | none=>
   refine c_t rfl (c_t (jaa ⟨ht,hT⟩) ?_);rw[jhn];rfl
  | some s=>
   have hs:s.size≤9223372036854775807:=bit_size hX hb;exact c_f rfl (c_t (jaa ⟨rfl,hp.1,hp.2,hs⟩) rfl)
 ·have t5:t.k=5:=by simpa using t5
  rw[←tuO_eq];exact c_t (by rw[hK,jaa (show t.k=5∧chk4 t=0∧t.s.size≤9223372036854775807 from⟨t5,ht,hT⟩)];rfl) rfl
 ·have t3:t.k≠3:=by simpa using t3
  have t4:t.k≠4:=by simpa using t4
  have t5:t.k≠5:=by simpa using t5
  have h1:t.k=1∨t.k=2:=by
   apply Classical.byContradiction;intro q;exact t5 (k5_of ht t6 q t3 t4).1
  have hVt:=chk_v ht h1;have e:cuV (jbk v f) t=cuN (jbk v f) fun x=>((tkU x t).1,⟨#[]⟩,(tkU x t).2.1,none):=by unfold cuV;rw[if_pos h1]
  refine c_t hK ?_;rw[jim];cases hx:numU (jbk v f)with
  | none=>
   refine c_t rfl (c_t (jaa ⟨ht,hT⟩) ?_);rw[tuV,e,cuN,hx,jhn];rfl
  | some x=>
   have hn:=numU_num hX hx;have hB:bz (szO x.2.1)=x.2.1:=jcp (jhf (jd1 hn).2.1)
   have et:tkU x t=((tkR x.1 (bz (szO x.2.1)) x.2.2 (bnd t) t.q).1,(tkR x.1 (bz (szO x.2.1)) x.2.2 (bnd t) t.q).2,0):=by
    unfold tkU tkV;rw[if_neg (by rw[hB,show jd4 x.1 x.2.1 x.2.2=true from hn];decide),if_neg (by simpa using hVt)]
   simp only[Option.getD_some];refine c_f rfl (c_t (by rw[hB,show jd4 x.1 x.2.1 x.2.2=true from hn,jaa hVt];rfl) ?_);rw[tuV,e,cuN,hx];simp only[et,if_true]
instance tabsV4:Tabs:=tabs
theorem s35_eq:s35=s34h:=by rw[s34h_eq];rfl
def EV1:Env:=Env.nil.add 96 (sp1 s96)
theorem ok_EV1:jaw Tryz.prog EV1:=jai jap ok96
def EV2:Env:=Env.nil.addG 165 (inlQ Tryz.prog EV1 noL Tryz.f165)
theorem ok_EV2:jaw Tryz.prog EV2:=jao jap (jar ok_EV1 hmix fn165 jak)
def EV3:Env:=(Env.nil.add 96 (sp1 s96)).addG 95 (inlQ Tryz.prog EV2 noL Tryz.f95)
theorem ok_EV3:jaw Tryz.prog EV3:=jao (jai jap ok96) (jar ok_EV2 hmix fn95 jak)
def EV4:Env:=((((Env.nil.add 18 (sp0 Cs.s18)).add 19 (sp1 z19)).add 34 (sp3 s34h)).add 35 (sp3 s34h)).addG 31 (inlQ Tryz.prog EV3 noL Tryz.f31)
theorem ok_EV4:jaw Tryz.prog EV4:=jao (jai (jai (jai (jai jap Cs.ok18) ok19s) (s34h_eq▸ok34u)) (s35_eq▸ok35)) (jar ok_EV3 hmix fn31 jak)
def s7(v:Vl)(f:Ty)(t:Ty):Bool×Value:=(decide (toC v f t),B true)
theorem fn7:Fn1 Tryz.prog 7 Tryz.f7:= .m Tryz.func7
def pu(a:Int):Bool:=a==a
def sm(b c:Fx.Ty)(a:Fx.Vl)(d:Value→Prop):Prop:=bif decide (toC a b c)then j7 (decide (toC a b c)) (br (pu (toH a b c).fst&& (b5 (toH a b c).snd.fst (toH a b c).snd.fst&&true)) (pu (toH a b c).snd.snd.fst || true) true) (.bool (pu (toH a b c).fst&& (b5 (toH a b c).snd.fst (toH a b c).snd.fst&&true) && (pu (toH a b c).snd.snd.fst&& (toH a b c).snd.snd.snd==(toH a b c).snd.snd.snd))) d else False
theorem v7(v:Vl)(f:Ty)(t:Ty)(R:Value→Prop):jaz Tryz.prog EV4 noL Tryz.f7 [Enc.enc v,Enc.enc f,Enc.enc t] (fun _=>none) 0 (fun v _ _=>R v)=(bw (!decide (cw (Fx.Ty.s f)≤200)) true (!decide (cw (Fx.Ty.s f)≤200) || !decide (cw (Fx.Ty.s t)≤200)) (R (B true)) (bif b8 0 (natO 1)then bif decide (cw (Fx.Vl.s v)>2000)then R (B true)else bif b8 1 (natO 1)then False else sm f t v R else sm f t v R)):=by kernel_rfl
theorem ok7:jam Tryz.prog 7 (sp3 s7):=by
 refine jgf ok_EV4 hmix fn7 jak jag fun v f t hc=> ?_
 rw[ja0,v7];delta av bw ay j7 pu b5 br sm b8 cw;have hc:(toC v f t):=jab hc
 try dsimp only[s7]
 have n0:decide ((0:Int)<natO 1)=true:=by rw[jca];rfl
 have n1:decide ((1:Int)<natO 1)=false:=by rw[jca];rfl
 have hC:decide (toC v f t)=true:=jaa hc;refine c_t (Bool.or_true _) (cond_intro (fun _=>rfl) (fun _=>c_t n0 (cond_intro (fun _=>rfl) (fun _=>c_f n1 (c_t hC (c_t hC (c_t (by simp) (by simp))))))))
end Go.Cx
end
noncomputable section
namespace Go.Px
open Go Go.Proofs
open Go.Proofs.YtpflidodnhbeoaaGreatDoor
theorem q_laid:laidOutB Tryz.prog=true:=by kernel_rfl
theorem q_maps:mapsRowed Tryz.prog=true:=by kernel_rfl
theorem q_stop:(Tryz.prog.stops==[])=true:=by kernel_rfl
theorem q_knob:(Tryz.prog.stopKnobs==[])=true:=by kernel_rfl
theorem q_keys:(Rows.convertTypesRow.plainKeys==Tryz.prog.plainKeys)=true:=by kernel_rfl
theorem q_heard:Tryz.prog.stopsHeard=true:=by kernel_rfl
theorem q_enter:Tryz.prog.mayEnter=true:=by kernel_rfl
theorem q_lifts:(Rows.convertTypesRow.lifted==Tryz.prog.liftsFinal)=true:=by kernel_rfl
theorem q_make:(Tryz.prog.make==some Rows.convertTypesRow.make)=true:=by kernel_rfl
theorem main_is : Tryz.pinned.checked.prog.mainIs = some (true, ("2cb47cbf95087f7cc8d5ede91c198a947601d35cfd546d8bdc61f47b13d7b636" : String).toList) := by kernel_rfl
theorem looks_is:true=Tryz.pinned.checked.prog.looks []:=by kernel_rfl
end Go.Px
end
noncomputable section
namespace Go.Px
open Go Go.Ab Go.Proofs Go.Shelf Go.ChangeMaps Go.ChangeShapes Go.WideShapes Go.ChangeAt Go.RowKit Go.Joins
open Go.Proofs.YtpflidodnhbeoaaGreatDoor
theorem own:ownKnob Tryz.prog.godebug=none:=by kernel_rfl
def laidL:List (String×DataW Unit):=Rows.convertTypesRow.laid
theorem tab_is{P:Program}{W:World}{name:String}{k:IntKind}{zs:J}{g:Nat}{t e:TypeId}{n:Nat}(hr:Lib.VarReads P W name (Lib.tabData k zs))
  (hg:P.globalNamed name=some g) (hty:(P.globals[g]?).map (·.type)=some t) (ht:P.underlying t=some (.array n e)) (he:P.underlying e=some (.int k)) (hce:P.cellsOf e=1) (hct:P.cellsOf t=n):
  g<W.heap.size∧ ∃ty fr,W.heap[g]?=some (.cells ⟨zs.map fun z=>Value.int k z⟩ ty fr):=by
 obtain⟨g',t',cs,fuel,p,h1,h2,h3,h4⟩:=hr;obtain rfl:=Option.some.inj (hg.symm.trans h1);obtain rfl:=Option.some.inj (hty.symm.trans h2);have hc:=Lib.cells_of_tab ht he hce hct h4;unfold World.var? at h3;rw[hg,Option.bind_some]at h3;split at h3
 case h_2=>cases h3
 rename_i cs' ty fr hh;have h3:=Option.some.inj h3;refine⟨(Array.getElem?_eq_some_iff.1 hh).1,ty,fr,?_⟩;rw[hh,h3];congr 2;rw[←hc]
theorem rt : (Tryz.prog.cutTypes.find? (·.1 == "internal/reflectlite.rtype")).map (·.2) = some 229 := by kernel_rfl
theorem tsz:Tryz.prog.types.size=321:=by kernel_rfl
theorem oneRow:((List.range 321).filter fun t=>Tryz.prog.rowNamed t [101,114,114,111,114])=[105]:=by kernel_rfl
theorem hdl:typeHandle Tryz.prog 105= .pointer (some ⟨10,105,none⟩):=by kernel_rfl
theorem gE : Tryz.prog.globalNamed "errors.errorType" = some 0 := by kernel_rfl
theorem laid_h : laidL.filter (fun x => x.2.handleName?.isSome) = [("errors.errorType", Rows.laid_errors_errorType)] := by kernel_rfl
theorem laid_d : laidL.filter (fun x => x.2.handleName?.isNone) = ([("math/bits.deBruijn32tab", YtpflidodnhbeoaaGreatDoor.Rows.laid_math_bits_deBruijn32tab), ("math/bits.deBruijn64tab", YtpflidodnhbeoaaGreatDoor.Rows.laid_math_bits_deBruijn64tab), ("internal/strconv.uint64pow10", YtpflidodnhbeoaaGreatDoor.Rows.laid_internal_strconv_uint64pow10), ("unicode/utf8.acceptRanges", YtpflidodnhbeoaaGreatDoor.Rows.laid_unicode_utf8_acceptRanges), ("strconv.ErrRange", YtpflidodnhbeoaaGreatDoor.Rows.laid_strconv_ErrRange), ("strconv.ErrSyntax", YtpflidodnhbeoaaGreatDoor.Rows.laid_strconv_ErrSyntax), ("pliant/picture.punched", YtpflidodnhbeoaaGreatDoor.Rows.laid_pliant_picture_punched), ("unicode/utf8.first", YtpflidodnhbeoaaGreatDoor.Rows.laid_unicode_utf8_first)]) := by kernel_rfl
theorem handle_of_laid {W : World} (h : handlesMet Tryz.prog [("errors.errorType", Rows.laid_errors_errorType)] W) : 0 < W.heap.size ∧ ∃ ty fr, W.heap[0]? = some (.cells #[.iface 229 (.agg #[.pointer (some ⟨10, 105, none⟩)])] ty fr) := by
 obtain⟨name,u,ty,e1,e2,e3,e4,e5⟩:=h _ (List.mem_singleton.2 rfl);have en:name=[101,114,114,111,114]:=(Option.some.inj e1).symm;subst en;obtain rfl:=Option.some.inj (rt.symm.trans e2);have hm:ty∈(List.range 321).filter fun t=>Tryz.prog.rowNamed t [101,114,114,111,114]:=List.mem_filter.2 ⟨List.mem_range.2 (by rw[←tsz];exact e3),e4⟩
 rw[oneRow]at hm;obtain rfl:=List.mem_singleton.1 hm;rw[hdl]at e5;unfold World.var? at e5;rw[gE,Option.bind_some]at e5;split at e5
 case h_2=>cases e5
 rename_i cs' ty fr hh;have e5:=Option.some.inj e5;exact⟨(Array.getElem?_eq_some_iff.1 hh).1,ty,fr,by rw[hh,e5]⟩
set_option maxRecDepth 100000 in
theorem tabs_of_laid{W:World}(h:laidMetH Tryz.prog laidL W):TabsIn W.heap.size W:=by
 obtain⟨hd,hh⟩:=laidMetH_iff.1 h;rw[laid_h]at hh;rw[laid_d]at hd;intro b r hb
 have key:∀b:Nat,rowsT b=some r→b=5∧r=punchedZ.map (fun n=>Value.int .u8 n)∨b=1∧r=pow10Z.map (fun n=>Value.int .u64 n)∨b=0∧r=[.iface 229 (.agg ⟨[.pointer (some ⟨10,105,none⟩)]⟩)]:=by
  intro b hb;unfold rowsT at hb;split at hb
  ·cases hb;exact .inl ⟨rfl,rfl⟩
  ·cases hb;exact .inr (.inl ⟨rfl,rfl⟩)
  ·cases hb;exact .inr (.inr ⟨rfl,rfl⟩)
  ·cases hb
 have t5:Tryz.prog.cellsOf 5=1:=by kernel_rfl
 rcases key b hb with⟨rfl,rfl⟩ | ⟨rfl,rfl⟩ | ⟨rfl,rfl⟩
 ·have hr : Lib.VarReads Tryz.prog W "pliant/picture.punched" (Lib.tabData .u8 punchedZ) := Lib.laidMet.reads hd (.tail _ (.tail _ (.tail _ (.tail _ (.tail _ (.tail _ (.head _)))))))
  exact tab_is hr (g:=5) (t:=273) (n:=20) (e:=5) (by kernel_rfl) (by kernel_rfl) (by kernel_rfl) (by kernel_rfl) t5 (by kernel_rfl)
 ·have hr : Lib.VarReads Tryz.prog W "internal/strconv.uint64pow10" (Lib.tabData .u64 pow10Z) := Lib.laidMet.reads hd (.tail _ (.tail _ (.head _)))
  exact tab_is hr (g:=1) (t:=262) (n:=20) (e:=90) (by kernel_rfl) (by kernel_rfl) (by kernel_rfl) (by kernel_rfl) (by kernel_rfl) (by kernel_rfl)
 ·exact handle_of_laid hh
noncomputable def handleWorld (os : Os) : World :=
 let w0:=World.holding Tryz.prog os ⟨#[], #[],[]⟩
 {w0 with heap:=w0.heap.modify 0 fun
   | .cells _ t frozen=> .cells #[.iface 229 (.agg #[.pointer (some ⟨10,105,none⟩)])] t frozen
   | o=>o}
def laidD:List (String×DataW Unit):=laidL.filter fun x=>x.2.handleName?.isNone
noncomputable def laidWorld (os : Os) : World := (handleWorld os).layVars Tryz.prog laidD
theorem laidWorld_os(os:Os):(laidWorld os).os=os:=World.layVars_os _ _ _
theorem laidWorld_met(os:Os)(args:Array Value):laidMetH Tryz.prog laidL ((laidWorld os).forCall (fun _ _=>0) ⟨#[],args,[]⟩).memory:=by
 refine laidMetH_of_parts ?_ (by kernel_rfl);have e1:(laidD.filter fun x=>(laidD.map (·.1)).contains x.1)=laidD:=List.filter_eq_self.2 fun x hx=>List.contains_iff_mem.2 (List.mem_map.2 ⟨x,hx,rfl⟩)
 have e2:(laidD.filter fun x=> !(laidD.map (·.1)).contains x.1)=[]:=List.filter_eq_nil_iff.2 fun x hx=>by rw[List.contains_iff_mem.2 (List.mem_map.2 ⟨x,hx,rfl⟩)];simp
 have h:laidMet Tryz.prog laidD (laidWorld os):=laidMet_layVars (w0:=handleWorld os) (laidD.map (·.1)) [] (by rw[e1];rfl) (by rw[e1];kernel_rfl) (by rw[e1];kernel_rfl) (by rw[e2];exact LaidIn.none);exact h.of_heap (by simp[World.memory,World.forCall,Input.heap])
def jf5(P:Program)(t:TypeId)(α:Type) [Enc α](Q:α→Prop):Prop:=
 ∀{H:Type}{enc:TypeId×Value→H}{w:World}{base:Nat}{spare:Nat→Bool}{held:Bool}{r:Reach}{b0:Nat}{v:Value}{d:DataW H}{p:List MemPlace},Value.okWide P w r b0 t v→DataW.Trod enc P w base spare held t v d p→
  ∃a:α,v=Enc.enc a∧Q a∧p=[]∧ ∀(w':World)(b':Nat)(sp':Nat→Bool)(hd':Bool),DataW.Trod enc P w' b' sp' hd' t v d []
theorem opensP_string{P:Program}{t:TypeId}(ht:P.underlying t=some .string):jf5 P t Y fun s=>s.size≤9223372036854775807:=by
 intro H enc w base spare held r b0 v d p hv h;obtain⟨n,rfl,rfl,rfl,hw⟩:=open_string ht hv h;exact⟨n,rfl,Nat.le_trans hw (by decide),rfl,fun w' b' sp' hd'=>shut_string ht hw⟩
theorem oS:jf5 Tryz.prog 9 Y fun s=>s.size≤9223372036854775807:=opensP_string Tryz.underlying9
theorem opensP_int{P:Program}{t:TypeId}(ht:P.underlying t=some (.int .i64)):jf5 P t Int fun n=> -9223372036854775808≤n∧n≤9223372036854775807:=by
 intro H enc w base spare held r b0 v d p hv h;obtain⟨n,rfl,rfl,rfl,hw⟩:=open_int ht hv h;exact⟨n,rfl,by simpa[Lit.wf,IntKind.min,IntKind.max,IntKind.signed,IntKind.bits]using hw,rfl,fun w' b' sp' hd'=>shut_int ht hw⟩
theorem oI:jf5 Tryz.prog 3 Int fun n=> -9223372036854775808≤n∧n≤9223372036854775807:=opensP_int Tryz.underlying3
theorem opensP_bool{P:Program}{t:TypeId}(ht:P.underlying t=some .bool):jf5 P t Bool fun _=>True:=by
 intro H enc w base spare held r b0 v d p hv h;obtain⟨n,rfl,rfl,rfl⟩:=open_bool ht hv h;exact⟨n,rfl,trivial,rfl,fun w' b' sp' hd'=>shut_bool ht n⟩
theorem oB:jf5 Tryz.prog 4 Bool fun _=>True:=opensP_bool Tryz.underlying4
theorem jet{P:Program}{α:Type} [Enc α]{t:TypeId}{fs:Array Field}{Q:α→Prop}(hs:P.underlying t=some (.struct fs))(hl:fs.toList.all (fun f=>leafT P f.type)=true)
  (hc : ∀ cs : Array Value, cs.size = P.cellsOf t → (∀ (i : Nat) (f : Field), fs[i]? = some f → ∃ (H : Type) (enc : TypeId × Value → H) (w : World) (base : Nat) (spare : Nat → Bool) (held : Bool) (n : Nat) (y : DataW H × List MemPlace),
   DataW.trod enc P w base spare held n f.type ((cs.toList.drop f.offset).take (P.cellsOf f.type))=some y)→ ∃a:α,Value.agg cs=Enc.enc a∧Q a):jf5 P t α Q:=by
 intro H enc w base spare held r b0 v d p hv h;obtain⟨cs,rfl,hsz⟩:=okWide_struct hs hv;obtain⟨fuel,hf⟩:=h;simp only[Value.cells]at hf;obtain⟨hp,hany⟩:=leaves_any hs hl hf;obtain⟨xs,n,_,_,hlen,hxs,hg⟩:=DataW.trod_struct hs hf
 obtain⟨a,ha,hq⟩:=hc cs hsz fun i f hi=>by
  have hlt:i<xs.length:=by
   have:=(Array.getElem?_eq_some_iff.1 hi).1;omega
  exact⟨H,enc,w,base,spare,held,n,xs[i],by rw[hg i f hi,List.getElem?_eq_getElem hlt]⟩
 simp only at hp;subst hp;exact⟨a,ha,hq,rfl,fun w' b' sp' hd'=>⟨2,by simpa[Value.cells]using hany w' b' sp' hd'⟩⟩
def r64(n:Int):Prop:= -9223372036854775808≤n∧n≤9223372036854775807
def rS(s:Y):Prop:=s.size≤9223372036854775807
theorem r64_wf{n:Int}(h:(Lit.int .i64 n).wf=true):r64 n:=by simpa[Lit.wf,IntKind.min,IntKind.max,IntKind.signed,IntKind.bits,r64]using h
theorem array5{α:Type}{cs:Array α}(h:cs.size=5):∃c0 c1 c2 c3 c4,cs= #[c0,c1,c2,c3,c4]:=by
 obtain⟨l⟩:=cs
 match l,h with
 | [c0,c1,c2,c3,c4],_=>exact⟨c0,c1,c2,c3,c4,rfl⟩
theorem array3{α:Type}{cs:Array α}(h:cs.size=3):∃c0 c1 c2,cs= #[c0,c1,c2]:=by
 obtain⟨l⟩:=cs
 match l,h with
 | [c0,c1,c2],_=>exact⟨c0,c1,c2,rfl⟩
theorem oT:jf5 Tryz.prog 23 Fx.Ty fun t=>r64 t.k∧r64 t.p∧r64 t.q∧rS t.s:=by
 refine jet Tryz.underlying23 (by kernel_rfl) fun cs hsz hf=> ?_
 have hc:Tryz.prog.cellsOf 23=5:=by kernel_rfl
 have h3:Tryz.prog.cellsOf 3=1:=by kernel_rfl
 have h4:Tryz.prog.cellsOf 4=1:=by kernel_rfl
 have h9:Tryz.prog.cellsOf 9=1:=by kernel_rfl
 rw[hc]at hsz;obtain⟨c0,c1,c2,c3,c4,rfl⟩:=array5 hsz
 ·obtain ⟨H, enc, w, base, spare, held, n, y, h0⟩ := hf 0 { name := "Kind", type := 3, offset := 0, embedded := false, tag := "", pkgPath := "", byteOffset := 0 } rfl
  obtain ⟨H, enc, w, base, spare, held, n, y, h1⟩ := hf 1 { name := "P", type := 3, offset := 1, embedded := false, tag := "", pkgPath := "", byteOffset := 8 } rfl
  obtain ⟨H, enc, w, base, spare, held, n, y, h2⟩ := hf 2 { name := "Q", type := 3, offset := 2, embedded := false, tag := "", pkgPath := "", byteOffset := 16 } rfl
  obtain ⟨H, enc, w, base, spare, held, n, y, hv⟩ := hf 3 { name := "Vary", type := 4, offset := 3, embedded := false, tag := "", pkgPath := "", byteOffset := 24 } rfl
  obtain ⟨H, enc, w, base, spare, held, n, y, hs⟩ := hf 4 { name := "Pic", type := 9, offset := 4, embedded := false, tag := "", pkgPath := "", byteOffset := 32 } rfl
  obtain⟨k,e0,_,w0⟩:=DataW.trod_int Tryz.underlying3 h0;obtain⟨p,e1,_,w1⟩:=DataW.trod_int Tryz.underlying3 h1;obtain⟨q,e2,_,w2⟩:=DataW.trod_int Tryz.underlying3 h2;obtain⟨v,e3,_⟩:=DataW.trod_bool Tryz.underlying4 hv;obtain⟨s,e4,_,w4⟩:=DataW.trod_string Tryz.underlying9 hs;simp only[h3,h4,h9,List.drop_zero,List.drop_succ_cons,List.take_succ_cons,List.take_zero,List.cons.injEq,and_true]at e0 e1 e2 e3 e4;exact⟨⟨k,p,q,v,s⟩,by rw[e0,e1,e2,e3,e4];rfl,r64_wf w0,r64_wf w1,r64_wf w2,Nat.le_trans w4 (by decide)⟩
theorem oV:jf5 Tryz.prog 25 Fx.Vl fun v=>r64 v.n∧rS v.s:=by
 refine jet Tryz.underlying25 (by kernel_rfl) fun cs hsz hf=> ?_
 have hc:Tryz.prog.cellsOf 25=2:=by kernel_rfl
 have h3:Tryz.prog.cellsOf 3=1:=by kernel_rfl
 have h9:Tryz.prog.cellsOf 9=1:=by kernel_rfl
 rw[hc]at hsz;obtain⟨c0,c1,rfl⟩:=array2 hsz
 ·obtain ⟨H, enc, w, base, spare, held, n, y, h0⟩ := hf 0 { name := "N", type := 3, offset := 0, embedded := false, tag := "", pkgPath := "", byteOffset := 0 } rfl
  obtain ⟨H, enc, w, base, spare, held, n, y, h1⟩ := hf 1 { name := "S", type := 9, offset := 1, embedded := false, tag := "", pkgPath := "", byteOffset := 8 } rfl
  obtain⟨k,e0,_,w0⟩:=DataW.trod_int Tryz.underlying3 h0;obtain⟨s,e4,_,w4⟩:=DataW.trod_string Tryz.underlying9 h1;simp only[h3,h9,List.drop_zero,List.drop_succ_cons,List.take_succ_cons,List.take_zero,List.cons.injEq,and_true]at e0 e4;exact⟨⟨k,s⟩,by rw[e0,e4];rfl,r64_wf w0,Nat.le_trans w4 (by decide)⟩
theorem oN:jf5 Tryz.prog 33 Cx.Nu fun v=>rS v.d∧r64 v.c:=by
 refine jet Tryz.underlying33 (by kernel_rfl) fun cs hsz hf=> ?_
 have hc:Tryz.prog.cellsOf 33=3:=by kernel_rfl
 have h3:Tryz.prog.cellsOf 3=1:=by kernel_rfl
 have h4:Tryz.prog.cellsOf 4=1:=by kernel_rfl
 have h9:Tryz.prog.cellsOf 9=1:=by kernel_rfl
 rw[hc]at hsz;obtain⟨c0,c1,c2,rfl⟩:=array3 hsz
 ·obtain ⟨H, enc, w, base, spare, held, n, y, hv⟩ := hf 0 { name := "Neg", type := 4, offset := 0, embedded := false, tag := "", pkgPath := "", byteOffset := 0 } rfl
  obtain ⟨H, enc, w, base, spare, held, n, y, hs⟩ := hf 1 { name := "Digits", type := 9, offset := 1, embedded := false, tag := "", pkgPath := "", byteOffset := 8 } rfl
  obtain ⟨H, enc, w, base, spare, held, n, y, h0⟩ := hf 2 { name := "Scale", type := 3, offset := 2, embedded := false, tag := "", pkgPath := "", byteOffset := 24 } rfl
  obtain⟨v,e3,_⟩:=DataW.trod_bool Tryz.underlying4 hv;obtain⟨s,e4,_,w4⟩:=DataW.trod_string Tryz.underlying9 hs;obtain⟨k,e0,_,w0⟩:=DataW.trod_int Tryz.underlying3 h0;simp only[h3,h4,h9,List.drop_zero,List.drop_succ_cons,List.take_succ_cons,List.take_zero,List.cons.injEq,and_true]at e0 e3 e4;exact⟨⟨v,s,k⟩,by rw[e0,e3,e4];rfl,Nat.le_trans w4 (by decide),r64_wf w0⟩
noncomputable def hAB (fn : Func) (s : ChangeSpec) (c : OpenClaim) : Bool := c.wf (OpenSpec.ofChange s) && fn.params.all (Tryz.prog.readableRec ·) && namedTie Tryz.prog c.named s.vars && (c.stops == []) && (c.knobs == [])
noncomputable def hRB (fn : Func) (s : ChangeSpec) (c : OpenClaim) : Bool := (c.maps == (fn.params.toList ++ s.plain.varTypes Tryz.prog).any (Tryz.prog.mapsRec ·)) && (c.ifaces == (fn.params.toList ++ s.plain.varTypes Tryz.prog).any (Tryz.prog.ifacesRec ·)) && (c.mapsOut == Tryz.prog.mapsAmong fn.resultTypes.toList) && (c.loops == (fn.params.toList ++ s.plain.varTypes Tryz.prog).any (Tryz.prog.loopsFrom ·))
noncomputable def hSB (fn : Func) (s : ChangeSpec) (c : OpenClaim) : Bool := (c.wideKeys == (fn.params.toList ++ s.plain.varTypes Tryz.prog ++ fn.resultTypes.toList).any (Tryz.prog.wideKeysFrom ·)) && s.vars.all (Tryz.prog.varReadable ·) && fn.resultTypes.all (fun t => Tryz.prog.readableRec t && decide (t<Tryz.prog.types.size)) && (c.ifacesOut == fn.resultTypes.toList.any (Tryz.prog.ifacesRec ·)) && (c.loopsOut == fn.resultTypes.toList.any (Tryz.prog.loopsFrom ·)) && c.shortTexts.isNone
noncomputable def hTB (fn : Func) (s : ChangeSpec) (c : OpenClaim) : Bool := (c.kinds == (if c.domain.isEmpty then [] else fn.params.toList.map fun t => match Tryz.prog.underlying t with | some (.int k) => some k | _ => none)) && (c.pinned == c.pinnedBy) && (c.veiled == (fn.params.toList ++ s.plain.varTypes Tryz.prog ++ fn.resultTypes.toList).any (Tryz.prog.veiledRec ·)) && c.veiledFits Tryz.prog fn.params.toList (fn.params.toList ++ s.plain.varTypes Tryz.prog ++ fn.resultTypes.toList)
set_option maxRecDepth 100000 in
theorem jf_mk{f:FuncId}{fn:Func}{s:ChangeSpec}{c:OpenClaim}(hA:hAB fn s c=true)(h1:(c.inPlace==Tryz.prog.inPlace f)=true)(h2:(c.unfollowed==Tryz.prog.unfollowed f)=true)(h3:(c.recurses==Tryz.prog.recurses f)=true)(h4:(c.named==Tryz.prog.varsNamed f)=true)
  (hR:hRB fn s c=true) (hS:hSB fn s c=true)
  (hk:(c.plainKeys==Tryz.prog.plainKeys)=true) (hl:(c.lifted==Tryz.prog.liftsFinal)=true) (hm:(Tryz.prog.make==some c.make)=true)
  (hT:hTB fn s c=true):joinedFacts Tryz.prog f fn s c=true:=by
 unfold joinedFacts;simp only[hAB,hRB,hSB,hTB,jaf]at hA hR hS hT;obtain⟨⟨⟨⟨a1,a2⟩,a3⟩,a4⟩,a5⟩:=hA;obtain⟨⟨⟨r1,r2⟩,r3⟩,r4⟩:=hR;obtain⟨⟨⟨⟨⟨s1,s2⟩,s3⟩,s4⟩,s5⟩,s6⟩:=hS;obtain⟨⟨⟨t1,t2⟩,t3⟩,t4⟩:=hT;rw[a1,a2,a3,a4,a5,h1,h2,h3,h4,r1,r2,r3,r4,s1,s2,s3,s4,s5,s6,t2,t3,t4,q_laid,q_maps,q_stop,q_knob,q_heard,q_enter,hk,hl,hm];simp only[Bool.true_and,Bool.and_true];exact t1
end Go.Px
end
section

end
