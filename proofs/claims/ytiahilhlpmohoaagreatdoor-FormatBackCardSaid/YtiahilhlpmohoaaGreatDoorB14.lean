/-
  Part 4: the run and laws.
-/
import Derived.Test.YtiahilhlpmohoaaGreatDoorB13
set_option linter.unusedVariables false
set_option linter.unusedSimpArgs false
set_option linter.unusedSectionVars false
noncomputable section
set_option maxHeartbeats 3200000
namespace Go.Cx
open Go Go.Ab Go.Proofs Go.Shelf Go.Px Go.Cv
open Go.Fx (Ty Vl check ja9 most base pw bnd Fit fits tv vv tup V0 T0 jbs jbw jbj jcd str0)
theorem ok_v97:ja0 Tryz.prog v97:=jak jav Px.ok31
theorem ok_Uz:ja0 Tryz.prog Uz:=jak ok_K9p Px.ok54
theorem ok97w:jan Tryz.prog 158 (sp2 s97w):=by
 refine jdg ok_v97 hmix fn97 jaj jag fun v t hc=> ?_
 have hc:t.k=1∨t.k=2:=jab hc;rw[ja5,u97];delta ax dt cl ou;exact cond_intro (fun _=>rfl) fun h1=>cond_intro (fun _=>rfl) fun h2=>by simp at h1 h2;omega
theorem ok97b:jan Tryz.prog 158 (sp2 s97b):=by
 refine jdg ok_v97 hmix fn97 jaj jag fun v t hc=> ?_
 have hc:t.k=4:=jab hc;rw[ja5,u97];delta ax dt cl ou;rw[hc];rfl
theorem ok97p:jan Tryz.prog 158 (sp2 s97p):=by
 refine jdg ok_v97 hmix fn97 jaj jag fun v t hc=> ?_
 have hc:t.k=5∧pN (bz t.s)=true∧t.s.size≤9223372036854775807:=jab hc;rw[ja5,u97];delta ax dt cl ou;rw[hc.1,hc.2.1];refine cond_intro (fun h=>absurd h (by decide)) fun _=>cond_intro (fun h=>absurd h (by decide)) fun _=>cond_intro (fun h=>absurd h (by decide)) fun _=>c_t rfl (c_t (jaa hc.2.2) rfl)
theorem ok97c:jan Tryz.prog 158 (sp2 s97c):=by
 refine jdg ok_v97 hmix fn97 jaj jag fun v t hc=> ?_
 have hc:¬(t.k=1∨t.k=2)∧t.k≠4∧(t.k=5→ ¬pN (bz t.s)=true)∧t.s.size≤9223372036854775807:=jab hc;rw[ja5,u97];delta ax dt cl ou;refine cond_intro (fun h=> ?_) fun h1=>cond_intro (fun h=> ?_) fun h2=>cond_intro (fun h=> ?_) fun h4=>cond_intro (fun h=> ?_) fun h5=>rfl
 ·exact absurd (.inl (by simpa using h)) hc.1
 ·exact absurd (.inr (by simpa using h)) hc.1
 ·exact absurd (by simpa using h) hc.2.1
 ·refine c_t (jaa hc.2.2.2) ?_;have:=hc.2.2.1 (by simpa using h);exact cond_intro (fun h=>absurd h this) fun _=>rfl
theorem s99_y{args:F}{bs:O}{v:Value}(h:s99y args bs=some (true,v)):s99u args bs=some (true,v):=by
 unfold s99y at h;unfold s99u;split at h
 case h_2=>cases h
 split at h
 case h_2=>cases h
 rename_i f hf
 try simp only[hf]
 simp only[Option.some.injEq,Prod.mk.injEq]at h;obtain⟨h1,rfl⟩:=h;obtain⟨h2,h3⟩:=jio.1 h1;rw[jlj.2 h2,cuO_eq];refine congrArg some (congrArg (Prod.mk true) ?_);show tp3 _ _ _ _=tp3 _ _ _ _;cases e:(cuV f ⟨_,_,_,_,_⟩).2.2.2 with
 | none=>rfl
 | some _=>rw[e]at h3;cases h3
theorem s99_n{args:F}{bs:O}{v:Value}(h:s99n args bs=some (true,v)):s99u args bs=some (true,v):=by
 unfold s99n at h;unfold s99u;split at h
 case h_2=>cases h
 split at h
 case h_2=>cases h
 rename_i f hf
 try simp only[hf]
 simp only[Option.some.injEq,Prod.mk.injEq]at h;obtain⟨h1,rfl⟩:=h;obtain⟨h2,h3⟩:=jio.1 h1;rw[jlj.2 h2,cuO_eq];refine congrArg some (congrArg (Prod.mk true) ?_);show tp3 _ _ _ _=tp3 _ _ _ _;cases e:(cuV f ⟨_,_,_,_,_⟩).2.2.2 with
 | none=>rw[e]at h3;cases h3
 | some _=>rfl
theorem jgj{ι:Type}{P:Program}{f:FuncId}{s:Ab.Spec}{T:ι→Ab.Spec}(i0:ι)(hT:∀i,jan P f (T i))(h:∀args bs v,s args bs=some (true,v)→ ∃i,T i args bs=some (true,v)):jan P f s:=
 ⟨(hT i0).1, fun args v N w0 m ι w hrel hs hv => by
  obtain⟨i,hi⟩:=h _ _ _ hs;exact(hT i).2 args v N w0 m ι w hrel hi hv⟩
theorem ok99y:jan Tryz.prog 167 s99y:=jgj () (fun _=>ok99u) fun _ _ _ h=>⟨(),s99_y h⟩
theorem ok99n:jan Tryz.prog 167 s99n:=jgj () (fun _=>ok99u) fun _ _ _ h=>⟨(),s99_n h⟩
theorem ok101u:jan Tryz.prog 169 (sp1 s101u):=by
 refine jck ok_Uz hmix fn101 jaj jag fun t hc=> ?_
 have hc:t.s.size≤9223372036854775807∧(t.k=4→0≤t.p∧t.p≤1000):=jab hc;rw[ja5,u101];delta ay am aq ax cl g9 cv gq;dsimp only[s101u];rw[zrO_eq];unfold zrV;refine cond_intro (fun h4=> ?_) fun h4=>cond_intro (fun h5=> ?_) fun h5=> ?_
 ·have h4:t.k=4:=by simpa using h4
  refine c_t (jaa ⟨(hc.2 h4).1,(hc.2 h4).2,by decide⟩) fun s' e=> ?_
  rw[←e,show bz (ByteArray.mk #[48])=[48]from rfl,jdk,if_pos h4]
 ·have h5:t.k=5:=by simpa using h5
  rw[if_neg (by omega),if_pos h5];exact c_t (jaa hc.1) rfl
 ·have h4:t.k≠4:=by simpa using h4
  have h5:t.k≠5:=by simpa using h5
  rw[if_neg h4,if_neg h5]
theorem ok_Uv:ja0 Tryz.prog Uv:=jau (jak (jak (jak jav (z22_eq▸ok22f)) (z20_eq▸ok20f)) ok101u) gen100
def toV(v:Vl)(f t:Ty):Int×Y×Int×Int:=
 if fit4 v f≠0 then(0,⟨#[]⟩,0,fit4 v f)else if chk4 t≠0 then(0,⟨#[]⟩,0,chk4 t)
 else if f.k=6∨t.k=6 then(if f.k≠t.k then(0,⟨#[]⟩,0,5)else(v.n,v.s,0,0))
 else if(cuV (jci v f) t).2.2.2=none then((cuV (jci v f) t).1,(cuV (jci v f) t).2.1,(cuV (jci v f) t).2.2.1,0)else(0,zrV t,4,0)
def toC(v:Vl)(f t:Ty):Prop:=t.s.size≤9223372036854775807∧f.s.size≤9223372036854775807∧v.s.size≤9223372036854775807
instance (v:Vl)(f t:Ty):Decidable (toC v f t):=by unfold toC;infer_instance
abbrev toR(v:Vl)(f t:Ty):Value:=tp3 (toV v f t).1 (toV v f t).2.1 (toV v f t).2.2.1 (I (toV v f t).2.2.2)
theorem hd_ok{v:Vl}{f t:Ty}{c:Bool}{X:Prop}(h:toC v f t)(hX:fit4 v f=0→chk4 t=0→f.k≠6→t.k≠6→c=true∧X):hd34 (fun x=>x=toR v f t) v f t c X:=by
 obtain⟨h1,h2,h3⟩:=h;unfold hd34;rw[jl4,ckT_eq];refine c_t (jaa ⟨h2,h3⟩) (cond_intro (fun e=> ?_) (fun e=>c_t (jaa h1) (cond_intro (fun e'=> ?_) (fun e'=>c_t (Bool.or_true _) (cond_intro (fun e6=>cond_intro (fun g=> ?_) (fun g=> ?_)) (fun e6=> ?_))))))
 ·have e:fit4 v f≠0:=by simpa using e
  unfold toR toV;rw[if_pos e]
 ·have e:¬fit4 v f≠0:=by simpa using e
  have e':chk4 t≠0:=by simpa using e'
  unfold toR toV;rw[if_neg e,if_pos e']
 ·have e:¬fit4 v f≠0:=by simpa using e
  have e':¬chk4 t≠0:=by simpa using e'
  unfold toR toV;rw[if_neg e,if_neg e',if_pos (by simpa using e6),if_pos (by simpa using g)]
 ·have e:¬fit4 v f≠0:=by simpa using e
  have e':¬chk4 t≠0:=by simpa using e'
  unfold toR toV;rw[if_neg e,if_neg e',if_pos (by simpa using e6),if_neg (by simpa using g)]
 ·have e6:f.k≠6∧t.k≠6:=by simpa using e6
  obtain⟨a,b⟩:=hX (by simpa using e) (by simpa using e') e6.1 e6.2;exact c_t a b
def earl(v:Vl)(f t:Ty):Prop:=fit4 v f≠0∨chk4 t≠0∨f.k=6∨t.k=6
instance (v:Vl)(f t:Ty):Decidable (earl v f t):=by unfold earl;infer_instance
def s34i(c:Vl→Ty→Bool×Value)(b:Bool)(v:Vl)(f t:Ty):Bool×Value:=(decide (toC v f t) && (decide (earl v f t) || (c v f).1&&cuK b (jci v f) t),toR v f t)
theorem i_c{c:Vl→Ty→Bool×Value}{b:Bool}{v:Vl}{f t:Ty}(h:(s34i c b v f t).1=true):toC v f t∧(fit4 v f=0→chk4 t=0→f.k≠6→t.k≠6→(c v f).1=true∧cuK b (jci v f) t=true):=by
 have h:(decide (toC v f t) && (decide (earl v f t) || (c v f).1&&cuK b (jci v f) t))=true:=h;rw[jaf,Bool.or_eq_true,jaf]at h;refine⟨jab h.1,fun h1 h2 h3 h4=>h.2.resolve_left fun e=> ?_⟩;rcases jab e with e | e | e | e
 ·exact e h1
 ·exact e h2
 ·exact h3 e
 ·exact h4 e
theorem tl_y{v:Vl}{f t:Ty}{g:Fu}(hg:jci v f=g)(h1:fit4 v f=0)(h2:chk4 t=0)(h3:f.k≠6)(h4:t.k≠6)(hk:cuK true (jci v f) t=true):tl34 (fun x=>x=toR v f t) g t:=by
 subst hg;refine c_t hk ?_;have hn:(cuV (jci v f) t).2.2.2=none:=by simpa using(jio.1 hk).2
 rw[cuO_eq];unfold toR toV;rw[if_neg (by simp[h1]),if_neg (by simp[h2]),if_neg (by simp[h3,h4]),if_pos hn]
theorem tl_n{v:Vl}{f t:Ty}{g:Fu}(hs:t.s.size≤9223372036854775807)(hg:jci v f=g)(h1:fit4 v f=0)(h2:chk4 t=0)(h3:f.k≠6)(h4:t.k≠6)(hk:cuK false (jci v f) t=true):tn34 (fun x=>x=toR v f t) g t:=by
 subst hg;refine c_t hk (c_t (jaa ⟨hs,fun q=>p1000 h2 (.inr q)⟩) ?_)
 have hn:¬(cuV (jci v f) t).2.2.2=none:=by
  have:=(jio.1 hk).2;intro e;rw[e]at this;cases this
 rw[zrO_eq];unfold toR toV;rw[if_neg (by simp[h1]),if_neg (by simp[h2]),if_neg (by simp[h3,h4]),if_neg hn]
theorem fm_w{v:Vl}{f:Ty}(h:(s97w v f).1=true):jci v f= .w v.n f:=if_pos (jab h)
theorem fm_b{v:Vl}{f:Ty}(h:(s97b v f).1=true):jci v f= .b v.s:=by
 have h:f.k=4:=jab h;unfold jci;rw[if_neg (by omega),if_pos h]
theorem fm_p{v:Vl}{f:Ty}(h:(s97p v f).1=true):jci v f= .p v.s f.s:=by
 have h:f.k=5∧pN (bz f.s)=true∧f.s.size≤9223372036854775807:=jab h;unfold jci;rw[if_neg (by omega),if_neg (by omega),if_pos ⟨h.1,h.2.1⟩]
theorem fm_c{v:Vl}{f:Ty}(h:(s97c v f).1=true):jci v f= .c v.s:=by
 have h:¬(f.k=1∨f.k=2)∧f.k≠4∧(f.k=5→ ¬pN (bz f.s)=true)∧f.s.size≤9223372036854775807:=jab h;unfold jci;rw[if_neg h.1,if_neg h.2.1,if_neg fun q=>h.2.2.1 q.1 q.2]
theorem ok_Uy{c:Vl→Ty→Bool×Value}(h:jan Tryz.prog 158 (sp2 c)):ja0 Tryz.prog (Uy c):=jak (jak ok_Uv h) ok99y
theorem ok_Un{c:Vl→Ty→Bool×Value}(h:jan Tryz.prog 158 (sp2 c)):ja0 Tryz.prog (Un c):=jak (jak ok_Uv h) ok99n
theorem jln{c:Vl→Ty→Bool×Value}{g:Vl→Ty→Fu}(h:jan Tryz.prog 158 (sp2 c))(hg:∀v f,(c v f).1=true→jci v f=g v f)
  (hu:∀(v:Vl)(f t:Ty)(R:Value→Prop),jaz Tryz.prog (Uy c) noL Tryz.f115 [Enc.enc v,Enc.enc f,Enc.enc t] (fun _=>none) 0 (fun v _ _=>R v)=hd34 R v f t (c v f).1 (tl34 R (g v f) t)):jan Tryz.prog 115 (sp3 (s34i c true)):=by
 refine jkh (ok_Uy h) hmix fn34 jaj jag fun v f t hc=> ?_
 obtain⟨h1,h2⟩:=i_c hc;rw[ja5,hu];exact hd_ok h1 fun a b d e=>⟨(h2 a b d e).1,tl_y (hg v f (h2 a b d e).1) a b d e (h2 a b d e).2⟩
theorem jlx{c:Vl→Ty→Bool×Value}{g:Vl→Ty→Fu}(h:jan Tryz.prog 158 (sp2 c))(hg:∀v f,(c v f).1=true→jci v f=g v f)
  (hu:∀(v:Vl)(f t:Ty)(R:Value→Prop),jaz Tryz.prog (Un c) noL Tryz.f115 [Enc.enc v,Enc.enc f,Enc.enc t] (fun _=>none) 0 (fun v _ _=>R v)=hd34 R v f t (c v f).1 (tn34 R (g v f) t)):jan Tryz.prog 115 (sp3 (s34i c false)):=by
 refine jkh (ok_Un h) hmix fn34 jaj jag fun v f t hc=> ?_
 obtain⟨h1,h2⟩:=i_c hc;rw[ja5,hu];exact hd_ok h1 fun a b d e=>⟨(h2 a b d e).1,tl_n h1.1 (hg v f (h2 a b d e).1) a b d e (h2 a b d e).2⟩
def cF:Fin 4→Vl→Ty→Bool×Value
 | 0=>s97w
 | 1=>s97b
 | 2=>s97p
 | 3=>s97c
theorem ok34y:∀i,jan Tryz.prog 115 (sp3 (s34i (cF i) true))
 | 0=>jln ok97w (fun _ _=>fm_w) u34yw
 | 1=>jln ok97b (fun _ _=>fm_b) u34yb
 | 2=>jln ok97p (fun _ _=>fm_p) u34yp
 | 3=>jln ok97c (fun _ _=>fm_c) u34yc
theorem ok34n:∀i,jan Tryz.prog 115 (sp3 (s34i (cF i) false))
 | 0=>jlx ok97w (fun _ _=>fm_w) u34nw
 | 1=>jlx ok97b (fun _ _=>fm_b) u34nb
 | 2=>jlx ok97p (fun _ _=>fm_p) u34np
 | 3=>jlx ok97c (fun _ _=>fm_c) u34nc
def s34u(v:Vl)(f t:Ty):Bool×Value:=(decide (toC v f t),toR v f t)
theorem cuF_of{v:Vl}{f:Ty}(hf:f.s.size≤9223372036854775807)(hv:v.s.size≤9223372036854775807)(h:fit4 v f=0):cuF (jci v f):=by
 unfold fit4 at h;split at h
 ·rename_i q;exact absurd h q
 rename_i c1;split at h
 case isFalse=>cases h
 rename_i i1;have c1:chk4 f=0:=by simpa using c1
 unfold is4 at i1;unfold jci;by_cases k12:f.k=1∨f.k=2
 ·rw[if_pos k12]at i1 ⊢
  have hV:ja9 f:=by
   unfold chk4 at c1;split at c1
   ·assumption
   ·rw[if_neg (by omega),if_neg (by omega),if_neg (by omega),if_neg (by omega)]at c1;cases c1
  have hb:=Fx.bnd_range hV;have i1:Fx.fits v f=0:=by simpa using i1
  unfold Fx.fits at i1;rw[if_pos hV]at i1;split at i1
  ·rename_i hF;obtain⟨-,g1,g2⟩:=hF;exact⟨hV,by omega,by omega⟩
  ·cases i1
 ·rw[if_neg k12]at i1 ⊢;by_cases k4:f.k=4
  ·rw[if_pos k4];rw[if_neg (by omega),if_pos k4]at i1;simp only[jaf,jae]at i1;have:=p1000 c1 (.inr k4)
   have h64:f.p≤64:=by
    unfold chk4 at c1;rw[if_neg (fun q=>k12 q.1),if_neg (by omega)]at c1;split at c1
    ·rename_i q;exact q.2.2.2.2.2
    ·rw[if_neg (by omega),if_neg (by omega)]at c1;cases c1
   exact⟨i1.2,by omega⟩
  ·rw[if_neg k4];split
   ·rename_i q;exact⟨q.2,hv,hf⟩
   ·exact hv
theorem ok34u:jan Tryz.prog 115 (sp3 s34u):=by
 refine jgj (T:=fun i:Fin 4×Bool=>sp3 (s34i (cF i.1) i.2)) (0,true) (fun i=> ?_) fun args bs r hs=> ?_
 ·obtain⟨i,b⟩:=i;cases b
  ·exact ok34n i
  ·exact ok34y i
 ·unfold sp3 at hs;split at hs
  case h_2=>cases hs
  split at hs
  case h_2=>cases hs
  rename_i v f t hv hf ht;simp only[s34u,Option.some.injEq,Prod.mk.injEq]at hs;obtain⟨hc,rfl⟩:=hs;have hC:=jab hc
  have key:∃i:Fin 4×Bool,(decide (earl v f t) || (cF i.1 v f).1&&cuK i.2 (jci v f) t)=true:=by
   by_cases he:earl v f t
   ·exact⟨(0,true),by rw[jaa he];rfl⟩
   have h1:fit4 v f=0:=Classical.not_not.1 fun q=>he (.inl q)
   have h2:chk4 t=0:=Classical.not_not.1 fun q=>he (.inr (.inl q))
   have h4:t.k≠6:=fun q=>he (.inr (.inr (.inr q)))
   have hk:cuK (cuV (jci v f) t).2.2.2.isNone (jci v f) t=true:=jio.2 ⟨⟨cuF_of hC.2.1 hC.2.2 h1,h2,h4,hC.1⟩,rfl⟩
   have hi:∃i,(cF i v f).1=true:=by
    by_cases k12:f.k=1∨f.k=2
    ·exact⟨0,jaa k12⟩
    by_cases k4:f.k=4
    ·exact⟨1,jaa k4⟩
    by_cases k5:f.k=5∧pN (bz f.s)=true
    ·exact⟨2,jaa ⟨k5.1,k5.2,hC.2.1⟩⟩
    ·exact⟨3,jaa ⟨k12,k4,fun q w=>k5 ⟨q,w⟩,hC.2.1⟩⟩
   obtain⟨i,hi⟩:=hi;exact⟨(i,_),by rw[hi,hk];simp⟩
  obtain⟨i,hi⟩:=key;refine⟨i,?_⟩;unfold sp3;simp only[hv,hf,ht];refine congrArg some (Prod.ext ?_ rfl);show(decide (toC v f t) &&_)=true;rw[hc,hi];rfl
theorem fill_fill(l:J)(q p:Nat)(c:Int)(h:l.length≤q):jdi (jdi l q c) p c=jdi l p c:=by
 unfold jdi;rw[List.take_of_length_le h,List.length_append,List.length_replicate];by_cases h1:p≤l.length
 ·rw[List.take_append_of_le_length h1,show p-(l.length+(q-l.length))=0 by omega,show p-l.length=0 by omega]
 ·rw[List.take_append,List.take_of_length_le (by omega:l.length≤p),List.append_assoc,List.take_replicate,List.replicate_append_replicate];congr 2;omega
theorem fill_len(l:J)(q:Nat)(c:Int)(h:l.length≤q):(jdi l q c).length=q:=by
 unfold jdi;rw[List.take_of_length_le h,List.length_append,List.length_replicate];omega
theorem fill_self(l:J)(c:Int):jdi l l.length c=l:=by
 unfold jdi;rw[List.take_of_length_le (Nat.le_refl _),Nat.sub_self];simp
theorem fill_isB{l:J}(hl:IsB l){q:Nat}{c:Int}(hc:0≤c∧c<256):IsB (jdi l q c):=(hl.take _).append fun x hx=>by rw[List.eq_of_mem_replicate hx];omega
theorem trR_pad(l:J)(k:Nat):trR (l++List.replicate k 32)=trR l:=by
 unfold trR;rw[List.reverse_append,jhh];rw[List.all_eq_true];intro x hx;rw[List.mem_reverse]at hx;rw[List.eq_of_mem_replicate hx];rfl
theorem trL_pad(l:J)(k:Nat):trR (trL (l++List.replicate k 32))=trR (trL l):=by
 unfold trL;by_cases h:l.all (· ==32)=true
 ·rw[jhh h]
  have e:l.dropWhile (· ==32)=[]:=by
   have:=jhh (p:=(· ==(32:Int))) (l:=l) (r:=[]) h;simpa using this
  have e2:(List.replicate k (32:Int)).dropWhile (· ==32)=[]:=by simp
  rw[e,e2]
 ·have e:(l++List.replicate k 32).dropWhile (· ==32)=l.dropWhile (· ==32)++List.replicate k 32:=by
   rw[List.dropWhile_append];rw[if_neg];intro q;apply h;rw[List.all_eq_true];exact drop_nil (by simpa using q)
  rw[e,trR_pad]
theorem rdN_pad(l:J)(q:Nat)(h:l.length≤q)(hq:q≤255):rdN (jdi l q 32)=rdN l:=by
 unfold rdN;rw[fill_len l q 32 h,if_neg (by omega),if_neg (by omega)];unfold numR jdi;rw[List.take_of_length_le h,trL_pad]
theorem jn8{s:Y}{n c:Int}(hc:0≤c∧c<256):bz (fiU s n c)=jdi (bz s) n.toNat c:=jco (fill_isB (jdb s) hc)
theorem cu_pad{s:Y}{q:Int}{t:Ty}(h:(s.size:Int)≤q)(hq:q≤255)(ht:chk4 t=0)(h6:t.k≠6)(hb:t.k=4→q=s.size)(hv:t.v=false):
  (cuV (.c (fiU s q 32)) t).1=(cuV (.c s) t).1∧(cuV (.c (fiU s q 32)) t).2.1=(cuV (.c s) t).2.1∧(cuV (.c (fiU s q 32)) t).2.2.1=(cuV (.c s) t).2.2.1∧((cuV (.c (fiU s q 32)) t).2.2.2=none↔(cuV (.c s) t).2.2.2=none):=by
 have hl:(bz s).length≤q.toNat:=by rw[jam];omega
 have hn:numU (.c (fiU s q 32))=numU (.c s):=by
  show rdN (bz (fiU s q 32))=rdN (bz s);rw[jn8 (by omega)];exact rdN_pad _ _ hl (by omega)
 have hf:∀w:Int,fiU (fiU s q 32) w 32=fiU s w 32:=fun w=>by
  show szO (jdi (bz (fiU s q 32)) _ _)=szO (jdi (bz s) _ _);rw[jn8 (by omega),fill_fill _ _ _ _ hl]
 have hN:∀C:Num→Cu,(cuN (.c (fiU s q 32)) C).1=(cuN (.c s) C).1∧(cuN (.c (fiU s q 32)) C).2.1=(cuN (.c s) C).2.1∧(cuN (.c (fiU s q 32)) C).2.2.1=(cuN (.c s) C).2.2.1∧((cuN (.c (fiU s q 32)) C).2.2.2=none↔(cuN (.c s) C).2.2.2=none):=fun C=>by
  unfold cuN;rw[hn];cases numU (.c s)with
  | some x=>exact⟨rfl,rfl,rfl,Iff.rfl⟩
  | none=>exact⟨rfl,rfl,rfl,by simp⟩
 unfold cuV;by_cases k12:t.k=1∨t.k=2
 ·rw[if_pos k12,if_pos k12];exact hN _
 rw[if_neg k12,if_neg k12];by_cases k3:t.k=3
 ·rw[if_pos k3,if_pos k3,if_neg (by rw[hv];simp),if_neg (by rw[hv];simp)];exact⟨rfl,hf _,rfl,Iff.rfl⟩
 rw[if_neg k3,if_neg k3];by_cases k4:t.k=4
 ·have e:fiU s q 32=s:=by
   show szO (jdi (bz s) _ _)=s;rw[hb k4,show((s.size:Int)).toNat=(bz s).length by rw[jam];omega,fill_self,jcl,jf3]
  rw[e];exact⟨rfl,rfl,rfl,Iff.rfl⟩
 rw[if_neg k4,if_neg k4];split
 ·exact hN _
 ·show(if hoZ (bz t.s) (bz (fiU (fiU s q 32) _ 32))=true then _ else _:Cu).1=_∧_;simp only[txtU,hf];exact⟨rfl,rfl,rfl,Iff.rfl⟩
end Go.Cx
end
noncomputable section
set_option maxHeartbeats 3200000
namespace Go.Cx
open Go Go.Ab Go.Proofs Go.Shelf Go.Px Go.Cv
open Go.Fx (Ty Vl check ja9 most base pw bnd Fit fits tv vv tup V0 T0 jbs jbw jbj jcd str0 scl cutN cutC InB)
theorem fit0{v:Vl}{t:Ty}:fit4 v t=0↔chk4 t=0∧is4 v t=true:=by
 unfold fit4;split
 ·rename_i h;exact⟨fun q=>absurd q h,fun q=>absurd q.1 h⟩
 ·rename_i h;have h:chk4 t=0:=by simpa using h
  split
  ·rename_i g;exact⟨fun _=>⟨h,g⟩,fun _=>rfl⟩
  ·rename_i g;exact⟨fun q=>absurd q (by decide),fun q=>absurd q.2 g⟩
theorem jne{t:Ty}(h:chk4 t=0)(h1:t.k=1∨t.k=2):ja9 t:=by
 unfold chk4 at h;split at h
 ·assumption
 ·rw[if_neg (by omega),if_neg (by omega),if_neg (by omega),if_neg (by omega)]at h;cases h
theorem chk_p{t:Ty}(h:chk4 t=0)(h1:t.k=5):vOK (bz t.s)=true:=(k5_of h (by omega) (by omega) (by omega) (by omega)).2
theorem fill_n(l:J)(n:Nat)(c:Int):(jdi l n c).length=n:=by
 unfold jdi;rw[List.length_append,List.length_take,List.length_replicate];omega
theorem jlc(s:Y)(n c:Int):(fiU s n c).size=n.toNat:=by rw[fiU,jb2,fill_n]
theorem jjv(s:Y)(n c:Int)(h:n=s.size):fiU s n c=s:=by
 have e:n.toNat=(bz s).length:=by rw[jam];omega
 rw[fiU,e,fill_self,jcl,jf3]
theorem ar_fit{n:Int}{t:Ty}(hv:ja9 t)(h:InB n t):is4 ⟨n,⟨#[]⟩⟩ t=true:=by
 unfold is4;rw[if_pos hv.1]
 have:fits ⟨n,⟨#[]⟩⟩ t=0:=by
  unfold fits;rw[if_pos hv,if_pos ⟨by kernel_rfl,h.1,h.2⟩]
 rw[this];rfl
theorem tkU_num{n q:Int}{t:Ty}(hv:ja9 t)(hn: -2147483648≤n∧n≤2147483648)(hq:0≤q∧q≤9):tkU (numA n q) t=(cutN (scl n (t.q-q)) t,cutC (scl n (t.q-q)) t 1,0):=by
 have hm:0≤(if n<0 then -n else n)∧(if n<0 then -n else n)≤2147483648:=by split<;>omega
 obtain⟨d1,d2⟩:=jjl hm;have dl:=jdl hm;have hN:=norm_isNum (g:=decide (n<0)) (q:=q) d1 (by omega) (by omega);have hD:ja7 (numA n q).2.1=true:=(jes hN).2.1;unfold tkU;rw[jco (jj1 hD)];exact tk_num hv hn hq
theorem tkU_same{n q:Int}{t:Ty}(hv:ja9 t)(hq:q=t.q)(h:InB n t):tkU (numA n q) t=(n,0,0):=by
 have hb:=Fx.bnd_range hv;have hq9:=hv.2.2.2;obtain⟨h1,h2⟩:=h
 have hm:0≤t.q∧t.q≤9:=by
  obtain⟨hk,-,h4,h5,h6,h7,-⟩:=hv;unfold most at h4;rcases hk with hk | hk
  ·rw[if_pos hk]at h4;omega
  ·have:=h7 hk;omega
 rw[tkU_num hv (by omega) (by omega),hq,Int.sub_self];have e:scl n 0=n:=by unfold scl;rw[if_pos (show(0:Int)≤0 from Int.le_refl 0),jbs _ (Int.le_refl 0),Int.mul_one]
 rw[e];unfold cutN cutC;rw[if_pos ⟨h1,h2⟩,if_pos ⟨h1,h2⟩]
theorem to_id{v:Vl}{f:Ty}(hv:fit4 v f=0):toV v f f=(v.n,v.s,0,0):=by
 obtain⟨hc,hi⟩:=fit0.1 hv;unfold toV;rw[if_neg (by simp[hv]),if_neg (by simp[hc])];by_cases h6:f.k=6
 ·rw[if_pos (.inl h6),if_neg (by simp)]
 rw[if_neg (by omega)]
 have key:cuV (jci v f) f=(v.n,v.s,0,none):=by
  unfold is4 at hi;by_cases h1:f.k=1∨f.k=2
  ·have hV:=jne hc h1;rw[if_pos h1]at hi
   have hF:Fit v f:=by
    unfold fits at hi;rw[if_pos hV]at hi;split at hi
    ·assumption
    ·cases hi
   have hs:v.s=⟨#[]⟩:=jg0 (by have:=hF.1;rw[ByteArray.toList_eq]at this;show v.s.data.toList.map _=_;rw[this];rfl);unfold jci;rw[if_pos h1,cuV,if_pos h1,cuN,numU];simp only;rw[tkU_same hV rfl ⟨hF.2.1,hF.2.2⟩,hs]
  rw[if_neg h1]at hi;by_cases h3:f.k=3
  ·rw[if_pos h3]at hi;have hi:=jab hi;unfold jci;rw[if_neg h1,if_neg (by omega),if_neg (by omega),cuV,if_neg h1,if_pos h3];split
   ·rw[hi.1];rfl
   ·rename_i q
    have:(v.s.size:Int)=f.p:=by
     rcases hi.2 with h | h
     ·exact h
     ·exact absurd ⟨h.1,by show¬(v.s.size:Int)>f.p;omega⟩ q
    show((0:Int),fiU v.s f.p 32,(0:Int),(none:Option Y))=_;rw[jjv _ _ _ this.symm,hi.1]
  rw[if_neg h3]at hi;by_cases h4:f.k=4
  ·rw[if_pos h4,jaf]at hi;have hi1:=jab hi.1;unfold jci;rw[if_neg h1,if_pos h4,cuV,if_neg h1,if_neg h3,if_pos h4];show((0:Int),fiU v.s f.p 48,(0:Int),(none:Option Y))=_;rw[jjv _ _ _ hi1.2.symm,hi1.1]
  rw[if_neg h4]at hi;obtain⟨h5,hk⟩:=k5_of hc h6 h1 h3 h4;rw[if_pos h5,jaf]at hi;have h0:v.n=0:=jab hi.1;have hh:=hi.2;unfold jci;rw[if_neg h1,if_neg h4];by_cases hN:pN (bz f.s)=true
  ·rw[if_pos ⟨h5,hN⟩,cuV,if_neg h1,if_neg h3,if_neg h4,if_pos hN,cuN,numU];obtain⟨r1,r2,r3⟩:=rd_val (t:=v.s) hN;rw[ho_rd hN]at hh;have r3:=r3 (jab hh);obtain⟨p1,-,-⟩:=pT_v hN
   have hI:InB (rdV (bz f.s) (bz v.s)).1 (pT f.s):=by
    have e:bnd (pT f.s)=tenZ (pD (bz f.s)).toNat:=by
     have ek:tyK (bz f.s)=1∧tyP (bz f.s)=pD (bz f.s):=by
      unfold tyK tyP;rw[if_pos hk,if_pos hk,if_pos hN,if_pos hN];exact⟨rfl,rfl⟩
     unfold bnd;show pw (base (tyK (bz f.s))) (tyP (bz f.s))=_;rw[ek.1,ek.2];rfl
    unfold InB;rw[e];omega
   simp only;rw[tkU_same p1 rfl hI];obtain⟨e1,e2,-⟩:=ed_in hN r1 r2;simp only[e1,e2,r3,jf3,if_true,h0]
  ·have hN':pN (bz f.s)=false:=by simpa using hN
   rw[if_neg (fun q=>hN q.2),cuV,if_neg h1,if_neg h3,if_neg h4,if_neg hN]
   have hw:((v.s.size:Nat):Int)=pW (bz f.s):=by
    have:=hh;rw[hoZ,if_pos hk,if_neg hN,jaf]at this;have:=jab this.1;rwa [jam]at this
   have et:tyP (bz f.s)=pW (bz f.s):=by rw[tyP,if_pos hk,if_neg hN]
   have e:fiU (txtU (.c v.s)) (tyP (bz f.s)) 32=v.s:=by
    show fiU v.s _ _=_;exact jjv _ _ _ (by omega)
   rw[e,if_pos hh,h0]
 rw[key,if_pos rfl]
end Go.Cx
end
noncomputable section
set_option maxHeartbeats 3200000
namespace Go.Cx
open Go Go.Ab Go.Proofs Go.Shelf Go.Px Go.Cv
open Go.Fx (Ty Vl check ja9 most base pw bnd Fit fits tv vv tup V0 T0 jbs jbw jbj jcd str0)
def isN(x:Num):Prop:=je8 x.1 x.2.1 x.2.2=true
theorem norm_isN{g:Bool}{l:J}{q:Int}(h:ja7 l=true)(hl:l.length≤400)(hq: -400≤q-l.length∧q≤400):isN (ja1 g l q):=by
 obtain⟨k,e1,e2⟩:=jmx l;have hk:=je2 l 48;unfold isN ja1;by_cases h0:nz l=[]
 ·rw[if_pos h0];rfl
 ·rw[if_neg h0];obtain⟨n1,n2⟩:=nz_head (l:=l);unfold je8;simp only;rw[if_neg h0,jk0 h,jaa (show(nz l).length≤400 by omega),jaa (show -400≤q-(((tlZ l 48).length:Int)-(nz l).length)∧q-(((tlZ l 48).length:Int)-(nz l).length)≤400 by omega)];have a1:((nz l).head?==some 48)=false:=by simpa using n1
  have a2:((nz l).getLast?==some 48)=false:=by simpa using n2
  rw[a1,a2];rfl
theorem expD_r{l:J}{e:Int}(h:expD l=some e):0≤e∧e≤99:=by
 unfold expD at h;split at h
 ·rename_i q;cases h;rw[←jin];exact decG_rng q.2.2 q.2.1
 ·cases h
theorem expZ_r{l:J}{e:Int}(h:expZ l=some e): -99≤e∧e≤99:=by
 cases l with
 | nil=>cases h
 | cons c r=>
  rw[expZ_head]at h;split at h
  ·cases hd:expD r with
   | none=>rw[hd]at h;cases h
   | some x=>rw[hd]at h;cases h;have:=expD_r hd;simp only;omega
  ·split at h<;>(have:=expD_r h;omega)
theorem decR_num{g:Bool}{l:J}{x:Num}(hl:l.length≤255)(h:decR ja1 g l=some x):isN x:=by
 rw[decR_eq]at h;cases hd:decE l with
 | none=>rw[hd]at h;cases h
 | some e=>
  rw[hd]at h
  have he: -99≤e∧e≤99:=by
   unfold decE at hd;split at hd
   ·cases hd;omega
   ·exact expZ_r hd
  have h:decB g (Cv.ahead 69 l) e=some x:=h;unfold decB at h;split at h
  ·rename_i q;cases h;have h1:=jhp 69 l;have h2:=jhp 46 (Cv.ahead 69 l)
   have h3:(Cv.ahead 46 (Cv.ahead 69 l)).length+((past 46 (Cv.ahead 69 l)).getD []).length≤l.length:=by
    rw[jhy];split
    ·rw[Option.getD_some,List.length_drop];omega
    ·simp;omega
   refine norm_isN ?_ (by rw[List.length_append];omega) (by rw[List.length_append];omega);unfold ja7 at*;rw[List.all_append,q.2.1,q.2.2];rfl
  ·cases h
theorem jj8{g:Bool}{l:J}{x:Num}(hl:l.length≤255)(h:bodR ja1 binD g l=some x):isN x:=by
 unfold bodR at h;split at h
 ·split at h
  ·rename_i q;cases h;have hr:=bin_31 q.2 (by rw[List.length_dropLast];exact q.1)
   have hn:(binD l.dropLast).length≤11:=by
    rw[binD,decZ,zl,List.length_map];have:=jhk 9 (binG l.dropLast 0).toNat (by omega);omega
   exact norm_isN (jj3 30 _ (by omega)).1 (by omega) (by omega)
  ·cases h
 ·exact decR_num hl h
theorem rdN_num{l:J}{x:Num}(h:rdN l=some x):isN x:=by
 unfold rdN at h;split at h
 ·cases h
 rename_i hl;have h1:=jkd (tlZ l 32) 32;have h2:=je2 l 32;unfold numR at h;rw[trL_eq,trR_eq]at h;generalize trZ (tlZ l 32) 32=u at h h1;unfold sgnR at h;split at h
 ·cases h;rfl
 ·rename_i r _;exact jj8 (by simp at h1;omega) h
 ·rename_i r _;exact jj8 (by simp at h1;omega) h
 ·exact jj8 (by omega) h
end Go.Cx
end
noncomputable section
set_option maxHeartbeats 3200000
namespace Go.Fh
open Go Go.Ab Go.Proofs Go.Shelf Go.Px Go.Cv Go.Cx Go.Ff
open Go.Fx (Ty Vl ja9 InB Fit)
theorem dec_len:∀(k n:Nat),n<10^ (k+1)→(Lib.decDigits n).length≤k+1
 | 0,n,h=>by
  rw[Lib.decDigits,dif_pos (by omega)];simp
 | k+1,n,h=>by
  rw[Lib.decDigits];split
  ·simp
  ·have:=dec_len k (n/10) (by rw[Nat.pow_succ]at h;omega);simp only[List.length_append,List.length_cons,List.length_nil];omega
theorem ho_len{l t:J}(h:hoZ l t=true):(t.length:Int)=pW l:=by
 unfold hoZ at h;split at h
 ·split at h
  ·rename_i hn;have h:=jab h;unfold rdV at h;rw[if_pos hn]at h;split at h
   ·rename_i hl;exact hl
   ·cases h
  ·simp only[jaf,jae]at h;exact h.1
 ·cases h
theorem fitE0{v:Vl}{t:Ty}(h:fitE v t=0):fit4 v t=0∧t.k≠6∧chk4 t=0:=by
 unfold fitE typE at h;by_cases h1:fit4 v t=0
 ·rw[if_neg (by simp[h1])]at h;by_cases h2:chk4 t=0
  ·rw[if_neg (by simp[h2])]at h;refine⟨h1,fun q=> ?_,h2⟩;rw[if_pos q]at h;cases h
  ·rw[if_pos h2]at h;exact absurd h h2
 ·rw[if_pos h1]at h;exact absurd h h1
theorem jjt{v:Vl}{t:Ty}(h:fit4 v t=0)(h6:t.k≠6):((t.k=1∨t.k=2)→ja9 t∧ -2147483648≤v.n∧v.n≤2147483648)∧(t.k≠1→t.k≠2→v.s.size≤255)∧(t.k=4→jca (bz v.s)=true∧v.s.size≤64):=by
 obtain⟨hc,hi⟩:=fit0.1 h;refine⟨fun h12=> ?_,fun h1 h2=> ?_,fun h4=> ?_⟩
 ·have hv:=jne hc h12;exact⟨hv,jlb h hv⟩
 ·unfold is4 at hi;rw[if_neg (by omega)]at hi;unfold chk4 at hc;rw[if_neg (fun q=>by have:=q.1;omega)]at hc;by_cases h3:t.k=3
  ·rw[if_pos h3]at hi;have hi:=jab hi;split at hc
   ·rename_i q;omega
   ·rw[if_neg (by omega),if_neg (by omega),if_neg (by omega)]at hc;cases hc
  rw[if_neg h3]at hi;rw[if_neg (by omega)]at hc;by_cases h4:t.k=4
  ·rw[if_pos h4]at hi;simp only[jaf,jae]at hi;split at hc
   ·rename_i q;omega
   ·rw[if_neg (by omega),if_neg (by omega)]at hc;cases hc
  rw[if_neg h4]at hi;rw[if_neg (by omega)]at hc;by_cases h5:t.k=5
  ·rw[if_pos h5]at hi;simp only[jaf,jae]at hi;have:=ho_len hi.2;have hw:=jki (s:=t.s);rw[jam]at this;omega
  ·rw[if_neg (by omega),if_neg (by omega)]at hc;cases hc
 ·unfold is4 at hi;rw[if_neg (by omega),if_neg (by omega),if_pos h4]at hi;simp only[jaf,jae]at hi;unfold chk4 at hc;rw[if_neg (fun q=>by have:=q.1;omega),if_neg (by omega)]at hc;split at hc
  ·rename_i q;exact⟨hi.2,by omega⟩
  ·rw[if_neg (by omega),if_neg (by omega)]at hc;cases hc
theorem nm_ok{v:Vl}{t:Ty}(h:fit4 v t=0)(h6:t.k≠6):IsB (nmU v t).1.2.1∧(nmU v t).1.2.1.length≤400∧ -2000≤(nmU v t).1.2.2∧(nmU v t).1.2.2≤2000:=by
 obtain⟨f1,f2,f3⟩:=jjt h h6;unfold nmU;split
 ·rename_i h12;obtain⟨hv,hn⟩:=f1 h12;obtain⟨a,b,c,d⟩:=scZ_ok hn (q:=t.q) (by have:=Fx.valid_r hv;omega);exact⟨a,by simp only;omega,c,d⟩
 split
 ·rename_i h5;have hr:=jmt (t:=v.s) h5.2;obtain⟨_,p0,p1,p2⟩:=jed h5.2;obtain⟨a,b,c,d⟩:=scZ_ok (n:=(rdV (bz t.s) (bz v.s)).1) (by omega) (q:=pQ (bz t.s)) (by omega);exact⟨a,by simp only;omega,c,d⟩
 split
 ·rename_i h4;obtain⟨hb,hs⟩:=f3 h4;obtain⟨l1,l2⟩:=jks (bz v.s) 0 hb (by omega);have h64:(2:Int) ^ (bz v.s).length≤2^64:=by exact_mod_cast Nat.pow_le_pow_right (n:=2) (by omega) (show(bz v.s).length≤64 by rw[jam];omega)
  have e64:(2:Int) ^64=18446744073709551616:=rfl
  have hl:=dec_len 19 (binG (bz v.s) 0).toNat (by
   have:(10:Nat) ^ (19+1)=100000000000000000000:=rfl;omega)
  refine⟨jlz (dec_B _) _,?_,by simp,by simp⟩;have:=je2 (decZ (binG (bz v.s) 0)) 48;have e:(decZ (binG (bz v.s) 0)).length=(Lib.decDigits (binG (bz v.s) 0).toNat).length:=by simp[decZ,zl]
  simp only;omega
 ·simp only;cases hr:rdN (bz v.s)with
  | none=>exact⟨IsB.nil,by simp[num0],by simp[num0],by simp[num0]⟩
  | some x=>
   have hx:=rdN_num hr;unfold isN je8 at hx;simp only[Option.getD_some];split at hx
   ·rename_i hd;simp only[jaf,jae]at hx;rw[hd];exact⟨IsB.nil,by simp,by omega,by omega⟩
   ·simp only[jaf,jae]at hx;obtain⟨a,b,_,_,c,d⟩:=hx;refine⟨fun y hy=> ?_,a,by omega,by omega⟩;have:=List.all_eq_true.1 b y hy;simp only[dig,jaf,jae]at this;omega
theorem tl0{s:Y}(h:s.toList=[]):s.size=0:=by
 rw[Go.Fx.str_e0 h];rfl
theorem v_size{v:Vl}{t:Ty}(h:fit4 v t=0)(h6:t.k≠6):v.s.size≤255:=by
 by_cases h12:t.k=1∨t.k=2
 ·obtain⟨hc,hi⟩:=fit0.1 h;unfold is4 at hi;rw[if_pos h12]at hi;have hi:=eq_of_beq hi;unfold Fx.fits at hi;rw[if_pos (jne hc h12)]at hi;split at hi
  ·rename_i hf;rw[tl0 hf.1];omega
  ·cases hi
 ·exact(jjt h h6).2.1 (by omega) (by omega)
theorem tx_size{v:Vl}{t:Ty}(h:fit4 v t=0)(h6:t.k≠6):(txS v t).size≤255∧txE v t=0:=by
 refine⟨?_,by unfold txE;rw[if_neg (by simp[h]),if_neg h6]⟩;unfold txS;split
 ·rename_i hv;have hr:=Fx.valid_r hv;have hn:=jlb h hv;have hl:=(fixS_len hn (q:=t.q) (by omega)).1;rw[jb2,txtZ];have hw:wid t≤40:=by unfold wid;split<;>omega
  simp only[List.length_append,List.length_replicate];omega
 ·exact v_size h h6
theorem to_chk{v:Vl}{f t:Ty}(h:(toV v f t).2.2.2=0):chk4 t=0:=by
 unfold toV at h;split at h
 ·rename_i q;exact absurd h q
 split at h
 ·rename_i q;exact absurd h q
 ·rename_i q;simpa using q
theorem to_bsz{v:Vl}{f:Ty}{w:Int}(hv:fit4 v f=0)(h6:f.k≠6)(h:(toV v f ⟨4,w,0,false,⟨#[]⟩⟩).2.2.2=0):((toV v f ⟨4,w,0,false,⟨#[]⟩⟩).2.1.size:Int)=w:=by
 have hc:=to_chk h;have hp:=p1000 hc (.inr rfl);clear h;unfold toV;rw[if_neg (by simp[hv]),if_neg (by simp[hc]),if_neg (by simp;omega)];split
 ·unfold Cx.cuV;rw[if_neg (by simp),if_neg (by simp),if_pos rfl];show((fiU _ w 48).size:Int)=w;rw[jlc];have:=hp.1;simp only at this;omega
 ·show((Cx.zrV ⟨4,w,0,false,⟨#[]⟩⟩).size:Int)=w;unfold Cx.zrV;rw[if_pos rfl,jb2,List.length_replicate];have:=hp.1;simp only at this ⊢;omega
theorem ed_sz{s:Y}(h:pN (bz s)=true)(n:Int):((sz (edS (bz s) n (pQ (bz s)))).size:Int)=pW (bz s):=by
 have hp:=jed h
 have e:edS (bz s) n (pQ (bz s))=fdN (bz s) (Px.cuN n (pQ (bz s)) (pQ (bz s)) (pD (bz s)) (pG (bz s))):=by
  rw[edS,if_pos ⟨h,by omega⟩];rfl
 rw[e];exact size_fdN h _
theorem to_psz{v:Vl}{f:Ty}{p:Y}(hv:fit4 v f=0)(h6:f.k≠6)(h:(toV v f ⟨5,0,0,false,p⟩).2.2.2=0):((toV v f ⟨5,0,0,false,p⟩).2.1.size:Int)=pW (bz p):=by
 have hc:=to_chk h;have hk:=chk_p hc rfl;have hw:=jki (s:=p);clear h;unfold toV;rw[if_neg (by simp[hv]),if_neg (by simp[hc]),if_neg (by simp;omega)];split
 ·rename_i hn;revert hn;unfold Cx.cuV;rw[if_neg (by simp),if_neg (by simp),if_neg (by simp)];split
  ·rename_i hN;unfold Cx.cuN;split
   ·exact fun _=>ed_sz hN _
   ·intro q;cases q
  ·rename_i hN;split
   ·intro _;show((fiU _ _ _).size:Int)=_;rw[jlc]
    have:tyP (bz p)=pW (bz p):=by
     have hN:pN (bz p)=false:=by simpa using hN
     rw[tyP,if_pos hk,hN];rfl
    rw[this];omega
   ·intro q;cases q
 ·show((Cx.zrV ⟨5,0,0,false,p⟩).size:Int)=_;unfold Cx.zrV;rw[if_neg (by simp),if_pos rfl];show((sz (zeS (bz p))).size:Int)=_;unfold zeS;rw[if_pos hk];split
  ·rename_i hN;exact size_fdN hN 0
  ·rw[jgh,rep1,List.length_replicate];omega
end Go.Fh
end
noncomputable section
set_option maxHeartbeats 3200000
set_option maxRecDepth 100000
namespace Go.Fh
open Go Go.Ab Go.Proofs Go.Shelf Go.Px Go.Cv Go.Cx Go.Ff
open Go.Fx (Ty Vl)
attribute [local instance 5000] tabsB
theorem toO_ex:∃d:Vl→Ty→Ty→Int×Y×Int×Int,d=toV:=⟨_,rfl⟩
def toO:Vl→Ty→Ty→Int×Y×Int×Int:=Classical.choose toO_ex
theorem jht:toO=toV:=Classical.choose_spec toO_ex
def s34o(v:Vl)(f t:Ty):Bool×Value:=(decide (toC v f t),tp3 (toO v f t).1 (toO v f t).2.1 (toO v f t).2.2.1 (I (toO v f t).2.2.2))
def txP(v:Vl)(t:Ty):Y×Int:=(if txE v t≠0 then⟨#[]⟩else txS v t,txE v t)
theorem txO_ex:∃d:Vl→Ty→Y×Int,d=txP:=⟨_,rfl⟩
def txO:Vl→Ty→Y×Int:=Classical.choose txO_ex
theorem jml:txO=txP:=Classical.choose_spec txO_ex
def s32o(v:Vl)(t:Ty):Bool×Value:=(decide (t.s.size≤9223372036854775807∧v.s.size≤9223372036854775807),.tuple ⟨[S (txO v t).1,I (txO v t).2]⟩)
def fxP(g:Bool)(d:J)(c b:Int):Y×Bool:=(szO (bif (roF d c b).2 then fixF g (roF d c b).1 b else []),(roF d c b).2)
theorem fxO_ex:∃d:Bool→J→Int→Int→Y×Bool,d=fxP:=⟨_,rfl⟩
def fxO:Bool→J→Int→Int→Y×Bool:=Classical.choose fxO_ex
theorem jm6:fxO=fxP:=Classical.choose_spec fxO_ex
def s76o(x:Nu)(b:Int):Bool×Value:=(decide (x.d.size≤900∧0≤b∧b≤9∧ -100000≤x.c∧x.c≤100000),.tuple ⟨[S (fxO x.g (bz x.d) x.c b).1,B (fxO x.g (bz x.d) x.c b).2]⟩)
def wdP(f:Fo):Int:=if f.k=4 then pW (bz f.s)else f.w
theorem wdO_ex:∃d:Fo→Int,d=wdP:=⟨_,rfl⟩
def wdO:Fo→Int:=Classical.choose wdO_ex
theorem jiv:wdO=wdP:=Classical.choose_spec wdO_ex
theorem ok34o:jan Tryz.prog 115 (sp3 s34o):=by
 have:s34o=s34u:=by funext v f t;rw[s34o,s34u,jht]
 rw[this];exact pureB ok34u
theorem ok32o:jan Tryz.prog 109 (sp2 s32o):=by
 have:s32o=s32f:=by funext v t;rw[s32o,s32f,jml];rfl
 rw[this];exact pureB ok32f
theorem ok76o:jan Tryz.prog 117 (sp2 s76o):=by
 have:s76o=Ff.s76:=by funext x b;rw[s76o,Ff.s76,jm6];rfl
 rw[this];exact Ff.ok76
theorem wd_r{f:Fo}(h:jby f=true)(hk:f.k≤4):0≤wdO f∧wdO f≤255:=by
 rw[jiv,wdP];have hw:=jki (s:=f.s);simp only[jby,jaf,jae]at h;split<;>omega
theorem jg9(c n:Int):(szO (repZ [c] n.toNat)).size=n.toNat:=by
 rw[jb2,jdk,List.length_replicate]
def K1:Env:=Env.nil.add 26 (sp1 Px.s35)
theorem ok_K1:ja0 Tryz.prog K1:=jak jav (pureB Px.ok35)
def s62u(f:Fo):Bool×Value:=(decide (f.s.size≤9223372036854775807),I (wdO f))
theorem v62u(f:Fo)(R:Value→Prop):jaz Tryz.prog K1 noL Tryz.f90 [Enc.enc f] (fun _=>none) 0 (fun v _ _=>R v)=(bif Ff.Fo.k f !=4 then R (I (Ff.Fo.w f))else aq (ax (Ff.Fo.s f)) (I (pW (bz (Ff.Fo.s f)))) R):=by kernel_rfl
theorem ok62u:jan Tryz.prog 90 (sp1 s62u):=by
 refine jck ok_K1 hmix (.m Tryz.func90) jaj jag fun f hc=> ?_
 rw[ja5,v62u];delta aq ax;have hc:(f.s.size≤9223372036854775807):=jab hc
 try dsimp only[s62u]
 have e:wdO f=if f.k=4 then pW (bz f.s)else f.w:=by rw[jiv];rfl
 rw[e];refine cond_intro (fun h=> ?_) (fun h=>c_t (jaa hc) ?_)
 ·have h:¬f.k=4:=by simpa using h
  rw[if_neg h]
 ·have h:f.k=4:=by simpa using h
  rw[if_pos h]
def K2:Env:=(((((Env.nil.add 90 (sp1 s62u)).add 114 (sp2 Cx.s30)).add 109 (sp2 s32o)).add 115 (sp3 s34o)).add 116 (sp2 s75u)).add 117 (sp2 s76o)
def jn5(v:Vl)(t:Ty):Prop:=fitE v t=0
instance (v:Vl)(t:Ty):Decidable (jn5 v t):=by unfold jn5;infer_instance
def cE(f:Fo)(v:Vl)(t:Ty):Prop:=f.s.size≤9223372036854775807∧t.s.size≤9223372036854775807∧v.s.size≤9223372036854775807∧jby f=true∧f.k≤4∧jn5 v t
instance (f:Fo)(v:Vl)(t:Ty):Decidable (cE f v t):=by unfold cE;infer_instance
def rpt(c n:Int):Y:=szO (repZ [c] n.toNat)
def jgf(w:Int):Ty:=⟨4,imin w 64,0,false,⟨#[]⟩⟩
def jkc(s:Y):Ty:=⟨5,0,0,false,s⟩
def edP(f:Fo)(v:Vl)(t:Ty):Y:=
 if f.k=1 then if f.w=0 then(txO v t).1 else((txO v t).1++rpt 32 f.w).extract 0 f.w.toNat
 else if f.k=2 then if(toO v t (jgf (wdO f))).2.2.2≠0∨(toO v t (jgf (wdO f))).2.2.1=4 then rpt 42 (wdO f)else(toO v t (jgf (wdO f))).2.1++rpt 32 (wdO f-(toO v t (jgf (wdO f))).2.1.size)
 else if f.k=3 then if(nuO v t).2=false then rpt 42 (wdO f)else
  if(fxO (nuO v t).1.1 (nuO v t).1.2.1 (nuO v t).1.2.2 f.d).2=false∨wdO f<(fxO (nuO v t).1.1 (nuO v t).1.2.1 (nuO v t).1.2.2 f.d).1.size then rpt 42 (wdO f)
  else rpt 32 (wdO f-(fxO (nuO v t).1.1 (nuO v t).1.2.1 (nuO v t).1.2.2 f.d).1.size)++(fxO (nuO v t).1.1 (nuO v t).1.2.1 (nuO v t).1.2.2 f.d).1
 else if(toO v t (jkc f.s)).2.2.2≠0∨(toO v t (jkc f.s)).2.2.1≠0 then rpt 42 (wdO f)else(toO v t (jkc f.s)).2.1
theorem edO_ex:∃d:Fo→Vl→Ty→Y,d=edP:=⟨_,rfl⟩
def edO:Fo→Vl→Ty→Y:=Classical.choose edO_ex
theorem ji3:edO=edP:=Classical.choose_spec edO_ex
theorem ok_K2:ja0 Tryz.prog K2:=jak (jak (jak (jak (jak (jak jav ok62u) (pureB Cx.ok30)) ok32o) ok34o) ok75u) ok76o
def s39u(f:Fo)(v:Vl)(t:Ty):Bool×Value:=(decide (cE f v t),S (edO f v t))
def mo(e:Y)(b:Fx.Ty)(a:Fx.Vl)(c d:Int):Prod Y (Prod Int Int):=(Fh.toO a b (Fx.Ty.mk c d 0 false e)).snd
def pl(a b c:Bool)(f g h:Y)(e:Ff.Fo)(d:Value→Prop):Prop:=bif a then br b true (b || c) (d (.string (g9 ⟨#[42]⟩ (Fh.wdO e)))) (g8 (gq iw (io (Fh.wdO e) (al f))) (fu g h) (.string (g++h)) d)else False
def mp(c:Ff.Fo)(b:Fx.Ty)(a:Fx.Vl):Prod Y Bool:=Fh.fxO (Fh.nuO a b).fst.fst (bz (szO (Fh.nuO a b).fst.snd.fst)) (Fh.nuO a b).fst.snd.snd (Ff.Fo.d c)
def mq(c:Ff.Fo)(a:Fx.Ty)(b:Fx.Vl):Prod Y (Prod Int Int):=mo am a b 4 (imin (Fh.wdO c) 64)
theorem v39u(f:Fo)(v:Vl)(t:Ty)(R:Value→Prop):jaz Tryz.prog K2 noL Tryz.f64 [Enc.enc f,Enc.enc v,Enc.enc t] (fun _=>none) 0 (fun v _ _=>R v)=(dt (gq ⟨#[42]⟩ (Fh.wdO f)) (Ff.Fo.s f) (bif Ff.Fo.k f==1 then bif kl t v then bif Ff.Fo.w f==0 then R (S (Fh.txO v t).fst)else bif gq iw (Ff.Fo.w f)then bif fu (Fh.txO v t).fst (g9 iw (Ff.Fo.w f))then lq ((Fh.txO v t).fst++g9 iw (Ff.Fo.w f)) (((Fh.txO v t).fst++g9 iw (Ff.Fo.w f)).extract 0 (Ff.Fo.w f).toNat) 0 (Ff.Fo.w f) R else False else False else False else bif Ff.Fo.k f==2 then pl (decide (toC v t (Fx.Ty.mk 4 (imin (Fh.wdO f) 64) 0 false am))) ((mq f t v).snd.snd !=0) ((mq f t v).snd.fst==4) (mq f t v).fst (mq f t v).fst (g9 iw (bu (Fh.wdO f) (dx (mq f t v).fst))) f R else bif Ff.Fo.k f==3 then bif decide (Fh.c75 v t)then bif !(Fh.nuO v t).snd then R (S (g9 ⟨#[42]⟩ (Fh.wdO f)))else pl (oq (szO (Fh.nuO v t).fst.snd.fst) (Ff.Fo.d f) (Fh.nuO v t).fst.snd.snd) (!(mp f t v).snd) (decide (dx (mp f t v).fst>Fh.wdO f)) (mp f t v).fst (g9 iw (bu (Fh.wdO f) (dx (mp f t v).fst))) (mp f t v).fst f R else False else bif decide (toC v t (Fx.Ty.mk 5 0 0 false (Ff.Fo.s f)))then br ((mo (Ff.Fo.s f) t v 5 0).snd.snd !=0) true ((mo (Ff.Fo.s f) t v 5 0).snd.snd !=0 || (mo (Ff.Fo.s f) t v 5 0).snd.fst !=0) (R (S (g9 ⟨#[42]⟩ (Fh.wdO f)))) (R (S (mo (Ff.Fo.s f) t v 5 0).fst))else False) False):=by kernel_rfl
theorem ok39u:jan Tryz.prog 64 (sp3 s39u):=by
 refine jkh ok_K2 hmix (.m Tryz.func64) jaj jag fun f v t hc=> ?_
 rw[ja5,v39u];delta ax dt br mo g9 aq g8 fu gq io al iw pl mp bu dx oq am mq ez lq ii kl;have hc:(cE f v t):=jab hc
 try dsimp only[s39u]
 obtain⟨h1,h2,h3,h4,h5,h6⟩:=hc;obtain⟨hf,hk6,hck⟩:=fitE0 h6;have hw:=wd_r h4 h5;have hr:=h4;simp only[jby,jaf,jae]at hr;obtain⟨⟨r1,r2,r3,r4,r5,r6,r7,r8⟩,_⟩:=hr;obtain⟨hcd,hvs⟩:=fit0.1 hf;have e42:(⟨#[42]⟩:Y).size=1:=rfl;have e32:(⟨#[32]⟩:Y).size=1:=rfl;have b42:bz (⟨#[42]⟩:Y)=[42]:=rfl;have b32:bz (⟨#[32]⟩:Y)=[32]:=rfl;have e0:(⟨#[]⟩:Y).size=0:=rfl;rw[e42,e32,b42,b32];have hed:edO f v t=edP f v t:=by rw[ji3]
 rw[hed];refine c_t (jaa h1) (c_t (jaa (by omega)) (cond_intro (fun q1=> ?_) (fun q1=> ?_)))
 ·have q1:f.k=1:=by simpa using q1
  obtain⟨t1,t2⟩:=tx_size hf hk6;have ht:(txO v t).1.size≤255:=by rw[jml,txP,t2];exact t1
  refine c_t (jaa ⟨h2,h3⟩) (cond_intro (fun q=> ?_) (fun q=> ?_))
  ·have q:f.w=0:=by simpa using q
   rw[edP,if_pos q1,if_pos q]
  ·have q:¬f.w=0:=by simpa using q
   rw[edP,if_pos q1,if_neg q,jg9,ByteArray.size_append,jg9];refine c_t (jaa (by omega)) (c_t (by rw[jbn,Nat.ble_eq];omega) (c_t (jaa (by omega)) rfl))
 have q1:¬f.k=1:=by simpa using q1
 apply cond_intro<;>intro q2
 ·have q2:f.k=2:=by simpa using q2
  have ety:(⟨4,imin (wdO f) 64,0,false,⟨#[]⟩⟩:Ty)=jgf (wdO f):=rfl;rw[ety]
  have hto:(toO v t (jgf (wdO f))).2.2.2=0→((toO v t (jgf (wdO f))).2.1.size:Int)≤wdO f:=fun h=>by
   rw[jht]at h ⊢;have:=to_bsz hf hk6 h;have hm:imin (wdO f) 64≤wdO f:=by unfold imin;split<;>omega
   show((toV v t ⟨4,imin (wdO f) 64,0,false,⟨#[]⟩⟩).2.1.size:Int)≤wdO f;omega
  have hsz:toC v t (jgf (wdO f)):=⟨by show(⟨#[]⟩:Y).size≤_;rw[e0];omega,h2,h3⟩
  rw[edP,if_neg q1,if_pos q2];generalize toO v t (jgf (wdO f))=y at*;refine c_t (jaa hsz) (c_t (by simp) (cond_intro (fun q=> ?_) (fun q=> ?_)))
  ·have q:y.2.2.2≠0∨y.2.2.1=4:=by simpa using q
   rw[if_pos q];rfl
  ·have q':¬(y.2.2.2≠0∨y.2.2.1=4):=by simpa using q
   have hl:=hto (by omega);rw[if_neg q',w64 (n:=wdO f-y.2.1.size) (by omega),jg9];exact c_t (jaa (by omega)) (c_t (by rw[jbn,Nat.ble_eq];omega) rfl)
 have q2:¬f.k=2:=by simpa using q2
 apply cond_intro<;>intro q3
 ·have q3:f.k=3:=by simpa using q3
  obtain⟨f1,f2,f3⟩:=jjt hf hk6;obtain⟨n1,n2,n3,n4⟩:=nm_ok hf hk6
  have hc75:c75 v t:=⟨h2,h3,fun h=>by
   obtain⟨a,b,c⟩:=f1 h;have:=Fx.valid_r a;omega,fun h=>f3 h⟩
  rw[edP,if_neg q1,if_neg q2,if_pos q3];have hn:nuO v t=nmU v t:=by rw[jmy]
  rw[hn,jco n1,jb2];generalize nmU v t=x at*;refine c_t (jaa hc75) (cond_intro (fun q=> ?_) (fun q=> ?_))
  ·have q:x.2=false:=by simpa using q
   rw[if_pos q];rfl
  have q':¬x.2=false:=by simpa using q
  rw[if_neg q']
  have hfx:(fxO x.1.1 x.1.2.1 x.1.2.2 f.d).1.size≤320:=by
   rw[jm6,fxP,jb2];cases hb:(roF x.1.2.1 x.1.2.2 f.d).2
   ·rw[cond_false];simp
   ·rw[cond_true];exact fixF_len (roF_len hb) _ (by omega)
  generalize fxO x.1.1 x.1.2.1 x.1.2.2 f.d=y at*;refine c_t (jaa (by omega)) (c_t (by simp) (cond_intro (fun p=> ?_) (fun p=> ?_)))
  ·have p:y.2=false∨wdO f<y.1.size:=by simpa using p
   rw[if_pos p];rfl
  ·have p':¬(y.2=false∨wdO f<y.1.size):=by
    intro p';have:(!y.2 || decide ((y.1.size:Int)>wdO f))=true:=by simpa using p'
    rw[this]at p;cases p
   rw[if_neg p',w64 (n:=wdO f-y.1.size) (by omega),jg9];exact c_t (jaa (by omega)) (c_t (by rw[jbn,Nat.ble_eq];omega) rfl)
 ·have q3:¬f.k=3:=by simpa using q3
  have ety:(⟨5,0,0,false,f.s⟩:Ty)=jkc f.s:=rfl;rw[ety,edP,if_neg q1,if_neg q2,if_neg q3];have hsz:toC v t (jkc f.s):=⟨h1,h2,h3⟩
  generalize toO v t (jkc f.s)=y at*;refine c_t (jaa hsz) (c_t (by simp) (cond_intro (fun q=> ?_) (fun q=> ?_)))
  ·have q:y.2.2.2≠0∨y.2.2.1≠0:=by simpa using q
   rw[if_pos q];rfl
  ·have q':¬(y.2.2.2≠0∨y.2.2.1≠0):=by
    intro q';have:(y.2.2.2 !=0 || y.2.2.1 !=0)=true:=by simpa using q'
    rw[this]at q;cases q
   rw[if_neg q']
attribute [local instance 5000] tabsB
def K3:Env:=((Env.nil.add 78 (sp1 Ff.s37)).add 57 (sp2 Ff.s38)).add 64 (sp3 s39u)
def edQ(f:Fo)(v:Vl)(t:Ty):Y×Int:=if jby f=true∧f.k≤4 then(if fitE v t≠0 then(⟨#[]⟩,fitE v t)else(edO f v t,0))else(⟨#[]⟩,130)
theorem edR_ex:∃d:Fo→Vl→Ty→Y×Int,d=edQ:=⟨_,rfl⟩
def edR:Fo→Vl→Ty→Y×Int:=Classical.choose edR_ex
theorem edR_eq:edR=edQ:=Classical.choose_spec edR_ex
def szs(f:Fo)(v:Vl)(t:Ty):Prop:=f.s.size≤9223372036854775807∧t.s.size≤9223372036854775807∧v.s.size≤9223372036854775807
instance (f:Fo)(v:Vl)(t:Ty):Decidable (szs f v t):=by unfold szs;infer_instance
theorem ok_K3:ja0 Tryz.prog K3:=jak (jak (jak jav Ff.ok37) Ff.ok38) ok39u
def s8u(f:Fo)(v:Vl)(t:Ty):Bool×Value:=(decide (szs f v t),.tuple ⟨[S (edR f v t).1,I (edR f v t).2]⟩)
def j9(a:Ff.Fo)(b:Int):Int:=if Ff.jby a=true∧b≤4 then 0 else 130
theorem v8u(f:Fo)(v:Vl)(t:Ty)(R:Value→Prop):jaz Tryz.prog K3 noL Tryz.f25 [Enc.enc f,Enc.enc v,Enc.enc t] (fun _=>none) 0 (fun v _ _=>R v)=(dt (j9 f (Ff.Fo.k f) !=0) (Ff.Fo.s f) (co [bq,I (j9 f (Ff.Fo.k f))] R) (lu (decide (Fh.cE f v t)) t v (Ff.fitE v t) (co [S (Fh.edO f v t),ak 0] R) False (az [bq,I (Ff.fitE v t)]) R)):=by kernel_rfl
theorem ok8u:jan Tryz.prog 25 (sp3 s8u):=by
 refine jkh ok_K3 hmix (.m Tryz.func25) jaj jag fun f v t hc=> ?_
 rw[ja5,v8u];delta ax dt ii kl lu az am bq co ak j9;have hc:(szs f v t):=jab hc
 try dsimp only[s8u]
 obtain⟨h1,h2,h3⟩:=hc;have e:edR f v t=edQ f v t:=by rw[edR_eq]
 rw[e,edQ];refine c_t (jaa h1) ?_;by_cases hr:jby f=true∧f.k≤4
 ·rw[if_pos hr,if_pos hr];refine c_f rfl (c_t (jaa ⟨h2,h3⟩) (cond_intro (fun q=> ?_) (fun q=> ?_)))
  ·have q:fitE v t≠0:=by simpa using q
   rw[if_pos q]
  ·have q:fitE v t=0:=by simpa using q
   rw[if_neg (by simp[q])];exact c_t (jaa ⟨h1,h2,h3,hr.1,hr.2,q⟩) rfl
 ·rw[if_neg hr,if_neg hr];exact c_t rfl rfl
end Go.Fh
end
noncomputable section
set_option maxHeartbeats 3200000
set_option maxRecDepth 100000
namespace Go.Fj
open Go Go.Ab Go.Proofs Go.Shelf Go.Px Go.Cv Go.Cx Go.Ff Go.Fh
open Go.Fx (Ty Vl)
attribute [local instance 5000] tabsB
structure Pc where
 n:Int
 s:Y
 k:Int
 p:Int
 q:Int
 v:Bool
 t:Y
 b:Bool
instance:Enc Pc where
 enc a:= .agg ⟨[.int .i64 a.n,.string a.s,.int .i64 a.k,.int .i64 a.p,.int .i64 a.q,.bool a.v,.string a.t,.bool a.b]⟩
 dec | .agg ⟨[.int .i64 n,.string s,.int .i64 k,.int .i64 p,.int .i64 q,.bool v,.string t,.bool b]⟩=>some ⟨n,s,k,p,q,v,t,b⟩ | _=>none
 dec_some:=by
  intro v a h;split at h
  ·cases h;rfl
  ·cases h
 plain_enc _:=rfl
abbrev pcV(a:Pc):Value:= .agg ⟨[.int .i64 a.n,.string a.s,.int .i64 a.k,.int .i64 a.p,.int .i64 a.q,.bool a.v,.string a.t,.bool a.b]⟩
def zrP(t:Ty):Y:=if t.k=3 then(if t.v=true then⟨#[]⟩else rpt 32 t.p)else if t.k=4 then rpt 48 t.p else if t.k=5 then sz (zeS (bz t.s))else⟨#[]⟩
theorem zrO_ex:∃d:Ty→Y,d=zrP:=⟨_,rfl⟩
def zrO:Ty→Y:=Classical.choose zrO_ex
theorem zrO_eq:zrO=zrP:=Classical.choose_spec zrO_ex
def ckT(t:Ty):Prop:=t.s.size≤9223372036854775807∧chk4 t=0
instance (t:Ty):Decidable (ckT t):=by unfold ckT;infer_instance
def N0:Env:=(Env.nil.add 114 (sp2 Cx.s30)).add 219 (sp1 Px.s54)
def N1:Env:=(Env.nil.add 124 (sp2 Cx.s55))
theorem ok_N0:ja0 Tryz.prog N0:=jak (jak jav (pureB Cx.ok30)) (pureB Px.ok54)
theorem ok_N1:ja0 Tryz.prog N1:=jak jav (pureB Cx.ok55)
def s148(t:Ty):Bool×Value:=(decide (ckT t),.agg ⟨[I 0,S (zrO t)]⟩)
theorem v148(t:Ty)(R:Value→Prop):jaz Tryz.prog N0 noL Tryz.f148 [Enc.enc t] (fun _=>none) 0 (fun v _ _=>R v)=(bif cl t 3 then bif Fx.Ty.v t then R (ay [ak 0,bq])else aq (gq iw (Fx.Ty.p t)) (ay [ak 0,S (g9 iw (Fx.Ty.p t))]) R else bif cl t 4 then aq (gq cv (Fx.Ty.p t)) (ay [ak 0,S (g9 cv (Fx.Ty.p t))]) R else bif cl t 5 then aq (ax (Fx.Ty.s t)) (ay [ak 0,S (sz (zeS (bz (Fx.Ty.s t))))]) R else R (ay [ak 0,bq])):=by kernel_rfl
theorem ok148:jan Tryz.prog 148 (sp1 s148):=by
 refine jck ok_N0 hmix (.m Tryz.func148) jaj jag fun t hc=> ?_
 rw[ja5,v148];delta ay am bq ak aq ax cl g9 cv gq iw;have hc:(ckT t):=jab hc
 try dsimp only[s148]
 obtain⟨hs,hck⟩:=hc;rw[zrO_eq];unfold zrP;refine cond_intro (fun h3=> ?_) (fun h3=>cond_intro (fun h4=> ?_) (fun h4=>cond_intro (fun h5=>c_t (jaa hs) ?_) (fun h5=> ?_)))
 ·have h3:t.k=3:=by simpa using h3
  rw[if_pos h3];refine cond_intro (fun hv=> ?_) (fun hv=>c_t (jaa ⟨(p1000 hck (.inl h3)).1,(p1000 hck (.inl h3)).2,by decide⟩) ?_)
  ·rw[if_pos hv]
  ·rw[if_neg (by simp[hv])];rfl
 ·have h3:¬t.k=3:=by simpa using h3
  have h4:t.k=4:=by simpa using h4
  rw[if_neg h3,if_pos h4];exact c_t (jaa ⟨(p1000 hck (.inr h4)).1,(p1000 hck (.inr h4)).2,by decide⟩) rfl
 ·have h3:¬t.k=3:=by simpa using h3
  have h4:¬t.k=4:=by simpa using h4
  have h5:t.k=5:=by simpa using h5
  rw[if_neg h3,if_neg h4,if_pos h5]
 ·have h3:¬t.k=3:=by simpa using h3
  have h4:¬t.k=4:=by simpa using h4
  have h5:¬t.k=5:=by simpa using h5
  rw[if_neg h3,if_neg h4,if_neg h5]
def chP(s:Y):Pc:=⟨0,s,3,s.size,0,false,⟨#[]⟩,false⟩
def biP(s:Y):Pc:=⟨0,s,4,s.size,0,false,⟨#[]⟩,false⟩
abbrev chV(s:Y):Value:= .agg ⟨[I 0,S s,I 3,I s.size,I 0,B false,S ⟨#[]⟩,B false]⟩
abbrev biV(s:Y):Value:= .agg ⟨[I 0,S s,I 4,I s.size,I 0,B false,S ⟨#[]⟩,B false]⟩
def s149(s:Y):Bool×Value:=(decide (s.size≤255),chV s)
def mz(b:Bool)(a:Y):F:=[.int .i64 (al a),ak 0,.bool false,bq,.bool b]
def ko(c:Bool)(a:Y)(b:Int):F:=ak 0:: .string a::ak b::mz c a
theorem v149(s:Y)(R:Value→Prop):jaz Tryz.prog N1 noL Tryz.f149 [Enc.enc s] (fun _=>none) 0 (fun v _ _=>R v)=(R (ay (ko (i6 s 255) s 3))):=by kernel_rfl
theorem ok149:jan Tryz.prog 149 (sp1 s149):=by
 refine jck ok_N1 hmix (.m Tryz.func149) jaj jag fun s hc=> ?_
 rw[ja5,v149];delta ay am bq ak al mz ko i6;have hc:(s.size≤255):=jab hc
 try dsimp only[s149]
 rw[jad (show¬(s.size:Int)>255 by omega)]
def s150(s:Y):Bool×Value:=(decide (s.size≤64∧jca (bz s)=true),biV s)
theorem v150(s:Y)(R:Value→Prop):jaz Tryz.prog N1 noL Tryz.f150 [Enc.enc s] (fun _=>none) 0 (fun v _ _=>R v)=(bif i6 s 64 then R (ay (ko true s 4))else aq (ax s&&ir [49] 48) (ay (ko (!ig s ⟨#[48,49]⟩) s 4)) R):=by kernel_rfl
theorem ok150:jan Tryz.prog 150 (sp1 s150):=by
 refine jck ok_N1 hmix (.m Tryz.func150) jaj jag fun s hc=> ?_
 rw[ja5,v150];delta aq ay am bq ak al mz ko du ig ic ir ax i6;have hc:(s.size≤64∧jca (bz s)=true):=jab hc
 try dsimp only[s150]
 obtain⟨h1,h2⟩:=hc;refine c_f (jad (by omega)) (c_t (by simp;refine⟨by omega,by decide⟩) ?_)
 have e:szO (jap (bz s) (bz ⟨#[48,49]⟩))=⟨#[]⟩:=by
  have:=jhs (bz s);rw[h2,jae]at this;rw[this,jcl];rfl
 rw[e,beq_self_eq_true];rfl
def toQ(p:Pc)(t:Ty):Int×Y×Int:=
 if p.b=true then(0,zrO t,4)else if(toO ⟨p.n,p.s⟩ ⟨p.k,p.p,p.q,p.v,p.t⟩ t).2.2.2≠0∨(toO ⟨p.n,p.s⟩ ⟨p.k,p.p,p.q,p.v,p.t⟩ t).2.2.1=4 then(0,zrO t,4)
 else((toO ⟨p.n,p.s⟩ ⟨p.k,p.p,p.q,p.v,p.t⟩ t).1,(toO ⟨p.n,p.s⟩ ⟨p.k,p.p,p.q,p.v,p.t⟩ t).2.1,0)
theorem tqO_ex:∃d:Pc→Ty→Int×Y×Int,d=toQ:=⟨_,rfl⟩
def tqO:Pc→Ty→Int×Y×Int:=Classical.choose tqO_ex
theorem tqO_eq:tqO=toQ:=Classical.choose_spec tqO_ex
def cTo(p:Pc)(t:Ty):Prop:=p.s.size≤9223372036854775807∧p.t.size≤9223372036854775807∧ckT t
instance (p:Pc)(t:Ty):Decidable (cTo p t):=by unfold cTo;infer_instance
def N2:Env:=((Env.nil.add 115 (sp3 s34o)).add 148 (sp1 s148))
theorem ok_N2:ja0 Tryz.prog N2:=jak (jak jav ok34o) ok148
def s142(p:Pc)(t:Ty):Bool×Value:=(decide (cTo p t),.tuple ⟨[.agg ⟨[I (tqO p t).1,S (tqO p t).2.1]⟩,I (tqO p t).2.2]⟩)
def mr(a:Fj.Pc)(b:Fx.Ty):Prod Int (Prod Y (Prod Int Int)):=Fh.toO (Fx.Vl.mk (Fj.Pc.n a) (Fj.Pc.s a)) (Fx.Ty.mk (Fj.Pc.k a) (Fj.Pc.p a) (Fj.Pc.q a) (Fj.Pc.v a) (Fj.Pc.t a)) b
theorem v142(p:Pc)(t:Ty)(R:Value→Prop):jaz Tryz.prog N2 noL Tryz.f142 [Enc.enc p,Enc.enc t] (fun _=>none) 0 (fun v _ _=>R v)=(bif Fj.Pc.b p then aq (decide (Fj.ckT t)) (az [ay [ak 0,S (Fj.zrO t)],ak 4]) R else bif decide (toC (Fx.Vl.mk (Fj.Pc.n p) (Fj.Pc.s p)) (Fx.Ty.mk (Fj.Pc.k p) (Fj.Pc.p p) (Fj.Pc.q p) (Fj.Pc.v p) (Fj.Pc.t p)) t)then br ((mr p t).snd.snd.snd !=0) true ((mr p t).snd.snd.snd !=0 || (mr p t).snd.snd.fst==4) (aq (decide (Fj.ckT t)) (az [ay [ak 0,S (Fj.zrO t)],ak 4]) R) (co [ay [I (mr p t).fst,S (mr p t).snd.fst],ak 0] R)else False):=by kernel_rfl
theorem ok142:jan Tryz.prog 142 (sp2 s142):=by
 refine jdg ok_N2 hmix (.m Tryz.func142) jaj jag fun p t hc=> ?_
 rw[ja5,v142];delta br az co ak ay mr aq;have hc:(cTo p t):=jab hc
 try dsimp only[s142]
 rw[tqO_eq];unfold toQ;generalize hT:toO ⟨p.n,p.s⟩ ⟨p.k,p.p,p.q,p.v,p.t⟩ t=T;refine cond_intro (fun hb=> ?_) (fun hb=>c_t (jaa ⟨hc.2.2.1,hc.2.1,hc.1⟩) (c_t (Bool.or_true _) (cond_intro (fun h=>c_t (jaa hc.2.2) ?_) (fun h=> ?_))))
 ·rw[if_pos hb];exact c_t (jaa hc.2.2) rfl
 ·have h:T.2.2.2≠0∨T.2.2.1=4:=by simpa using h
  rw[if_neg (by simp[hb]),if_pos h]
 ·have h:¬(T.2.2.2≠0∨T.2.2.1=4):=by
   intro q;simp only[Bool.or_eq_false_iff,bne_eq_false_iff_eq,beq_eq_false_iff_ne]at h;exact q.elim (fun a=>a h.1) (fun a=>h.2 a)
  rw[if_neg (by simp[hb]),if_neg h]
attribute [local instance 5000] tabsB
def trm(s:Y):Y:=szO (jap (bz s) (bz ⟨#[32]⟩))
def C0:Env:=(Env.nil.add 273 (sp2 Px.s141))
def B0:Env:=((Env.nil.add 124 (sp2 Cx.s55)).add 149 (sp1 s149)).add 150 (sp1 s150)
def B1:Env:=((((Env.nil.add 149 (sp1 s149)).add 170 (sp1 Px.s31)).add 75 (sp2 Px.s24)).add 125 (sp2 Px.s22)).add 172 (sp1 Px.s46)
theorem ok_C0:ja0 Tryz.prog C0:=jak jav (pureB Ff.ok187)
theorem ok_B0:ja0 Tryz.prog B0:=jak (jak (jak jav (pureB Cx.ok55)) ok149) ok150
theorem ok_B1:ja0 Tryz.prog B1:=jak (jak (jak (jak (jak jav ok149) (pureB Px.ok31)) (pureB Px.ok24)) (pureB Px.ok22)) (pureB Px.ok46)
theorem trm_le(s:Y):(trm s).size≤s.size:=by
 rw[trm,jb2,jap,←jam];refine Nat.le_trans (List.dropWhile_sublist _).length_le ?_;rw[List.length_reverse];refine Nat.le_trans (List.dropWhile_sublist _).length_le ?_;rw[List.length_reverse];exact Nat.le_refl _
def s138(f:Fo)(s:Y):Bool×Value:=(decide (s.size≤255),pcV (chP s))
theorem v138(f:Fo)(s:Y)(R:Value→Prop):jaz Tryz.prog B0 noL Tryz.f138 [Enc.enc f,Enc.enc s] (fun _=>none) 0 (fun v _ _=>R v)=(aq (decide (s.size≤255)) (ay (ko false s 3)) R):=by kernel_rfl
theorem ok138:jan Tryz.prog 138 (sp2 s138):=by
 refine jdg ok_B0 hmix (.m Tryz.func138) jaj jag fun f s hc=> ?_
 rw[ja5,v138];delta aq ay am bq ak al mz ko;have hc:(s.size≤255):=jab hc
 try dsimp only[s138]
 exact c_t (jaa hc) rfl
def s139(f:Fo)(s:Y):Bool×Value:=(decide (s.size≤1000000∧(trm s).size≤64∧jca (bz (trm s))=true),pcV (biP (trm s)))
def ja(a:Y):Y:=szO (jap (bz a) (bz iw))
theorem v139(f:Fo)(s:Y)(R:Value→Prop):jaz Tryz.prog B0 noL Tryz.f139 [Enc.enc f,Enc.enc s] (fun _=>none) 0 (fun v _ _=>R v)=(g8 (ax s&&ir [] 32) (decide ((ja s).size≤64∧jca (bz (ja s))=true)) (ay (ko false (ja s) 4)) R):=by kernel_rfl
theorem ok139:jan Tryz.prog 139 (sp2 s139):=by
 refine jdg ok_B0 hmix (.m Tryz.func139) jaj jag fun f s hc=> ?_
 rw[ja5,v139];delta aq g8 ay am bq ak al mz ko iw ja ic ir ax;have hc:(s.size≤1000000∧(trm s).size≤64∧jca (bz (trm s))=true):=jab hc
 try dsimp only[s139]
 exact c_t (by simp;exact⟨by omega,by decide⟩) (c_t (jaa hc.2) rfl)
def rpP(f:Fo)(s:Y):Pc:=if pN (bz f.s)=true then⟨(rdV (bz f.s) (bz s)).1,⟨#[]⟩,tyK (bz f.s),tyP (bz f.s),pQ (bz f.s),false,⟨#[]⟩,(rdV (bz f.s) (bz s)).2 !=0⟩
 else⟨0,s,3,s.size,0,false,⟨#[]⟩,!hoZ (bz f.s) (bz s)⟩
def s141(f:Fo)(s:Y):Bool×Value:=(decide (f.s.size≤9223372036854775807∧s.size≤255),pcV (rpP f s))
theorem v141(f:Fo)(s:Y)(R:Value→Prop):jaz Tryz.prog B1 noL Tryz.f141 [Enc.enc f,Enc.enc s] (fun _=>none) 0 (fun v _ _=>R v)=(dt (!pN (bz (Ff.Fo.s f))) (Ff.Fo.s f) (g8 (decide (s.size≤255)) (j6 s (Ff.Fo.s f) &&true) (ay (ko (!hoZ (bz (Ff.Fo.s f)) (bz s)) s 3)) R) (g8 (j6 s (Ff.Fo.s f)) (ax (Ff.Fo.s f)) (ay [I (j3 (Ff.Fo.s f) s),bq,I (tyK (bz (Ff.Fo.s f))),I (tyP (bz (Ff.Fo.s f))),I (pQ (bz (Ff.Fo.s f))),B false,bq,B ((rdV (bz (Ff.Fo.s f)) (bz s)).snd !=0)]) R)):=by kernel_rfl
theorem ok141:jan Tryz.prog 141 (sp2 s141):=by
 refine jdg ok_B1 hmix (.m Tryz.func141) jaj jag fun f s hc=> ?_
 rw[ja5,v141];delta ax dt aq g8 ay am bq j3 ii j6 ak al mz ko;have hc:(f.s.size≤9223372036854775807∧s.size≤255):=jab hc
 try dsimp only[s141]
 unfold rpP;refine c_t (jaa hc.1) (cond_intro (fun h=> ?_) (fun h=> ?_))
 ·rw[if_neg (by simpa using h)];exact c_t (jaa hc.2) (c_t (by simp;omega) rfl)
 ·rw[if_pos (by simpa using h)];exact c_t (jaa ⟨hc.1,by omega⟩) (c_t (jaa hc.1) rfl)
def s274:Ab.Spec:=fun args bs=>match args,bs with
 | [.string s,.string ⟨⟨[46]⟩⟩],[none,none]=>some (true,I (idxZ (bz s) 46))
 | _,_=>none
theorem v274_0(s:Y)(R:Value→Prop):jaz Tryz.prog C0 noL Tryz.f274 [S s,S ⟨⟨[46]⟩⟩] (jc3 [none,none]) 2 (fun v _ _=>R v)=(bif 1==0 || du ⟨⟨[46]⟩⟩ s then R (ak 0)else R (I (idxZ (bz s) 46))):=by kernel_rfl
theorem k274_0(s:Y)(hc:(true)=true):jba Tryz.prog C0 noL Tryz.f274 [.string s,.string ⟨⟨[46]⟩⟩] [none,none] 2 (I (idxZ (bz s) 46)):=by
 rw[jba,v274_0];delta ak du;refine cond_intro (fun h=> ?_) (fun _=>rfl);have h:[46]=s.toList:=by simpa using h
 have e:bz s=[46]:=by
  rw[Go.Lib.toList_data]at h;rw[bz,←h];rfl
 rw[e];rfl
theorem ok274:jan Tryz.prog 274 s274:=by
 refine jbz ok_C0 hmix (.m Tryz.func274) jaj fun args bs v hs=> ?_
 simp only[s274]at hs;split at hs
 ·simp only[Option.some.injEq,Prod.mk.injEq]at hs;obtain⟨hc,rfl⟩:=hs;exact⟨_,2,rfl,rfl,jag,k274_0 _ (by first | rfl | exact hc)⟩
 ·cases hs
def cu1(s:Y):Y:=if 0≤idxZ (bz s) 46 then s.extract 0 (idxZ (bz s) 46).toNat else s
def cu2(s:Y):Y:=if 0≤idxZ (bz s) 46 then s.extract ((idxZ (bz s) 46).toNat+1) s.size else⟨#[]⟩
theorem cuO_ex:∃d:Y→Y×Y×Bool,d=fun s=>(cu1 s,cu2 s,decide (0≤idxZ (bz s) 46)):=⟨_,rfl⟩
def cuO:Y→Y×Y×Bool:=Classical.choose cuO_ex
theorem cuO_eq(s:Y):cuO s=(cu1 s,cu2 s,decide (0≤idxZ (bz s) 46)):=by rw[cuO,Classical.choose_spec cuO_ex]
def C1:Env:=Env.nil.add 274 s274
theorem ok_C1:ja0 Tryz.prog C1:=jak jav ok274
def s222:Ab.Spec:=fun args bs=>match args,bs with
 | [.string s,.string ⟨⟨[46]⟩⟩],[none,none]=>some (decide (s.size≤9223372036854775807),.tuple ⟨[S (cuO s).1,S (cuO s).2.1,B (cuO s).2.2]⟩)
 | _,_=>none
theorem fn222:Fn1 Tryz.prog 222 Tryz.f222:= .m Tryz.func222
theorem v222_0(s:Y)(R:Value→Prop):jaz Tryz.prog C1 noL Tryz.f222 [S s,S ⟨⟨[46]⟩⟩] (jc3 [none,none]) 2 (fun v _ _=>R v)=(gn (decide (idxZ (bz s) 46≥0)) (ez 0 0 (idxZ (bz s) 46) (idxZ (bz s) 46) (al s)) (aq (ez 0 (il (idxZ (bz s) 46) 1) (al s) (al s) (al s)) (az [S (s.extract 0 (idxZ (bz s) 46).toNat),S (kj s (il (idxZ (bz s) 46) 1)),B true]) R) (co (S s::bq::fy) R)):=by kernel_rfl
theorem k222_0(s:Y)(hc:(decide (s.size≤9223372036854775807))=true):jba Tryz.prog C1 noL Tryz.f222 [.string s,.string ⟨⟨[46]⟩⟩] [none,none] 2 (.tuple ⟨[S (cuO s).1,S (cuO s).2.1,B (cuO s).2.2]⟩):=by
 rw[jba,v222_0];delta c9 gn az co fy am bq aq kj il ez al;have hc:=jab hc;have i1:=(jet 46 (bz s)).1
 have i2:idxZ (bz s) 46<s.size:=by
  by_cases q:(46:Int)∈bz s
  ·have:=(jfa 46 q).2;rwa [jam]at this
  ·have:=jet 46 (bz s);have:¬0≤idxZ (bz s) 46:=fun e=>q (this.2.1 e)
   omega
 rw[cuO_eq,cu1,cu2];apply cond_intro<;>intro h
 ·have h:0≤idxZ (bz s) 46:=jab h;rw[w64 (by omega)];rw[if_pos h,if_pos h,jaa h];refine c_t (jaa (by omega)) (c_t (jaa (by omega)) ?_);rw[show(idxZ (bz s) 46+1).toNat=(idxZ (bz s) 46).toNat+1 by omega]
 ·have h:¬0≤idxZ (bz s) 46:=jac h;rw[if_neg h,if_neg h,jad h]
theorem ok222:jan Tryz.prog 222 s222:=by
 refine jbz ok_C1 hmix fn222 jaj fun args bs v hs=> ?_
 simp only[s222]at hs;split at hs
 ·simp only[Option.some.injEq,Prod.mk.injEq]at hs;obtain⟨hc,rfl⟩:=hs;exact⟨_,2,rfl,rfl,jag,k222_0 _ (by first | rfl | exact hc)⟩
 ·cases hs
def C2:Env:=Env.nil.add 222 s222
theorem ok_C2:ja0 Tryz.prog C2:=jak jav ok222
def s155:Ab.Spec:=fun args bs=>match args,bs with
 | [.string s,.string ⟨⟨[46]⟩⟩],[none,none]=>some (decide (s.size≤9223372036854775807),.tuple ⟨[S (cuO s).1,S (cuO s).2.1,B (cuO s).2.2]⟩)
 | _,_=>none
theorem v155_0(s:Y)(R:Value→Prop):jaz Tryz.prog C2 noL Tryz.f155 [S s,S ⟨⟨[46]⟩⟩] (jc3 [none,none]) 2 (fun v _ _=>R v)=(aq (ax s) (az [S (Fj.cuO s).fst,S (Fj.cuO s).snd.fst,B (Fj.cuO s).snd.snd]) R):=by kernel_rfl
theorem k155_0(s:Y)(hc:(decide (s.size≤9223372036854775807))=true):jba Tryz.prog C2 noL Tryz.f155 [.string s,.string ⟨⟨[46]⟩⟩] [none,none] 2 (.tuple ⟨[S (cuO s).1,S (cuO s).2.1,B (cuO s).2.2]⟩):=by
 rw[jba,v155_0];delta aq az ax;exact c_t hc rfl
theorem ok155:jan Tryz.prog 155 s155:=by
 refine jbz ok_C2 hmix (.m Tryz.func155) jaj fun args bs v hs=> ?_
 simp only[s155]at hs;split at hs
 ·simp only[Option.some.injEq,Prod.mk.injEq]at hs;obtain⟨hc,rfl⟩:=hs;exact⟨_,2,rfl,rfl,jag,k155_0 _ (by first | rfl | exact hc)⟩
 ·cases hs
def C4:Env:=(((Env.nil.add 155 s155).add 124 (sp2 Cx.s55)).add 183 (sp1 Px.s68))
theorem ok_C4:ja0 Tryz.prog C4:=jak (jak (jak jav ok155) (pureB Cx.ok55)) (pureB Px.ok68)
def usg(u:Y):Y:=bif jai u 0==45 || jai u 0==43 then u.extract 1 u.size else u
def dgs(w:Y):Y:=(cuO w).1++(cuO w).2.1
def rfC(s:Y):Prop:=s.size≤1000000∧(trm s).size≠0∧(dgs (usg (trm s))).size≥1∧(dgs (usg (trm s))).size≤9∧ja7 (bz (dgs (usg (trm s))))=true
instance (s:ByteArray):Decidable (rfC s):=by unfold rfC;infer_instance
def rfP(f:Fo)(s:Y):Pc:=⟨bif jai (trm s) 0==45 then-dval (bz (dgs (usg (trm s))))else dval (bz (dgs (usg (trm s)))),⟨#[]⟩,1,9,bif (cuO (usg (trm s))).2.2 then(cuO (usg (trm s))).2.1.size else f.d,false,⟨#[]⟩,false⟩
theorem dg_same(l:J):dgL l=ja7 l:=rfl
theorem x140{w:Y}{m:Bool}{q:Int}{V:Value}{bad:Prop}(g1:(dgs w).size≥1)(g2:(dgs w).size≤9)(g3:ja7 (bz (dgs w))=true)(hV:V=pcV ⟨bif m then-dval (bz (dgs w))else dval (bz (dgs w)),⟨#[]⟩,1,9,q,false,⟨#[]⟩,false⟩):
  bif jbn (ByteArray.size (Prod.fst (cuO w))+ByteArray.size (Prod.fst (Prod.snd (cuO w))))then
   bif decide ((↑(ByteArray.size (Prod.fst (cuO w)++Prod.fst (Prod.snd (cuO w)))):Int)<1) || (decide ((↑(ByteArray.size (Prod.fst (cuO w)++Prod.fst (Prod.snd (cuO w)))):Int)>9) || decide (ByteArray.size (Prod.fst (cuO w)++Prod.fst (Prod.snd (cuO w)))≤9223372036854775807) && (decide (ByteArray.size (ByteArray.mk #[48,49,50,51,52,53,54,55,56,57])≤1000) &&asc (bz (ByteArray.mk #[48,49,50,51,52,53,54,55,56,57]))) &&true)then
    bif decide ((↑(ByteArray.size (Prod.fst (cuO w)++Prod.fst (Prod.snd (cuO w)))):Int)<1) || (decide ((↑(ByteArray.size (Prod.fst (cuO w)++Prod.fst (Prod.snd (cuO w)))):Int)>9) || !ByteArray.toList (szO (jap (bz (Prod.fst (cuO w)++Prod.fst (Prod.snd (cuO w)))) (bz (ByteArray.mk #[48,49,50,51,52,53,54,55,56,57]))))==ByteArray.toList (ByteArray.mk #[]))then bad
    else bif decide (1≤ByteArray.size (Prod.fst (cuO w)++Prod.fst (Prod.snd (cuO w)))∧ByteArray.size (Prod.fst (cuO w)++Prod.fst (Prod.snd (cuO w)))≤18) &&dgL (bz (Prod.fst (cuO w)++Prod.fst (Prod.snd (cuO w))))then
     bif m then Value.agg (Array.mk [Value.int IntKind.i64 (IntKind.wrap IntKind.i64 (0-dval (bz (Prod.fst (cuO w)++Prod.fst (Prod.snd (cuO w)))))),Value.string (ByteArray.mk #[]),Value.int IntKind.i64 1,Value.int IntKind.i64 9,Value.int IntKind.i64 q,Value.bool false,Value.string (ByteArray.mk #[]),Value.bool false])=V
     else Value.agg (Array.mk [Value.int IntKind.i64 (dval (bz (Prod.fst (cuO w)++Prod.fst (Prod.snd (cuO w))))),Value.string (ByteArray.mk #[]),Value.int IntKind.i64 1,Value.int IntKind.i64 9,Value.int IntKind.i64 q,Value.bool false,Value.string (ByteArray.mk #[]),Value.bool false])=V
    else False
   else False
  else False:=by
 have e:(cuO w).1++(cuO w).2.1=dgs w:=rfl;have es:(dgs w).size=(cuO w).1.size+(cuO w).2.1.size:=by rw[←e,ByteArray.size_append]
 rw[e];have hr:=jc8 _ g3
 have h9:tenZ (bz (dgs w)).length≤1000000000:=by
  rw[jam];have:∀k:Nat,k≤9→tenZ k≤1000000000:=by decide
  exact this _ g2
 have et:szO (jap (bz (dgs w)) (bz ⟨#[48,49,50,51,52,53,54,55,56,57]⟩))=⟨#[]⟩:=by
  have:=trim_digs (bz (dgs w));rw[g3,jae]at this;rw[this,jcl];rfl
 rw[et,beq_self_eq_true,w64 (n:=0-dval (bz (dgs w))) (by omega),hV];refine c_t (by rw[jbn,Nat.ble_eq];omega) (c_t ?_ (c_f ?_ (c_t ?_ ?_)))
 ·simp only[Bool.or_eq_true,jaf,jae,and_true];exact .inr (.inr ⟨by omega,by decide,by decide⟩)
 ·rw[jad (by omega),jad (by omega)];rfl
 ·rw[jaa (by omega),dg_same,g3];rfl
 ·cases m
  ·rfl
  ·simp only[cond_true,Int.zero_sub]
def s140(f:Fo)(s:Y):Bool×Value:=(decide (rfC s),pcV (rfP f s))
def ke(a:Y):Y:=(Fj.cuO a).fst++(Fj.cuO a).snd.fst
def pq(a c:Y)(d:Int)(b:Value→Prop):Prop:=bif fu (Fj.cuO a).fst (Fj.cuO a).snd.fst then br (decide (dx (ke a)<1)) (decide (dx (ke a)>9) || decide ((ke a).size≤9223372036854775807) &&ir l8 48&&true) (decide (dx (ke a)<1) || (decide (dx (ke a)>9) || !ig (ke a) ⟨((48:UInt8)::l8).toArray⟩)) (b (ay [ak 0,je,ak 0,ak 0,ak 0,.bool false,je,.bool true])) (fw (ii (ke a) 1 (ke a).size 18) (dgL (bz (ke a))) (jai (ja c) (Int.toNat 0)==45) (b (ay (bp (0-dval (bz (ke a)))::je::ak 1::ak 9::ak d:: .bool false::je::fy))) (b (ay (.int .i64 (dval (bz (ke a)))::je::ak 1::ak 9::ak d:: .bool false::bq::fy))))else False
def pm(a b:Y)(e:Ff.Fo)(c:Value→Prop):Prop:=bif ax a then bif (Fj.cuO a).snd.snd then pq a b (dx (Fj.cuO a).snd.fst) c else pq a b (Ff.Fo.d e) c else False
theorem v140(f:Fo)(s:Y)(R:Value→Prop):jaz Tryz.prog C4 noL Tryz.f140 [Enc.enc f,Enc.enc s] (fun _=>none) 0 (fun v _ _=>R v)=(fw (ax s) (ir [] 32) (du (ja s) am) (R (ay (ak 0::bq::ak 1::ak 9::I (Ff.Fo.d f)::B false::bq::fy))) (bif gv 0 (dx (ja s))then br (jai (ja s) (Int.toNat 0)==45) (gv 0 (dx (ja s)) &&true) (jai (ja s) (Int.toNat 0)==45 || jai (ja s) (Int.toNat 0)==43) (bif ez 0 1 (dx (ja s)) (dx (ja s)) (dx (ja s))then pm ((ja s).extract (Int.toNat 1) (ja s).size) s f R else False) (pm (ja s) s f R)else False)):=by kernel_rfl
theorem ok140:jan Tryz.prog 140 (sp2 s140):=by
 refine jdg ok_C4 hmix (.m Tryz.func140) jaj jag fun f s hc=> ?_
 rw[ja5,v140];delta fw br ay fy am bq ak je ke bp iw ja ii du ig l8 dx ic ir fu pq ax pm ez gv;have hc:(rfC s):=jab hc
 try dsimp only[s140]
 obtain⟨h1,h2,h3,h4,h5⟩:=hc;have hut:=trm_le s;unfold rfP;rw[show szO (jap (bz s) (bz ⟨#[32]⟩))=trm s from rfl];generalize trm s=u at*;rw[show Int.toNat 0=0 from rfl,show Int.toNat 1=1 from rfl]
 have hne:(u.toList==(⟨#[]⟩:Y).toList)=false:=by
  rw[beq_eq_false_iff_ne];intro e;have:=congrArg List.length e;rw[Go.Lib.toList_data,Go.Lib.toList_data]at this;exact h2 (by simpa using this)
 have hp:decide ((0:Int)≤0∧0<(u.size:Int))=true:=jaa (by omega);rw[hne,hp];refine c_t (by simp;exact⟨by omega,by decide⟩) (c_f rfl (c_t rfl (c_t (by simp) (cond_intro (fun hs=>c_t (jaa (by omega)) ?_) (fun hs=> ?_)))))
 ·have hu:usg u=u.extract 1 u.size:=by rw[usg,hs];rfl
  rw[←hu];refine c_t (jaa ?_) (cond_intro (fun hb=>x140 h3 h4 h5 ?_) (fun hb=>x140 h3 h4 h5 ?_))
  ·rw[hu,ByteArray.size_extract];omega
  ·rw[hb];rfl
  ·rw[hb];rfl
 ·have hu:usg u=u:=by rw[usg,hs];rfl
  rw[hu]at h3 h4 h5;rw[hu];refine c_t (jaa (by omega)) (cond_intro (fun hb=>x140 h3 h4 h5 ?_) (fun hb=>x140 h3 h4 h5 ?_))
  ·rw[hb];rfl
  ·rw[hb];rfl
attribute [local instance 5000] tabsB
def pcP(f:Fo)(s:Y):Pc:=if f.k=1 then chP s else if f.k=2 then biP (trm s)else if f.k=3 then rfP f s else rpP f s
def rdC(f:Fo)(s:Y)(t:Ty):Prop:=f.s.size≤9223372036854775807∧s.size≤255∧ckT t∧(f.k=1∨f.k=2∧(trm s).size≤64∧jca (bz (trm s))=true∨f.k=3∧rfC s∨f.k=4)
instance (f:Fo)(s:ByteArray)(t:Ty):Decidable (rdC f s t):=by unfold rdC;infer_instance
theorem rdO_ex:∃d:Fo→Y→Ty→Int×Y×Int,d=fun f s t=>tqO (pcP f s) t:=⟨_,rfl⟩
def rdO:Fo→Y→Ty→Int×Y×Int:=Classical.choose rdO_ex
theorem jgx(f:Fo)(s:Y)(t:Ty):rdO f s t=tqO (pcP f s) t:=by rw[rdO,Classical.choose_spec rdO_ex]
def M0:Env:=((((Env.nil.add 138 (sp2 s138)).add 139 (sp2 s139)).add 140 (sp2 s140)).add 141 (sp2 s141)).add 142 (sp2 s142)
theorem ok_M0:ja0 Tryz.prog M0:=jak (jak (jak (jak (jak jav ok138) ok139) ok140) ok141) ok142
def s92:Ab.Spec:=fun args bs=>match args,bs with
 | [.agg ⟨[.int .i64 1,.int .i64 w,.int .i64 d,.string p]⟩,.string s,.agg ⟨[.int .i64 tk,.int .i64 tp,.int .i64 tq,.bool tv,.string ts]⟩],[none,none,none]=>some (decide (rdC ⟨1,w,d,p⟩ s ⟨tk,tp,tq,tv,ts⟩),.tuple ⟨[.agg ⟨[I (rdO ⟨1,w,d,p⟩ s ⟨tk,tp,tq,tv,ts⟩).1,S (rdO ⟨1,w,d,p⟩ s ⟨tk,tp,tq,tv,ts⟩).2.1]⟩,I (rdO ⟨1,w,d,p⟩ s ⟨tk,tp,tq,tv,ts⟩).2.2]⟩)
 | [.agg ⟨[.int .i64 2,.int .i64 w,.int .i64 d,.string p]⟩,.string s,.agg ⟨[.int .i64 tk,.int .i64 tp,.int .i64 tq,.bool tv,.string ts]⟩],[none,none,none]=>some (decide (rdC ⟨2,w,d,p⟩ s ⟨tk,tp,tq,tv,ts⟩),.tuple ⟨[.agg ⟨[I (rdO ⟨2,w,d,p⟩ s ⟨tk,tp,tq,tv,ts⟩).1,S (rdO ⟨2,w,d,p⟩ s ⟨tk,tp,tq,tv,ts⟩).2.1]⟩,I (rdO ⟨2,w,d,p⟩ s ⟨tk,tp,tq,tv,ts⟩).2.2]⟩)
 | [.agg ⟨[.int .i64 3,.int .i64 w,.int .i64 d,.string p]⟩,.string s,.agg ⟨[.int .i64 tk,.int .i64 tp,.int .i64 tq,.bool tv,.string ts]⟩],[none,none,none]=>some (decide (rdC ⟨3,w,d,p⟩ s ⟨tk,tp,tq,tv,ts⟩),.tuple ⟨[.agg ⟨[I (rdO ⟨3,w,d,p⟩ s ⟨tk,tp,tq,tv,ts⟩).1,S (rdO ⟨3,w,d,p⟩ s ⟨tk,tp,tq,tv,ts⟩).2.1]⟩,I (rdO ⟨3,w,d,p⟩ s ⟨tk,tp,tq,tv,ts⟩).2.2]⟩)
 | [.agg ⟨[.int .i64 4,.int .i64 w,.int .i64 d,.string p]⟩,.string s,.agg ⟨[.int .i64 tk,.int .i64 tp,.int .i64 tq,.bool tv,.string ts]⟩],[none,none,none]=>some (decide (rdC ⟨4,w,d,p⟩ s ⟨tk,tp,tq,tv,ts⟩),.tuple ⟨[.agg ⟨[I (rdO ⟨4,w,d,p⟩ s ⟨tk,tp,tq,tv,ts⟩).1,S (rdO ⟨4,w,d,p⟩ s ⟨tk,tp,tq,tv,ts⟩).2.1]⟩,I (rdO ⟨4,w,d,p⟩ s ⟨tk,tp,tq,tv,ts⟩).2.2]⟩)
 | _,_=>none
theorem fn92:Fn1 Tryz.prog 92 Tryz.f92:= .m Tryz.func92
def lw(a f:Bool)(g:Y)(b:Fj.Pc)(c d e:Int)(h:Value→Prop):Prop:=mb a (decide (Fj.cTo b (Fx.Ty.mk c d e f g))) (h (az [ay [.int .i64 (Fj.tqO b (Fx.Ty.mk c d e f g)).fst,.string (Fj.tqO b (Fx.Ty.mk c d e f g)).snd.fst],.int .i64 (Fj.tqO b (Fx.Ty.mk c d e f g)).snd.snd]))
theorem v92_0(w:Int)(d:Int)(p:Y)(s:Y)(tk:Int)(tp:Int)(tq:Int)(tv:Bool)(ts:Y)(R:Value→Prop):jaz Tryz.prog M0 noL Tryz.f92 [.agg ⟨[I 1,I w,I d,S p]⟩,S s,.agg ⟨[I tk,I tp,I tq,B tv,S ts]⟩] (jc3 [none,none,none]) 3 (fun v _ _=>R v)=(lw (decide (s.size≤255)) tv ts (Fj.chP s) tk tp tq R):=by kernel_rfl
theorem v92_1(w:Int)(d:Int)(p:Y)(s:Y)(tk:Int)(tp:Int)(tq:Int)(tv:Bool)(ts:Y)(R:Value→Prop):jaz Tryz.prog M0 noL Tryz.f92 [.agg ⟨[I 2,I w,I d,S p]⟩,S s,.agg ⟨[I tk,I tp,I tq,B tv,S ts]⟩] (jc3 [none,none,none]) 3 (fun v _ _=>R v)=(lw (decide (s.size≤1000000∧(Fj.trm s).size≤64∧jca (bz (Fj.trm s))=true)) tv ts (Fj.biP (Fj.trm s)) tk tp tq R):=by kernel_rfl
theorem v92_2(w:Int)(d:Int)(p:Y)(s:Y)(tk:Int)(tp:Int)(tq:Int)(tv:Bool)(ts:Y)(R:Value→Prop):jaz Tryz.prog M0 noL Tryz.f92 [.agg ⟨[I 3,I w,I d,S p]⟩,S s,.agg ⟨[I tk,I tp,I tq,B tv,S ts]⟩] (jc3 [none,none,none]) 3 (fun v _ _=>R v)=(lw (decide (Fj.rfC s)) tv ts (Fj.rfP (Ff.Fo.mk 3 w d p) s) tk tp tq R):=by kernel_rfl
theorem v92_3(w:Int)(d:Int)(p:Y)(s:Y)(tk:Int)(tp:Int)(tq:Int)(tv:Bool)(ts:Y)(R:Value→Prop):jaz Tryz.prog M0 noL Tryz.f92 [.agg ⟨[I 4,I w,I d,S p]⟩,S s,.agg ⟨[I tk,I tp,I tq,B tv,S ts]⟩] (jc3 [none,none,none]) 3 (fun v _ _=>R v)=(lw (ii s p.size 9223372036854775807 255) tv ts (Fj.rpP (Ff.Fo.mk 4 w d p) s) tk tp tq R):=by kernel_rfl
theorem k92_0(w:Int)(d:Int)(p:Y)(s:Y)(tk:Int)(tp:Int)(tq:Int)(tv:Bool)(ts:Y)(hc:(decide (rdC ⟨1,w,d,p⟩ s ⟨tk,tp,tq,tv,ts⟩))=true):jba Tryz.prog M0 noL Tryz.f92 [.agg ⟨[.int .i64 1,.int .i64 w,.int .i64 d,.string p]⟩,.string s,.agg ⟨[.int .i64 tk,.int .i64 tp,.int .i64 tq,.bool tv,.string ts]⟩] [none,none,none] 3 (.tuple ⟨[.agg ⟨[I (rdO ⟨1,w,d,p⟩ s ⟨tk,tp,tq,tv,ts⟩).1,S (rdO ⟨1,w,d,p⟩ s ⟨tk,tp,tq,tv,ts⟩).2.1]⟩,I (rdO ⟨1,w,d,p⟩ s ⟨tk,tp,tq,tv,ts⟩).2.2]⟩):=by
 rw[jba,v92_0];delta c9 mb az ay lw;obtain⟨h1,h2,h3,h4⟩:=jab hc;have hT:cTo (chP s) ⟨tk,tp,tq,tv,ts⟩:=⟨by show s.size≤_;omega,Nat.zero_le _,h3⟩
 have e:tqO (chP s) ⟨tk,tp,tq,tv,ts⟩=rdO ⟨1,w,d,p⟩ s ⟨tk,tp,tq,tv,ts⟩:=by rw[jgx];rfl
 rw[jaa h2,jaa hT,e];exact⟨rfl,rfl⟩
theorem k92_1(w:Int)(d:Int)(p:Y)(s:Y)(tk:Int)(tp:Int)(tq:Int)(tv:Bool)(ts:Y)(hc:(decide (rdC ⟨2,w,d,p⟩ s ⟨tk,tp,tq,tv,ts⟩))=true):jba Tryz.prog M0 noL Tryz.f92 [.agg ⟨[.int .i64 2,.int .i64 w,.int .i64 d,.string p]⟩,.string s,.agg ⟨[.int .i64 tk,.int .i64 tp,.int .i64 tq,.bool tv,.string ts]⟩] [none,none,none] 3 (.tuple ⟨[.agg ⟨[I (rdO ⟨2,w,d,p⟩ s ⟨tk,tp,tq,tv,ts⟩).1,S (rdO ⟨2,w,d,p⟩ s ⟨tk,tp,tq,tv,ts⟩).2.1]⟩,I (rdO ⟨2,w,d,p⟩ s ⟨tk,tp,tq,tv,ts⟩).2.2]⟩):=by
 rw[jba,v92_1];delta c9 mb az ay lw;obtain⟨h1,h2,h3,h4⟩:=jab hc
 have hx:(trm s).size≤64∧jca (bz (trm s))=true:=by
  rcases h4 with h | h | h | h
  ·cases h
  ·exact h.2
  ·exact absurd h.1 (by simp)
  ·cases h
 have hT:cTo (biP (trm s)) ⟨tk,tp,tq,tv,ts⟩:=⟨by show(trm s).size≤_;have:=trm_le s;omega,Nat.zero_le _,h3⟩
 have e:tqO (biP (trm s)) ⟨tk,tp,tq,tv,ts⟩=rdO ⟨2,w,d,p⟩ s ⟨tk,tp,tq,tv,ts⟩:=by rw[jgx];rfl
 rw[jaa (show s.size≤1000000∧(trm s).size≤64∧jca (bz (trm s))=true from⟨by omega,hx⟩),jaa hT,e];exact⟨rfl,rfl⟩
theorem k92_2(w:Int)(d:Int)(p:Y)(s:Y)(tk:Int)(tp:Int)(tq:Int)(tv:Bool)(ts:Y)(hc:(decide (rdC ⟨3,w,d,p⟩ s ⟨tk,tp,tq,tv,ts⟩))=true):jba Tryz.prog M0 noL Tryz.f92 [.agg ⟨[.int .i64 3,.int .i64 w,.int .i64 d,.string p]⟩,.string s,.agg ⟨[.int .i64 tk,.int .i64 tp,.int .i64 tq,.bool tv,.string ts]⟩] [none,none,none] 3 (.tuple ⟨[.agg ⟨[I (rdO ⟨3,w,d,p⟩ s ⟨tk,tp,tq,tv,ts⟩).1,S (rdO ⟨3,w,d,p⟩ s ⟨tk,tp,tq,tv,ts⟩).2.1]⟩,I (rdO ⟨3,w,d,p⟩ s ⟨tk,tp,tq,tv,ts⟩).2.2]⟩):=by
 rw[jba,v92_2];delta c9 mb az ay lw;obtain⟨h1,h2,h3,h4⟩:=jab hc
 have hx:rfC s:=by
  rcases h4 with h | h | h | h
  ·cases h
  ·exact absurd h.1 (by simp)
  ·exact h.2
  ·cases h
 have hT:cTo (rfP ⟨3,w,d,p⟩ s) ⟨tk,tp,tq,tv,ts⟩:=⟨by show(0:Nat)≤_;omega,Nat.zero_le _,h3⟩
 have e:tqO (rfP ⟨3,w,d,p⟩ s) ⟨tk,tp,tq,tv,ts⟩=rdO ⟨3,w,d,p⟩ s ⟨tk,tp,tq,tv,ts⟩:=by rw[jgx];rfl
 rw[jaa hx,jaa hT,e];exact⟨rfl,rfl⟩
theorem k92_3(w:Int)(d:Int)(p:Y)(s:Y)(tk:Int)(tp:Int)(tq:Int)(tv:Bool)(ts:Y)(hc:(decide (rdC ⟨4,w,d,p⟩ s ⟨tk,tp,tq,tv,ts⟩))=true):jba Tryz.prog M0 noL Tryz.f92 [.agg ⟨[.int .i64 4,.int .i64 w,.int .i64 d,.string p]⟩,.string s,.agg ⟨[.int .i64 tk,.int .i64 tp,.int .i64 tq,.bool tv,.string ts]⟩] [none,none,none] 3 (.tuple ⟨[.agg ⟨[I (rdO ⟨4,w,d,p⟩ s ⟨tk,tp,tq,tv,ts⟩).1,S (rdO ⟨4,w,d,p⟩ s ⟨tk,tp,tq,tv,ts⟩).2.1]⟩,I (rdO ⟨4,w,d,p⟩ s ⟨tk,tp,tq,tv,ts⟩).2.2]⟩):=by
 rw[jba,v92_3];delta c9 mb az ay lw ii;obtain⟨h1,h2,h3,h4⟩:=jab hc
 have hT:cTo (rpP ⟨4,w,d,p⟩ s) ⟨tk,tp,tq,tv,ts⟩:=by
  unfold rpP;split
  ·exact⟨Nat.zero_le _,Nat.zero_le _,h3⟩
  ·exact⟨by show s.size≤_;omega,Nat.zero_le _,h3⟩
 have e:tqO (rpP ⟨4,w,d,p⟩ s) ⟨tk,tp,tq,tv,ts⟩=rdO ⟨4,w,d,p⟩ s ⟨tk,tp,tq,tv,ts⟩:=by rw[jgx];rfl
 rw[jaa (show p.size≤9223372036854775807∧s.size≤255 from⟨h1,h2⟩),jaa hT,e];exact⟨rfl,rfl⟩
theorem ok92:jan Tryz.prog 92 s92:=by
 refine jbz ok_M0 hmix fn92 jaj fun args bs v hs=> ?_
 simp only[s92]at hs;split at hs
 ·simp only[Option.some.injEq,Prod.mk.injEq]at hs;obtain⟨hc,rfl⟩:=hs;exact⟨_,3,rfl,rfl,jag,k92_0 _ _ _ _ _ _ _ _ _ (by first | rfl | exact hc)⟩
 ·simp only[Option.some.injEq,Prod.mk.injEq]at hs;obtain⟨hc,rfl⟩:=hs;exact⟨_,3,rfl,rfl,jag,k92_1 _ _ _ _ _ _ _ _ _ (by first | rfl | exact hc)⟩
 ·simp only[Option.some.injEq,Prod.mk.injEq]at hs;obtain⟨hc,rfl⟩:=hs;exact⟨_,3,rfl,rfl,jag,k92_2 _ _ _ _ _ _ _ _ _ (by first | rfl | exact hc)⟩
 ·simp only[Option.some.injEq,Prod.mk.injEq]at hs;obtain⟨hc,rfl⟩:=hs;exact⟨_,3,rfl,rfl,jag,k92_3 _ _ _ _ _ _ _ _ _ (by first | rfl | exact hc)⟩
 ·cases hs
def rdD(f:Fo)(s:Y)(t:Ty):Prop:=rdC f s t∧jby f=true∧typE t=0∧(s.size:Int)=wdO f∧(f.k=1→f.w≠0)
instance (f:Fo)(s:ByteArray)(t:Ty):Decidable (rdD f s t):=by unfold rdD;infer_instance
def M1:Env:=(((Env.nil.add 78 (sp1 Ff.s37)).add 91 (sp1 Ff.s55)).add 90 (sp1 Fh.s62u)).add 92 s92
theorem ok_M1:ja0 Tryz.prog M1:=jak (jak (jak (jak jav Ff.ok37) Ff.ok55) Fh.ok62u) ok92
def s33:Ab.Spec:=fun args bs=>match args,bs with
 | [.agg ⟨[.int .i64 1,.int .i64 w,.int .i64 d,.string p]⟩,.string s,.agg ⟨[.int .i64 tk,.int .i64 tp,.int .i64 tq,.bool tv,.string ts]⟩],[none,none,none]=>some (decide (rdD ⟨1,w,d,p⟩ s ⟨tk,tp,tq,tv,ts⟩),.tuple ⟨[.agg ⟨[I (rdO ⟨1,w,d,p⟩ s ⟨tk,tp,tq,tv,ts⟩).1,S (rdO ⟨1,w,d,p⟩ s ⟨tk,tp,tq,tv,ts⟩).2.1]⟩,I (rdO ⟨1,w,d,p⟩ s ⟨tk,tp,tq,tv,ts⟩).2.2,I 0]⟩)
 | [.agg ⟨[.int .i64 2,.int .i64 w,.int .i64 d,.string p]⟩,.string s,.agg ⟨[.int .i64 tk,.int .i64 tp,.int .i64 tq,.bool tv,.string ts]⟩],[none,none,none]=>some (decide (rdD ⟨2,w,d,p⟩ s ⟨tk,tp,tq,tv,ts⟩),.tuple ⟨[.agg ⟨[I (rdO ⟨2,w,d,p⟩ s ⟨tk,tp,tq,tv,ts⟩).1,S (rdO ⟨2,w,d,p⟩ s ⟨tk,tp,tq,tv,ts⟩).2.1]⟩,I (rdO ⟨2,w,d,p⟩ s ⟨tk,tp,tq,tv,ts⟩).2.2,I 0]⟩)
 | [.agg ⟨[.int .i64 3,.int .i64 w,.int .i64 d,.string p]⟩,.string s,.agg ⟨[.int .i64 tk,.int .i64 tp,.int .i64 tq,.bool tv,.string ts]⟩],[none,none,none]=>some (decide (rdD ⟨3,w,d,p⟩ s ⟨tk,tp,tq,tv,ts⟩),.tuple ⟨[.agg ⟨[I (rdO ⟨3,w,d,p⟩ s ⟨tk,tp,tq,tv,ts⟩).1,S (rdO ⟨3,w,d,p⟩ s ⟨tk,tp,tq,tv,ts⟩).2.1]⟩,I (rdO ⟨3,w,d,p⟩ s ⟨tk,tp,tq,tv,ts⟩).2.2,I 0]⟩)
 | [.agg ⟨[.int .i64 4,.int .i64 w,.int .i64 d,.string p]⟩,.string s,.agg ⟨[.int .i64 tk,.int .i64 tp,.int .i64 tq,.bool tv,.string ts]⟩],[none,none,none]=>some (decide (rdD ⟨4,w,d,p⟩ s ⟨tk,tp,tq,tv,ts⟩),.tuple ⟨[.agg ⟨[I (rdO ⟨4,w,d,p⟩ s ⟨tk,tp,tq,tv,ts⟩).1,S (rdO ⟨4,w,d,p⟩ s ⟨tk,tp,tq,tv,ts⟩).2.1]⟩,I (rdO ⟨4,w,d,p⟩ s ⟨tk,tp,tq,tv,ts⟩).2.2,I 0]⟩)
 | _,_=>none
def lx(j k:Bool)(a f m:Y)(b c d g h i:Int)(l:Nat)(e:Value→Prop):Prop:=bif decide (a.size≤9223372036854775807)then bif j9 (Ff.Fo.mk b c d a) b !=0 then e (az (la je (.int .i64 (j9 (Ff.Fo.mk b c d a) b))))else bif decide (f.size≤9223372036854775807)then bif Ff.typE (Fx.Ty.mk g h i j f) !=0 then e (az (la je (.int .i64 (Ff.typE (Fx.Ty.mk g h i j f)))))else bif k then bif cm (l==1&&c==0) (i6 m 4000 || !(b==1&&c==0) &&al m !=Fh.wdO (Ff.Fo.mk b c d a)) (!(b==1&&c==0) &&al m !=Fh.wdO (Ff.Fo.mk b c d a))then e (az (la je (ak 1)))else aq (decide (Fj.rdC (Ff.Fo.mk b c d a) m (Fx.Ty.mk g h i j f))) (az [ay [.int .i64 (Fj.rdO (Ff.Fo.mk b c d a) m (Fx.Ty.mk g h i j f)).fst,.string (Fj.rdO (Ff.Fo.mk b c d a) m (Fx.Ty.mk g h i j f)).snd.fst],.int .i64 (Fj.rdO (Ff.Fo.mk b c d a) m (Fx.Ty.mk g h i j f)).snd.snd,ak 0]) e else False else False else False
theorem v33_0(w:Int)(d:Int)(p:Y)(s:Y)(tk:Int)(tp:Int)(tq:Int)(tv:Bool)(ts:Y)(R:Value→Prop):jaz Tryz.prog M1 noL Tryz.f33 [.agg ⟨[I 1,I w,I d,S p]⟩,S s,.agg ⟨[I tk,I tp,I tq,B tv,S ts]⟩] (jc3 [none,none,none]) 3 (fun v _ _=>R v)=(lx tv (cm (1==1&&w==0) (i6 s 4000 || (bif !((1:Int)==1&&w==0)then ax p&&true else true)) (bif !((1:Int)==1&&w==0)then ax p&&true else true)) p ts s 1 w d tk tp tq 1 R):=by kernel_rfl
theorem v33_1(w:Int)(d:Int)(p:Y)(s:Y)(tk:Int)(tp:Int)(tq:Int)(tv:Bool)(ts:Y)(R:Value→Prop):jaz Tryz.prog M1 noL Tryz.f33 [.agg ⟨[I 2,I w,I d,S p]⟩,S s,.agg ⟨[I tk,I tp,I tq,B tv,S ts]⟩] (jc3 [none,none,none]) 3 (fun v _ _=>R v)=(lx tv (ax p&&true) p ts s 2 w d tk tp tq 2 R):=by kernel_rfl
theorem v33_2(w:Int)(d:Int)(p:Y)(s:Y)(tk:Int)(tp:Int)(tq:Int)(tv:Bool)(ts:Y)(R:Value→Prop):jaz Tryz.prog M1 noL Tryz.f33 [.agg ⟨[I 3,I w,I d,S p]⟩,S s,.agg ⟨[I tk,I tp,I tq,B tv,S ts]⟩] (jc3 [none,none,none]) 3 (fun v _ _=>R v)=(lx tv (ax p&&true) p ts s 3 w d tk tp tq 3 R):=by kernel_rfl
theorem v33_3(w:Int)(d:Int)(p:Y)(s:Y)(tk:Int)(tp:Int)(tq:Int)(tv:Bool)(ts:Y)(R:Value→Prop):jaz Tryz.prog M1 noL Tryz.f33 [.agg ⟨[I 4,I w,I d,S p]⟩,S s,.agg ⟨[I tk,I tp,I tq,B tv,S ts]⟩] (jc3 [none,none,none]) 3 (fun v _ _=>R v)=(lx tv (ax p&&true) p ts s 4 w d tk tp tq 4 R):=by kernel_rfl
theorem k33_0(w:Int)(d:Int)(p:Y)(s:Y)(tk:Int)(tp:Int)(tq:Int)(tv:Bool)(ts:Y)(hc:(decide (rdD ⟨1,w,d,p⟩ s ⟨tk,tp,tq,tv,ts⟩))=true):jba Tryz.prog M1 noL Tryz.f33 [.agg ⟨[.int .i64 1,.int .i64 w,.int .i64 d,.string p]⟩,.string s,.agg ⟨[.int .i64 tk,.int .i64 tp,.int .i64 tq,.bool tv,.string ts]⟩] [none,none,none] 3 (.tuple ⟨[.agg ⟨[I (rdO ⟨1,w,d,p⟩ s ⟨tk,tp,tq,tv,ts⟩).1,S (rdO ⟨1,w,d,p⟩ s ⟨tk,tp,tq,tv,ts⟩).2.1]⟩,I (rdO ⟨1,w,d,p⟩ s ⟨tk,tp,tq,tv,ts⟩).2.2,I 0]⟩):=by
 rw[jba,v33_0];delta aq az ak ay la am je cm al i6 j9 lx ax;obtain⟨h1,h2,h3,h4,h5⟩:=jab hc;have hs:p.size≤9223372036854775807:=h1.1;have ht:ts.size≤9223372036854775807:=h1.2.2.1.1;rw[if_pos ⟨h2,by decide⟩,h3,←h4,jaa hs,jaa ht,jaa h1];have hw:(w==0)=false:=by simpa using h5 rfl
 rw[hw];simp
theorem k33_1(w:Int)(d:Int)(p:Y)(s:Y)(tk:Int)(tp:Int)(tq:Int)(tv:Bool)(ts:Y)(hc:(decide (rdD ⟨2,w,d,p⟩ s ⟨tk,tp,tq,tv,ts⟩))=true):jba Tryz.prog M1 noL Tryz.f33 [.agg ⟨[.int .i64 2,.int .i64 w,.int .i64 d,.string p]⟩,.string s,.agg ⟨[.int .i64 tk,.int .i64 tp,.int .i64 tq,.bool tv,.string ts]⟩] [none,none,none] 3 (.tuple ⟨[.agg ⟨[I (rdO ⟨2,w,d,p⟩ s ⟨tk,tp,tq,tv,ts⟩).1,S (rdO ⟨2,w,d,p⟩ s ⟨tk,tp,tq,tv,ts⟩).2.1]⟩,I (rdO ⟨2,w,d,p⟩ s ⟨tk,tp,tq,tv,ts⟩).2.2,I 0]⟩):=by
 rw[jba,v33_1];delta aq az ak ay la am je cm al i6 j9 lx ax;obtain⟨h1,h2,h3,h4,h5⟩:=jab hc;have hs:p.size≤9223372036854775807:=h1.1;have ht:ts.size≤9223372036854775807:=h1.2.2.1.1;rw[if_pos ⟨h2,by decide⟩,h3,←h4,jaa hs,jaa ht,jaa h1];simp
theorem k33_2(w:Int)(d:Int)(p:Y)(s:Y)(tk:Int)(tp:Int)(tq:Int)(tv:Bool)(ts:Y)(hc:(decide (rdD ⟨3,w,d,p⟩ s ⟨tk,tp,tq,tv,ts⟩))=true):jba Tryz.prog M1 noL Tryz.f33 [.agg ⟨[.int .i64 3,.int .i64 w,.int .i64 d,.string p]⟩,.string s,.agg ⟨[.int .i64 tk,.int .i64 tp,.int .i64 tq,.bool tv,.string ts]⟩] [none,none,none] 3 (.tuple ⟨[.agg ⟨[I (rdO ⟨3,w,d,p⟩ s ⟨tk,tp,tq,tv,ts⟩).1,S (rdO ⟨3,w,d,p⟩ s ⟨tk,tp,tq,tv,ts⟩).2.1]⟩,I (rdO ⟨3,w,d,p⟩ s ⟨tk,tp,tq,tv,ts⟩).2.2,I 0]⟩):=by
 rw[jba,v33_2];delta aq az ak ay la am je cm al i6 j9 lx ax;obtain⟨h1,h2,h3,h4,h5⟩:=jab hc;have hs:p.size≤9223372036854775807:=h1.1;have ht:ts.size≤9223372036854775807:=h1.2.2.1.1;rw[if_pos ⟨h2,by decide⟩,h3,←h4,jaa hs,jaa ht,jaa h1];simp
theorem k33_3(w:Int)(d:Int)(p:Y)(s:Y)(tk:Int)(tp:Int)(tq:Int)(tv:Bool)(ts:Y)(hc:(decide (rdD ⟨4,w,d,p⟩ s ⟨tk,tp,tq,tv,ts⟩))=true):jba Tryz.prog M1 noL Tryz.f33 [.agg ⟨[.int .i64 4,.int .i64 w,.int .i64 d,.string p]⟩,.string s,.agg ⟨[.int .i64 tk,.int .i64 tp,.int .i64 tq,.bool tv,.string ts]⟩] [none,none,none] 3 (.tuple ⟨[.agg ⟨[I (rdO ⟨4,w,d,p⟩ s ⟨tk,tp,tq,tv,ts⟩).1,S (rdO ⟨4,w,d,p⟩ s ⟨tk,tp,tq,tv,ts⟩).2.1]⟩,I (rdO ⟨4,w,d,p⟩ s ⟨tk,tp,tq,tv,ts⟩).2.2,I 0]⟩):=by
 rw[jba,v33_3];delta aq az ak ay la am je cm al i6 j9 lx ax;obtain⟨h1,h2,h3,h4,h5⟩:=jab hc;have hs:p.size≤9223372036854775807:=h1.1;have ht:ts.size≤9223372036854775807:=h1.2.2.1.1;rw[if_pos ⟨h2,by decide⟩,h3,←h4,jaa hs,jaa ht,jaa h1];simp
theorem ok33:jan Tryz.prog 33 s33:=by
 refine jbz ok_M1 hmix (.m Tryz.func33) jaj fun args bs v hs=> ?_
 simp only[s33]at hs;split at hs
 ·simp only[Option.some.injEq,Prod.mk.injEq]at hs;obtain⟨hc,rfl⟩:=hs;exact⟨_,3,rfl,rfl,jag,k33_0 _ _ _ _ _ _ _ _ _ (by first | rfl | exact hc)⟩
 ·simp only[Option.some.injEq,Prod.mk.injEq]at hs;obtain⟨hc,rfl⟩:=hs;exact⟨_,3,rfl,rfl,jag,k33_1 _ _ _ _ _ _ _ _ _ (by first | rfl | exact hc)⟩
 ·simp only[Option.some.injEq,Prod.mk.injEq]at hs;obtain⟨hc,rfl⟩:=hs;exact⟨_,3,rfl,rfl,jag,k33_2 _ _ _ _ _ _ _ _ _ (by first | rfl | exact hc)⟩
 ·simp only[Option.some.injEq,Prod.mk.injEq]at hs;obtain⟨hc,rfl⟩:=hs;exact⟨_,3,rfl,rfl,jag,k33_3 _ _ _ _ _ _ _ _ _ (by first | rfl | exact hc)⟩
 ·cases hs
end Go.Fj
end
noncomputable section
set_option maxHeartbeats 3200000
namespace Go.Ff
open Go Go.Ab Go.Proofs Go.Shelf Go.Px Go.Cv Go.Cx
open Go.Fx (Ty Vl)
theorem p10(k:Nat):(0:Int)<10^k:=Int.pow_pos (by decide)
theorem jhf{L0 R:J}{c:Int}{i:Nat}(h:L0.length=i):(L0++c::R).getD i 0=c:=by subst h;simp[List.getD_eq_getElem?_getD]
theorem set_mid{L0 R:J}{c x:Int}{i:Nat}(h:L0.length=i):(L0++c::R).set i x=L0++x::R:=by subst h;simp
theorem plus_ne{i:Nat}{L:J}(h:L.getD i 0≠57):jcu i L=L.set i (IntKind.u8.wrap (L.getD i 0+1)):=by
 cases i<;>simp only[jcu] <;>rw[if_pos h]
theorem plus_val:∀(n:Nat)(L R:J),L.length=n+1→ja7 L=true→(∃c∈L,c≠57)→ ∃L',jcu n (L++R)=L'++R∧ja7 L'=true∧L'.length=n+1∧decG L' 0=decG L 0+1
 | n,L,R,hl,hd,hx=>by
  obtain⟨L0,c,rfl⟩:∃L0 c,L=L0++ [c]:=⟨L.dropLast,L.getLast (by intro e;simp[e]at hl),(List.dropLast_concat_getLast _).symm⟩
  have h0:L0.length=n:=by simpa using hl
  have e1:L0++ [c]++R=L0++c::R:=by simp
  rw[digs_app,jaf]at hd;have hc:48≤c∧c≤57:=by simpa[ja7,dig]using hd.2
  rw[e1];by_cases h:c=57
  ·subst h
   match n,h0 with
   | 0,h0=>
    obtain⟨d,hd',hne⟩:=hx;rw[List.length_eq_zero_iff.1 h0]at hd';simp at hd';exact absurd hd' hne
   | n+1,h0=>
    obtain⟨L',a1,a2,a3,a4⟩:=plus_val n L0 (48::R) h0 hd.1 (by
     obtain⟨d,q,r⟩:=hx;rcases List.mem_append.1 q with q | q
     ·exact⟨d,q,r⟩
     ·simp at q;exact absurd q r)
    refine⟨L'++ [48],?_,?_,?_,?_⟩
    ·rw[jcu,jhf h0,if_neg (by simp),set_mid h0,a1];simp
    ·rw[digs_app,a2];rfl
    ·simp[a3]
    ·rw[jcs,jcs,a4];simp only[decG];omega
  ·refine⟨L0++ [c+1],?_,?_,?_,?_⟩
   ·rw[plus_ne (by rw[jhf h0];exact h),jhf h0,set_mid h0,w8 (by omega)];simp
   ·rw[digs_app,hd.1];simp[ja7,dig];omega
   ·simp[h0]
   ·rw[jcs,jcs];simp only[decG];omega
def rndV(m P:Int):Int:=(2*m+P)/(2*P)
theorem jjx{A B v:Int}(hB:0<B)(h1:v*B≤A)(h2:A<v*B+B):A/B=v:=by
 have a:=Int.le_ediv_of_mul_le hB h1;have b:=Int.ediv_lt_of_lt_mul hB (show A<(v+1)*B by rw[Int.add_mul,Int.one_mul];exact h2);omega
theorem digs_take{l:J}(h:ja7 l=true)(k:Nat):ja7 (l.take k)=true:=List.all_eq_true.2 fun c hc=>List.all_eq_true.1 h c (List.mem_of_mem_take hc)
theorem digs_drop{l:J}(h:ja7 l=true)(k:Nat):ja7 (l.drop k)=true:=List.all_eq_true.2 fun c hc=>List.all_eq_true.1 h c (List.mem_of_mem_drop hc)
theorem digs_tl{l:J}(h:ja7 l=true)(c:Int):ja7 (tlZ l c)=true:=List.all_eq_true.2 fun d hd=>List.all_eq_true.1 h d ((List.dropWhile_sublist _).subset hd)
theorem tl_val(l:J):decG (tlZ l 48) 0=decG l 0:=by
 obtain⟨j,e⟩:=jmo l;have:=jcs (rep48 j) (tlZ l 48) 0;rw[←e,jd8,Int.zero_mul]at this;exact this.symm
theorem up_val{l:J}(hl:ja7 l=true){e:Nat}(he:1≤e)(hk:e≤l.length):
  ja7 (upS l (l.length-e))=true∧(upS l (l.length-e)).length≤l.length-e+1∧decG (upS l (l.length-e)) 0=rndV (decG l 0) (10^e):=by
 obtain⟨k,hke⟩:∃k,l.length-e=k:=⟨_,rfl⟩
 rw[hke];have hkl:k<l.length:=by omega
 obtain⟨r,c,hr⟩:∃r c,l.drop k=c::r:=⟨l.drop (k+1),l[k],List.drop_eq_getElem_cons hkl⟩
 have htl:(l.take k).length=k:=by rw[List.length_take];omega
 have hrl:r.length=e-1:=by
  have:=congrArg List.length hr;rw[List.length_drop,List.length_cons]at this;omega
 have hsp:l=l.take k++c::r:=by rw[←hr,List.take_append_drop]
 have hgd:l.getD k 0=c:=by
  have:=jhf (L0:=l.take k) (R:=r) (c:=c) htl;rw[←hsp]at this;exact this
 have hdr:ja7 (c::r)=true:=hr▸digs_drop hl k;have hdt:=digs_take hl k;simp only[ja7,List.all_cons,jaf]at hdr;have hc:48≤c∧c≤57:=by simpa[dig]using hdr.1
 have hr0:=jhj r hdr.2;have hr1:=jim r hdr.2;rw[hrl]at hr1
 have hv:decG l 0=decG (l.take k) 0*(10^ (e-1)*10)+((c-48)*10^ (e-1)+decG r 0):=by
  have h1:=jcs (l.take k) (c::r) 0;rw[←hsp,jd9 (c::r),List.length_cons,hrl,Int.pow_succ]at h1;rw[h1,decG,jd9 r (10*0+(c-48)),hrl,Int.mul_zero,Int.zero_add]
 have hP:(10:Int) ^e=10^ (e-1)*10:=by
  rw[←Int.pow_succ,show(e-1).succ=e by omega]
 have hQ:=p10 (e-1);rw[hv,hP];generalize (10:Int) ^ (e-1)=Q at*;generalize decG r 0=ρ at*;generalize hH:decG (l.take k) 0=H at*;have x1:H*(2*(Q*10))=20*(H*Q):=by grind
 have x2:(H+1)*(2*(Q*10))=20*(H*Q)+20*Q:=by grind
 have x3:H*(Q*10)=10*(H*Q):=by grind
 have m1:(c-48)*Q≤9*Q:=Int.mul_le_mul_of_nonneg_right (by omega) (by omega);unfold upS rndV;rw[hgd];by_cases h5:53≤c
 ·rw[if_pos h5];have m2:5*Q≤(c-48)*Q:=Int.mul_le_mul_of_nonneg_right (by omega) (by omega);obtain⟨L',a1,a2,a3,a4⟩:=plus_val k (48::l.take k) [] (by rw[List.length_cons,htl]) (by simp[ja7,dig]at hdt ⊢;exact hdt) ⟨48,List.mem_cons_self,by decide⟩;rw[List.append_nil,List.append_nil]at a1;rw[a1];refine⟨a2,by omega,?_⟩;have:decG (48::l.take k) 0=H:=by rw[decG,←hH];rfl
  rw[a4,this];exact(jjx (by omega) (by omega) (by omega)).symm
 ·rw[if_neg h5];have m2:(c-48)*Q≤4*Q:=Int.mul_le_mul_of_nonneg_right (by omega) (by omega);have m3:0*Q≤(c-48)*Q:=Int.mul_le_mul_of_nonneg_right (by omega) (by omega);refine⟨hdt,by omega,?_⟩;rw[hH];exact(jjx (by omega) (by omega) (by omega)).symm
def valF(n q b:Int):Int:=if q≤b then n*10^ (b-q).toNat else rndV n (10^ (q-b).toNat)
theorem rnd_mul{m P Z:Int}(hP:0<P)(hZ:0<Z):rndV (m*Z) (P*Z)=rndV m P:=by
 unfold rndV;rw[show 2*(m*Z)+P*Z=Z*(2*m+P)by grind,show 2*(P*Z)=Z*(2*P)by grind,Int.mul_ediv_mul_of_pos _ _ hZ]
theorem rnd_ex{v P:Int}(hP:0<P):rndV (v*P) P=v:=by
 refine jjx (by omega) ?_ ?_
 ·rw[show v*(2*P)=2*(v*P)by grind];omega
 ·rw[show v*(2*P)=2*(v*P)by grind];omega
theorem ro_val{l:J}{z:Nat}{n q b:Int}(hl:ja7 l=true)(hn:decG l 0*10^z=n)(hz:l.length+z≤10)(hq:0≤q∧q≤9)(hb:0≤b∧b≤9):
  (roF l (q-z) b).2=true∧ja7 (roF l (q-z) b).1=true∧(roF l (q-z) b).1.length≤19∧decG (roF l (q-z) b).1 0=valF n q b:=by
 have hm:=jhj l hl;unfold roF;by_cases h1:q-z≤b
 ·obtain⟨k,hk⟩:∃k:Nat,b-(q-z)=(k:Int):=⟨(b-(q-z)).toNat,by omega⟩
  rw[if_pos h1,if_neg (by omega),hk,show(min (k:Int) 300).toNat=k by omega,jdk,←rep48];have hd:ja7 (l++rep48 k)=true:=by rw[digs_app,hl,rep48_digs];rfl
  have hle:(l++rep48 k).length=l.length+k:=by rw[List.length_append,rep48,List.length_replicate]
  have:=je2 (l++rep48 k) 48;refine⟨jaa (by omega),digs_tl hd _,by simp only;omega,?_⟩;rw[tl_val,jcs,jd8,valF];split
  ·rename_i h2;rw[←hn,Int.mul_assoc,←Int.pow_add,show z+(b-q).toNat=k by omega]
  ·rename_i h2;rw[←hn,show z=k+(q-b).toNat by omega,Int.pow_add,←Int.mul_assoc,rnd_ex (p10 _)]
 ·obtain⟨e,he⟩:∃e:Nat,q-z-b=(e:Int):=⟨(q-z-b).toNat,by omega⟩
  have hv:valF n q b=rndV (decG l 0) (10^e):=by
   rw[valF,if_neg (by omega),←hn,show(q-b).toNat=e+z by omega,Int.pow_add,rnd_mul (p10 _) (p10 _)]
  rw[if_neg h1];by_cases h2:(l.length:Int)+(b-(q-z))<0
  ·rw[if_pos h2];refine⟨rfl,rfl,by simp,?_⟩;rw[hv];show(0:Int)=_;have h3:=jim l hl
   have h4:(10:Int) ^ (l.length+1)≤10^e:=by
    have:(10:Nat) ^ (l.length+1)≤10^e:=Nat.pow_le_pow_right (by decide) (by omega)
    exact_mod_cast this
   rw[Int.pow_succ]at h4;have hp:=p10 e;exact(jjx (by omega) (by omega) (by omega)).symm
  ·rw[if_neg h2,show((l.length:Int)+(b-(q-z))).toNat=l.length-e by omega];obtain⟨u1,u2,u3⟩:=up_val hl (e:=e) (by omega) (by omega);have:=je2 (upS l (l.length-e)) 48;refine⟨jaa (by omega),digs_tl u1 _,by simp only;omega,?_⟩;rw[tl_val,u3,hv]
end Go.Ff
end
noncomputable section
set_option maxHeartbeats 3200000
namespace Go.Fi
open Go Go.Ab Go.Proofs Go.Shelf Go.Px Go.Cv Go.Cx Go.Ff Go.Fh
open Go.Fx (Ty Vl ja9)
end Go.Fi
end
noncomputable section
set_option maxHeartbeats 3200000
set_option maxRecDepth 100000
namespace Go.Fg
open Go Go.Ab Go.Proofs Go.Shelf Go.Px Go.Cv Go.Cx Go.Ff
open Go.Fx (Ty Vl)
attribute [local instance 5000] tabsB
def fcL:List Fo→F
 | []=> []
 | f::r=> .int .i64 f.k:: .int .i64 f.w:: .int .i64 f.d:: .string f.s::fcL r
def fosN:Nat→F→Option (List Fo)
 | 0,_=>some []
 | n+1,.int .i64 k:: .int .i64 w:: .int .i64 d:: .string s::r=>match fosN n r with | some l=>some (⟨k,w,d,s⟩::l) | none=>none
 | _,_=>none
def szF(f:Fo):Bool:=Nat.ble f.s.size 9223372036854775807
theorem foA_ex:∃d:F→Nat→Nat→List Fo,d=fun c off n=>(fosN n (c.drop off)).getD []:=⟨_,rfl⟩
def foA:F→Nat→Nat→List Fo:=Classical.choose foA_ex
theorem foA_eq(c:F)(off n:Nat):foA c off n=(fosN n (c.drop off)).getD []:=by rw[foA,Classical.choose_spec foA_ex]
def foOK(c:F)(off n:Nat):Bool:=(fosN n (c.drop off)).isSome&& (jay c&& (foA c off n).all szF)
theorem fcL_plain:∀l:List Fo,jay (fcL l)=true
 | []=>rfl
 | f::r=>by simp only[fcL,jay,plain,fcL_plain r,Bool.and_self]
theorem jk8:∀(l:List Fo)(r:F),fosN l.length (fcL l++r)=some l
 | [],r=>rfl
 | f::l,r=>by simp only[List.length_cons,fcL,List.cons_append,fosN,jk8 l r]
theorem jjs:∀{n:Nat}{c:F}{l:List Fo},fosN n c=some l↔l.length=n∧ ∃r,c=fcL l++r
 | 0,c,l=>by
  constructor
  ·intro h;cases h;exact⟨rfl,c,rfl⟩
  ·rintro ⟨h,r,rfl⟩;obtain rfl:=List.length_eq_zero_iff.1 h;rfl
 | n+1,c,l=>by
  constructor
  ·intro h;unfold fosN at h;split at h
   ·rename_i hm;cases hm
   ·rename_i m k w d s r hm;cases hm;split at h
    ·rename_i l' hl;cases h;obtain⟨h1,r',rfl⟩:=jjs.1 hl;exact⟨by simp[h1],r',by simp[fcL]⟩
    ·cases h
   ·cases h
  ·rintro ⟨h,r,rfl⟩;rw[←h];exact jk8 l r
theorem foOK_iff{c:F}{off n:Nat}:foOK c off n=true↔(foA c off n).length=n∧(∃r,c.drop off=fcL (foA c off n)++r)∧jay c=true∧ ∀f∈foA c off n,f.s.size≤9223372036854775807:=by
 simp only[foOK,jaf,List.all_eq_true,szF,Nat.ble_eq];constructor
 ·rintro ⟨h1,h2,h3⟩;cases hv:fosN n (c.drop off)with
  | none=>rw[hv]at h1;cases h1
  | some l=>
   have e:foA c off n=l:=by simp[foA_eq,hv]
   obtain⟨q1,q2⟩:=jjs.1 hv;rw[e]at h3 ⊢;exact⟨q1,q2,h2,h3⟩
 ·rintro ⟨h1,h2,h3,h4⟩;exact⟨by rw[jjs.2 ⟨h1,h2⟩];rfl,h3,h4⟩
theorem foA_of{c:F}{off:Nat}{l:List Fo}{r:F}(h:c.drop off=fcL l++r):foA c off l.length=l:=by
 rw[foA_eq,h,jk8];rfl
theorem foOK_of{c:F}{off:Nat}{l:List Fo}{r:F}(h:c.drop off=fcL l++r)(hp:jay c=true)(hs:∀f∈l,f.s.size≤9223372036854775807):foOK c off l.length=true:=by
 rw[foOK_iff,foA_of h];exact⟨rfl,⟨r,h⟩,hp,hs⟩
theorem foOK_own{l:List Fo}{r:F}(hp:jay r=true)(hs:∀f∈l,f.s.size≤9223372036854775807):foOK (fcL l++r) 0 l.length=true:=
 foOK_of (r:=r) (by simp) (ja2.2 fun v hv=>(List.mem_append.1 hv).elim (ja2.1 (fcL_plain l) v) (ja2.1 hp v)) hs
theorem foA_own(l:List Fo)(r:F):foA (fcL l++r) 0 l.length=l:=foA_of (r:=r) (by simp)
theorem fcL_at:∀(l:List Fo)(r:F)(i:Nat)(f:Fo),l[i]?=some f→(fcL l++r)[i*4]?=some (.int .i64 f.k)∧(fcL l++r)[i*4+1]?=some (.int .i64 f.w)∧(fcL l++r)[i*4+2]?=some (.int .i64 f.d)∧(fcL l++r)[i*4+3]?=some (.string f.s)
 | [],_,_,_,h=>by simp at h
 | g::l,r,0,f,h=>by
  cases(by simpa using h:g=f);exact⟨rfl,rfl,rfl,rfl⟩
 | g::l,r,i+1,f,h=>by
  have:=fcL_at l r i f (by simpa using h);rw[show(i+1)*4=i*4+4 by omega,show i*4+4+1=i*4+1+4 by omega,show i*4+4+2=i*4+2+4 by omega,show i*4+4+3=i*4+3+4 by omega];simpa only[fcL,List.cons_append,List.getElem?_cons_succ]using this
theorem jk9{c:F}{off n:Nat}(h:foOK c off n=true):(foA c off n).length=n∧jay c=true∧ ∀(i:Nat),i<n→ ∃f,(foA c off n)[i]?=some f∧f.s.size≤9223372036854775807∧
  jbc .i64 c (off+i*4)=true∧jbc .i64 c (off+i*4+1)=true∧jbc .i64 c (off+i*4+1+1)=true∧jgo c (off+i*4+1+1+1)=true∧
  jaq c (off+i*4)=f.k∧jaq c (off+i*4+1)=f.w∧jaq c (off+i*4+1+1)=f.d∧jg3 c (off+i*4+1+1+1)=f.s:=by
 obtain⟨h1,⟨r,h2⟩,h3,h4⟩:=foOK_iff.1 h;refine⟨h1,h3,fun i hi=> ?_⟩;obtain⟨f,hf⟩:∃f,(foA c off n)[i]?=some f:=⟨_,List.getElem?_eq_getElem (by omega)⟩
 obtain⟨q1,q2,q3,q4⟩:=fcL_at _ r i f hf;rw[←h2,List.getElem?_drop]at q1 q2 q3 q4;refine⟨f,hf,h4 f (List.mem_of_getElem? hf),?_⟩;simp only[Nat.add_assoc]at*;simp only[jbc,jgo,jaq,jg3,q1,q2,q3,q4,beq_self_eq_true,and_self]
theorem drop_at{l:List Fo}{i:Nat}{f:Fo}(h:l[i]?=some f):l.drop i=f::l.drop (i+1):=by
 obtain⟨hi,rfl⟩:=List.getElem?_eq_some_iff.1 h;exact List.drop_eq_getElem_cons hi
theorem jhd{n:Nat}{c:F}(h:jay c=true):jaw n c=true:=by simp[jaw,jao h]
theorem jhq{c:F}{ty:TypeId}{o:Bool}(hp:jay c=true):jc3 [some ⟨c,ty,o⟩]=vw c ty:=by
 funext k
 match k with
 | 0=>simp[jc3,jnj,vw,hp]
 | k+1=>rfl
theorem jf1{c:F}{ty:TypeId}{o:Bool}(hp:jay c=true):jc3 [some ⟨c,ty,o⟩,none]=vw c ty:=by
 funext k
 match k with
 | 0=>simp[jc3,jnj,vw,hp]
 | 1=>rfl
 | k+2=>rfl
theorem jfn{c:F}{off n:Nat}{x:Bool}(h:(foOK c off n&&x)=true):jay c=true:=by
 simp only[jaf]at h;exact(jk9 h.1).2.1
def ixF(p:Fo→Bool):List Fo→Int→Int
 | [],_=> -1
 | f::r,i=>bif p f then i else ixF p r (i+1)
theorem ixF_any(p:Fo→Bool):∀(l:List Fo)(i:Int),0≤i→(decide (0≤ixF p l i))=l.any p
 | [],_,_=>rfl
 | f::r,i,h=>by
  unfold ixF;cases hp:p f
  ·simp only[cond_false,List.any_cons,hp,Bool.false_or];exact ixF_any p r (i+1) (by omega)
  ·simp[h,hp]
def ixV(p:Fo→Bool)(c:F)(off n:Nat)(i:Int):Int:=ixF p ((foA c off n).drop i.toNat) i
theorem ixV_any(p:Fo→Bool)(c:F)(off n:Nat):(decide (0≤ixV p c off n 0))=(foA c off n).any p:=by
 rw[ixV,Int.toNat_zero,List.drop_zero];exact ixF_any p _ 0 (by omega)
def altS(s s':Ab.Spec):Ab.Spec:=fun a b=>match s a b with | some x=>some x | none=>s' a b
theorem pure_alt{f:FuncId}{s s':Ab.Spec}(h:jan Tryz.prog f s)(h':jan Tryz.prog f s'):jan Tryz.prog f (altS s s'):=
 ⟨h.1, fun args v N w0 lk ι w hr hs hp => by
  simp only[altS]at hs;split at hs
  ·rename_i x he;exact h.2 args v N w0 lk ι w hr (by rw[he,hs]) hp
  ·exact h'.2 args v N w0 lk ι w hr hs hp⟩
def jec(f:Fo):Bool:=decide (200<(f.s.size:Int))
def pBad(f:Fo):Bool:= !jby f
theorem ok_F3':ja0 Tryz.prog (Env.nil.add 77 (sp1 Ff.s44)):=jak jav Ff.ok44
def H0:Env:=Env.nil.add 77 (sp1 Ff.s44)
theorem ok_H0:ja0 Tryz.prog H0:=ok_F3'
def s42(f:Fo):Bool×Value:=(decide (f.s.size≤9223372036854775807),B (jec f))
theorem v42(f:Fo)(R:Value→Prop):jaz Tryz.prog H0 noL Tryz.f71 [Enc.enc f] (fun _=>none) 0 (fun v _ _=>R v)=(R (B (decide ((((Fo.s f).size):Int)>200)))):=by kernel_rfl
theorem ok42:jan Tryz.prog 71 (sp1 s42):=by
 refine jck ok_H0 hmix (.m Tryz.func71) jaj jag fun f hc=> ?_
 rw[ja5,v42];have hc:(f.s.size≤9223372036854775807):=jab hc
 try dsimp only[s42]
 rfl
def s43(f:Fo):Bool×Value:=(decide (f.s.size≤9223372036854775807),B (pBad f))
theorem v43(f:Fo)(R:Value→Prop):jaz Tryz.prog H0 noL Tryz.f76 [Enc.enc f] (fun _=>none) 0 (fun v _ _=>R v)=(bif decide ((Fo.s f).size≤9223372036854775807)then R (B !jby f)else False):=by kernel_rfl
theorem ok43:jan Tryz.prog 76 (sp1 s43):=by
 refine jck ok_H0 hmix (.m Tryz.func76) jaj jag fun f hc=> ?_
 rw[ja5,v43];have hc:(f.s.size≤9223372036854775807):=jab hc
 try dsimp only[s43]
 rw[jaa hc,cond_true];rfl
attribute [local instance 5000] tabsB
namespace K42
def H1:Env:=H0.add 71 (sp1 s42)
theorem ok_H1:ja0 Tryz.prog H1:=jak ok_H0 ok42
def V77_0:F×Nat×Nat×Nat×Nat×Int×Int×Int→F:=fun(c,ty,off,n,cap,r,m,i)=> [.slice (some ⟨0,off,some 1⟩) n cap,.func (.func 71) ⟨[]⟩ ⟨[]⟩,I r,I m,I i]
def B77_0:F×Nat×Nat×Nat×Nat×Int×Int×Int→O:=fun(c,ty,off,n,cap,r,m,i)=> [some ⟨c,ty,false⟩]
def S77_0:LSpec (F×Nat×Nat×Nat×Nat×Int×Int×Int) where
 live:=[0,1,4,7,8]
 mid:=[0]
 n:=60
 dec vs bs:=match vs,bs with | [.slice (some ⟨0,off,some 1⟩) n cap,.func (.func 71) ⟨[]⟩ ⟨[]⟩,.int .i64 r,.int .i64 m,.int .i64 i],[some ⟨c,ty,false⟩]=>some (c,ty,off,n,cap,r,m,i) | _,_=>none
 pre:=fun(c,ty,off,n,cap,r,m,i)=>foOK c off n&&decide (n≤1000000∧m=n∧0≤i∧i≤n)
 fin:=fun(c,ty,off,n,cap,r,m,i) Z=>(bif (ixV jec c off n i)== -1 then Z (.exit 0) [.slice (some ⟨0,off,some 1⟩) n cap,.func (.func 71) ⟨[]⟩ ⟨[]⟩,I r,I m,I n] [some ⟨c,ty,false⟩]else Z .ret [.slice (some ⟨0,off,some 1⟩) n cap,.func (.func 71) ⟨[]⟩ ⟨[]⟩,I (ixV jec c off n i),I m,I (ixV jec c off n i)] [some ⟨c,ty,false⟩])
def kc(b:Int)(a:Nat):Nat:=a+b.toNat*4+1
def ow(f:Bool)(g:Exit→F→O→Prop)(i:FuncId)(a b k:Int)(d:F)(c e h j:Nat):Prop:=bif au a b then bif gv a (c:Int)then bif jbc .i64 d (e+a.toNat*4) && (jbc .i64 d (Fg.K42.kc a e) && (jbc .i64 d (Fg.K42.kc a e+1) && (jgo d (Fg.K42.kc a e+1+1) &&true)))then dt f (jg3 d (Fg.K42.kc a e+1+1)) (g .ret (dv 0 e c h::j5 i [] [ak b,ak a] (ak a)) [some (.mk d j false)]) (g .normal (dv 0 e c h::j5 i [] (d8 b a) (ak k)) [some (.mk d j false)])else False else False else g (.exit 0) (dv 0 e c h::j5 i [] [ak b,ak a] (ak k)) [some (.mk d j false)]
theorem r77_0(c:F)(ty:Nat)(off:Nat)(n:Nat)(cap:Nat)(r:Int)(m:Int)(i:Int)(jk:Tmps)(R:Exit→F→O→Prop):(jb6 Tryz.prog H1 noL Tryz.f120.ntmps (jbb Tryz.f120 0) (tl S77_0.live (V77_0 (c,ty,off,n,cap,r,m,i)) jk) (ml S77_0.mid (B77_0 (c,ty,off,n,cap,r,m,i))) S77_0.n fun e t' m' _=>R e (List.map t' S77_0.live) (List.map m' S77_0.mid))=(Fg.K42.ow (Fg.jec (Ff.Fo.mk (cq i c off 4) (jaq c (Fg.K42.kc i off)) (jaq c (Fg.K42.kc i off+1)) (jg3 c (Fg.K42.kc i off+1+1)))) R 71 i m r c n off cap ty):=by kernel_rfl
theorem l77_0:LOKf Tryz.prog (oneL 0 S77_0.hQ) Tryz.f120:=by
 refine jcb (h:=S77_0.hQ) (by kernel_rfl) (loop_specV ok_H1 hmix (by kernel_rfl) (jbf _) S77_0 V77_0 B77_0 (fun(c,ty,off,n,cap,r,m,i)=>(n-i).toNat) ?_ ?_ ?_)
 ·intro vs bs s h;simp only[S77_0]at h;split at h
  all_goals first | (cases h;exact⟨rfl,rfl⟩) | cases h | (split at h<;>first | (rename_i hq;cases h;have hq:=jah hq;subst hq;exact⟨rfl,rfl⟩) | (rename_i hq;cases h;simp only[cnd,jaf,Nat.beq_eq]at hq;obtain⟨rfl,rfl,rfl⟩:=hq;exact⟨rfl,rfl⟩) | cases h)
 ·exact fun k ⟨c,ty,off,n,cap,r,m,i⟩ ⟨c',ty',off',n',cap',r',m',i'⟩ hp h=>by
   simp only[S77_0,jaf]at hp;have hq:=jhd (n:=k) (jk9 hp.1).2.1;simp_all[V77_0,B77_0,jbt,jaw,idsL,ids]
 ·intro⟨c,ty,off,n,cap,r,m,i⟩ jk Z hp hf;rw[r77_0];delta j4 j5 ak dq dv ax dt bp d8 Fg.K42.kc gv au Fg.K42.ow cq;simp only[S77_0]at hp hf;simp only[jaf,jae]at hp;obtain⟨ho,h1,rfl,h3,h4⟩:=hp;obtain⟨hl,hpl,hat⟩:=jk9 ho;rw[ixV]at hf;apply cond_intro<;>intro h
  ·have h:=jab h;obtain⟨f,hf1,hsz,q1,q2,q3,q4,e1,e2,e3,e4⟩:=hat i.toNat (by omega);have hd:=drop_at hf1;have hi:(i+1).toNat=i.toNat+1:=by omega
   rw[hd,ixF]at hf;rw[q1,q2,q3,q4,e1,e2,e3,e4];refine c_t (jaa (by omega)) (c_t rfl (c_t (jaa hsz) ?_));have hp':jec ⟨f.k,f.w,f.d,f.s⟩=jec f:=rfl;rw[hp'];cases hq:jec f
   ·rw[hq,cond_false]at hf;refine c_f rfl ?_;rw[w64 (n:=i+1) (by omega)];refine⟨(c,ty,off,n,cap,r,n,i+1),rfl,rfl,?_,by simp only;omega,?_⟩
    ·simp only[S77_0,jaf,jae];exact⟨ho,h1,trivial,by omega,by omega⟩
    ·simp only[S77_0,ixV];rw[hi];exact hf
   ·rw[hq,cond_true,show(i== -1)=false by simp;omega]at hf;exact c_t rfl hf
  ·have h:=jac h;obtain rfl:i=n:=by omega
   rw[Int.toNat_natCast,List.drop_eq_nil_of_le (by omega)]at hf;exact hf
def s77n:Ab.Spec:=fun args bs=>match args,bs with
 | [.slice none 0 0,.func (.func 71) ⟨[]⟩ ⟨[]⟩],[none,none]=>some (true,I (-1))
 | _,_=>none
theorem fn77:Fn1 Tryz.prog 120 Tryz.f120:= .m Tryz.func120
theorem v77n_0(R:Value→Prop):jaz Tryz.prog H1 noL Tryz.f120 [.slice none 0 0,.func (.func 71) ⟨[]⟩ ⟨[]⟩] (jc3 [none,none]) 2 (fun v _ _=>R v)=(bif decide (0<natO 0)then False else R (I (-1))):=by kernel_rfl
theorem k77n_0(hc:(true)=true):jba Tryz.prog H1 noL Tryz.f120 [.slice none 0 0,.func (.func 71) ⟨[]⟩ ⟨[]⟩] [none,none] 2 (I (-1)):=by
 rw[jba,v77n_0];rw[jb1];rfl
theorem ok77n:jan Tryz.prog 120 s77n:=by
 refine jbz ok_H1 hmix fn77 jaj fun args bs v hs=> ?_
 simp only[s77n]at hs;split at hs
 ·simp only[Option.some.injEq,Prod.mk.injEq]at hs;obtain⟨hc,rfl⟩:=hs;exact⟨_,2,rfl,rfl,jag,k77n_0 (by first | rfl | exact hc)⟩
 ·cases hs
def s77w:Ab.Spec:=fun args bs=>match args,bs with
 | [.slice (some ⟨_,off,some 1⟩) n cap,.func (.func 71) ⟨[]⟩ ⟨[]⟩],[some ⟨c,ty,o⟩,none]=>some ((foOK c off n&&decide (n≤1000000)),I (ixV jec c off n 0))
 | _,_=>none
theorem v77w_0(c:F)(ty:TypeId)(o:Bool)(off:Nat)(n:Nat)(cap:Nat)(R:Value→Prop):jaz Tryz.prog H1 (oneL 0 S77_0.hQ) Tryz.f120 [.slice (some ⟨0,off,some 1⟩) n cap,.func (.func 71) ⟨[]⟩ ⟨[]⟩] (vw c ty) 2 (fun v _ _=>R v)=(fw (jaw 60 c) true (Fg.K42.S77_0.pre (c,(ty,(off,(n,(cap,((0:Int),(natO n,(0:Int))))))))) (bif Fg.ixV Fg.jec c off n 0== -(1:Int)then gy c 60 (R (I (-1)))else gy c 60 (R (I (Fg.ixV Fg.jec c off n 0)))) False):=by kernel_rfl
theorem k77w_0(c:F)(ty:TypeId)(o:Bool)(off:Nat)(n:Nat)(cap:Nat)(hc:((foOK c off n&&decide (n≤1000000)))=true):jba Tryz.prog H1 (oneL 0 S77_0.hQ) Tryz.f120 [.slice (some ⟨0,off,some 1⟩) n cap,.func (.func 71) ⟨[]⟩ ⟨[]⟩] [some ⟨c,ty,o⟩,none] 2 (I (ixV jec c off n 0)):=by
 rw[jba,jf1 (o:=o) (jfn hc),v77w_0 (o:=o)];delta fw gy;rw[jb1];simp only[jaf,jae]at hc;obtain⟨ho,hn⟩:=hc;have hi:jaw 60 c=true:=jhd (jk9 ho).2.1;refine c_t (by simp[hi]) (c_t ?_ ?_)
 ·simp only[S77_0,jaf,jae];exact⟨ho,hn,trivial,by omega,by omega⟩
 ·skip
  apply cond_intro<;>intro h
  ·rw[eq_of_beq h];exact c_t (by simp[hi]) fun _=>rfl
  ·exact c_t (by simp[hi]) fun _=>rfl
theorem ok77w:jan Tryz.prog 120 s77w:=by
 refine jbz ok_H1 hmix fn77 l77_0 fun args bs v hs=> ?_
 simp only[s77w]at hs;split at hs
 ·simp only[Option.some.injEq,Prod.mk.injEq]at hs;obtain⟨hc,rfl⟩:=hs;exact⟨_,2,rfl,rfl,jag,k77w_0 _ _ _ _ _ _ (by first | rfl | exact hc)⟩
 ·cases hs
def s77:Ab.Spec:=altS s77n s77w
theorem ok77:jan Tryz.prog 120 s77:=pure_alt ok77n ok77w
def H2:Env:=H1.add 120 s77
theorem ok_H2:ja0 Tryz.prog H2:=jak ok_H1 ok77
def s41:Ab.Spec:=fun args bs=>match args,bs with
 | [.slice none 0 0,.func (.func 71) ⟨[]⟩ ⟨[]⟩],[none,none]=>some (true,B false)
 | [.slice (some ⟨_,off,some 1⟩) n cap,.func (.func 71) ⟨[]⟩ ⟨[]⟩],[some ⟨c,ty,o⟩,none]=>some ((foOK c off n&&decide (n≤1000000)),B ((foA c off n).any jec))
 | _,_=>none
theorem v41_0(R:Value→Prop):jaz Tryz.prog H2 noL Tryz.f70 [.slice none 0 0,.func (.func 71) ⟨[]⟩ ⟨[]⟩] (jc3 [none,none]) 2 (fun v _ _=>R v)=(R (B (decide (-1≥0)))):=by kernel_rfl
theorem v41_1(c:F)(ty:TypeId)(o:Bool)(off:Nat)(n:Nat)(cap:Nat)(R:Value→Prop):jaz Tryz.prog H2 noL Tryz.f70 [.slice (some ⟨0,off,some 1⟩) n cap,.func (.func 71) ⟨[]⟩ ⟨[]⟩] (vw c ty) 2 (fun v _ _=>R v)=(bif foOK c off n&&decide (n≤1000000)then R (B (decide (ixV jec c off n 0≥0)))else False):=by kernel_rfl
theorem k41_0(hc:(true)=true):jba Tryz.prog H2 noL Tryz.f70 [.slice none 0 0,.func (.func 71) ⟨[]⟩ ⟨[]⟩] [none,none] 2 (B false):=by
 rw[jba,v41_0];rfl
theorem k41_1(c:F)(ty:TypeId)(o:Bool)(off:Nat)(n:Nat)(cap:Nat)(hc:((foOK c off n&&decide (n≤1000000)))=true):jba Tryz.prog H2 noL Tryz.f70 [.slice (some ⟨0,off,some 1⟩) n cap,.func (.func 71) ⟨[]⟩ ⟨[]⟩] [some ⟨c,ty,o⟩,none] 2 (B ((foA c off n).any jec)):=by
 rw[jba,jf1 (o:=o) (jfn hc),v41_1 (o:=o)];refine c_t hc ?_;rw[←ixV_any]
theorem ok41:jan Tryz.prog 70 s41:=by
 refine jbz ok_H2 hmix (.m Tryz.func70) jaj fun args bs v hs=> ?_
 simp only[s41]at hs;split at hs
 ·simp only[Option.some.injEq,Prod.mk.injEq]at hs;obtain⟨hc,rfl⟩:=hs;exact⟨_,2,rfl,rfl,jag,k41_0 (by first | rfl | exact hc)⟩
 ·simp only[Option.some.injEq,Prod.mk.injEq]at hs;obtain⟨hc,rfl⟩:=hs;exact⟨_,2,rfl,rfl,jag,k41_1 _ _ _ _ _ _ (by first | rfl | exact hc)⟩
 ·cases hs
def H3:Env:=H2.add 70 s41
theorem ok_H3:ja0 Tryz.prog H3:=jak ok_H2 ok41
def s11:Ab.Spec:=fun args bs=>match args,bs with
 | [.slice none 0 0],[none]=>some (true,B true)
 | [.slice (some ⟨_,off,some 1⟩) n cap],[some ⟨c,ty,o⟩]=>some ((foOK c off n&&true),B (decide ((n:Int)≤40) && !(foA c off n).any jec))
 | _,_=>none
theorem v11_0(R:Value→Prop):jaz Tryz.prog H3 noL Tryz.f22 [.slice none 0 0] (jc3 [none]) 1 (fun v _ _=>R v)=(bif decide (natO 0≤40) || true then R (B (decide (natO 0≤40) && !false))else False):=by kernel_rfl
theorem v11_1(c:F)(ty:TypeId)(o:Bool)(off:Nat)(n:Nat)(cap:Nat)(R:Value→Prop):jaz Tryz.prog H3 noL Tryz.f22 [.slice (some ⟨0,off,some 1⟩) n cap] (vw c ty) 1 (fun v _ _=>R v)=(aq (cm (decide (natO n≤40)) (Fg.foOK c off n&&decide (n≤1000000) &&true) true) (B (decide (natO n≤40) && !(Fg.foA c off n).any Fg.jec)) R):=by kernel_rfl
theorem k11_0(hc:(true)=true):jba Tryz.prog H3 noL Tryz.f22 [.slice none 0 0] [none] 1 (B true):=by
 rw[jba,v11_0];rw[jb1];rfl
theorem k11_1(c:F)(ty:TypeId)(o:Bool)(off:Nat)(n:Nat)(cap:Nat)(hc:((foOK c off n&&true))=true):jba Tryz.prog H3 noL Tryz.f22 [.slice (some ⟨0,off,some 1⟩) n cap] [some ⟨c,ty,o⟩] 1 (B (decide ((n:Int)≤40) && !(foA c off n).any jec)):=by
 rw[jba,jhq (o:=o) (jfn hc),v11_1 (o:=o)];delta aq cm;rw[jb1];simp only[jaf,and_true]at hc;rw[hc];refine c_t ?_ rfl;by_cases h:(n:Int)≤40
 ·rw[jaa h];simp;omega
 ·rw[jad h];rfl
theorem ok11:jan Tryz.prog 22 s11:=by
 refine jbz ok_H3 hmix (.m Tryz.func22) jaj fun args bs v hs=> ?_
 simp only[s11]at hs;split at hs
 ·simp only[Option.some.injEq,Prod.mk.injEq]at hs;obtain⟨hc,rfl⟩:=hs;exact⟨_,1,rfl,rfl,jag,k11_0 (by first | rfl | exact hc)⟩
 ·simp only[Option.some.injEq,Prod.mk.injEq]at hs;obtain⟨hc,rfl⟩:=hs;exact⟨_,1,rfl,rfl,jag,k11_1 _ _ _ _ _ _ (by first | rfl | exact hc)⟩
 ·cases hs
end K42
attribute [local instance 5000] tabsB
namespace K43
def H1:Env:=H0.add 76 (sp1 s43)
theorem ok_H1:ja0 Tryz.prog H1:=jak ok_H0 ok43
def V77_0:F×Nat×Nat×Nat×Nat×Int×Int×Int→F:=fun(c,ty,off,n,cap,r,m,i)=> [.slice (some ⟨0,off,some 1⟩) n cap,.func (.func 76) ⟨[]⟩ ⟨[]⟩,I r,I m,I i]
def B77_0:F×Nat×Nat×Nat×Nat×Int×Int×Int→O:=fun(c,ty,off,n,cap,r,m,i)=> [some ⟨c,ty,false⟩]
def S77_0:LSpec (F×Nat×Nat×Nat×Nat×Int×Int×Int) where
 live:=[0,1,4,7,8]
 mid:=[0]
 n:=60
 dec vs bs:=match vs,bs with | [.slice (some ⟨0,off,some 1⟩) n cap,.func (.func 76) ⟨[]⟩ ⟨[]⟩,.int .i64 r,.int .i64 m,.int .i64 i],[some ⟨c,ty,false⟩]=>some (c,ty,off,n,cap,r,m,i) | _,_=>none
 pre:=fun(c,ty,off,n,cap,r,m,i)=>foOK c off n&&decide (n≤1000000∧m=n∧0≤i∧i≤n)
 fin:=fun(c,ty,off,n,cap,r,m,i) Z=>(bif (ixV pBad c off n i)== -1 then Z (.exit 0) [.slice (some ⟨0,off,some 1⟩) n cap,.func (.func 76) ⟨[]⟩ ⟨[]⟩,I r,I m,I n] [some ⟨c,ty,false⟩]else Z .ret [.slice (some ⟨0,off,some 1⟩) n cap,.func (.func 76) ⟨[]⟩ ⟨[]⟩,I (ixV pBad c off n i),I m,I (ixV pBad c off n i)] [some ⟨c,ty,false⟩])
theorem r77b_0(c:F)(ty:Nat)(off:Nat)(n:Nat)(cap:Nat)(r:Int)(m:Int)(i:Int)(jk:Tmps)(R:Exit→F→O→Prop):(jb6 Tryz.prog H1 noL Tryz.f120.ntmps (jbb Tryz.f120 0) (tl S77_0.live (V77_0 (c,ty,off,n,cap,r,m,i)) jk) (ml S77_0.mid (B77_0 (c,ty,off,n,cap,r,m,i))) S77_0.n fun e t' m' _=>R e (List.map t' S77_0.live) (List.map m' S77_0.mid))=(Fg.K42.ow (Fg.pBad (Ff.Fo.mk (cq i c off 4) (jaq c (Fg.K42.kc i off)) (jaq c (Fg.K42.kc i off+1)) (jg3 c (Fg.K42.kc i off+1+1)))) R 76 i m r c n off cap ty):=by kernel_rfl
theorem l77_0:LOKf Tryz.prog (oneL 0 S77_0.hQ) Tryz.f120:=by
 refine jcb (h:=S77_0.hQ) (by kernel_rfl) (loop_specV ok_H1 hmix (by kernel_rfl) (jbf _) S77_0 V77_0 B77_0 (fun(c,ty,off,n,cap,r,m,i)=>(n-i).toNat) ?_ ?_ ?_)
 ·intro vs bs s h;simp only[S77_0]at h;split at h
  all_goals first | (cases h;exact⟨rfl,rfl⟩) | cases h | (split at h<;>first | (rename_i hq;cases h;have hq:=jah hq;subst hq;exact⟨rfl,rfl⟩) | (rename_i hq;cases h;simp only[cnd,jaf,Nat.beq_eq]at hq;obtain⟨rfl,rfl,rfl⟩:=hq;exact⟨rfl,rfl⟩) | cases h)
 ·exact fun k ⟨c,ty,off,n,cap,r,m,i⟩ ⟨c',ty',off',n',cap',r',m',i'⟩ hp h=>by
   simp only[S77_0,jaf]at hp;have hq:=jhd (n:=k) (jk9 hp.1).2.1;simp_all[V77_0,B77_0,jbt,jaw,idsL,ids]
 ·intro⟨c,ty,off,n,cap,r,m,i⟩ jk Z hp hf;rw[r77b_0];delta j4 j5 ak dq dv ax dt bp d8 Fg.K42.kc gv au Fg.K42.ow cq;simp only[S77_0]at hp hf;simp only[jaf,jae]at hp;obtain⟨ho,h1,rfl,h3,h4⟩:=hp;obtain⟨hl,hpl,hat⟩:=jk9 ho;rw[ixV]at hf;apply cond_intro<;>intro h
  ·have h:=jab h;obtain⟨f,hf1,hsz,q1,q2,q3,q4,e1,e2,e3,e4⟩:=hat i.toNat (by omega);have hd:=drop_at hf1;have hi:(i+1).toNat=i.toNat+1:=by omega
   rw[hd,ixF]at hf;rw[q1,q2,q3,q4,e1,e2,e3,e4];refine c_t (jaa (by omega)) (c_t rfl (c_t (jaa hsz) ?_));have hp':pBad ⟨f.k,f.w,f.d,f.s⟩=pBad f:=rfl;rw[hp'];cases hq:pBad f
   ·rw[hq,cond_false]at hf;refine c_f rfl ?_;rw[w64 (n:=i+1) (by omega)];refine⟨(c,ty,off,n,cap,r,n,i+1),rfl,rfl,?_,by simp only;omega,?_⟩
    ·simp only[S77_0,jaf,jae];exact⟨ho,h1,trivial,by omega,by omega⟩
    ·simp only[S77_0,ixV];rw[hi];exact hf
   ·rw[hq,cond_true,show(i== -1)=false by simp;omega]at hf;exact c_t rfl hf
  ·have h:=jac h;obtain rfl:i=n:=by omega
   rw[Int.toNat_natCast,List.drop_eq_nil_of_le (by omega)]at hf;exact hf
def s77n:Ab.Spec:=fun args bs=>match args,bs with
 | [.slice none 0 0,.func (.func 76) ⟨[]⟩ ⟨[]⟩],[none,none]=>some (true,I (-1))
 | _,_=>none
theorem fn77:Fn1 Tryz.prog 120 Tryz.f120:= .m Tryz.func120
theorem v77nb_0(R:Value→Prop):jaz Tryz.prog H1 noL Tryz.f120 [.slice none 0 0,.func (.func 76) ⟨[]⟩ ⟨[]⟩] (jc3 [none,none]) 2 (fun v _ _=>R v)=(bif decide (0<natO 0)then False else R (I (-1))):=by kernel_rfl
theorem k77nb_0(hc:(true)=true):jba Tryz.prog H1 noL Tryz.f120 [.slice none 0 0,.func (.func 76) ⟨[]⟩ ⟨[]⟩] [none,none] 2 (I (-1)):=by
 rw[jba,v77nb_0];rw[jb1];rfl
theorem ok77n:jan Tryz.prog 120 s77n:=by
 refine jbz ok_H1 hmix fn77 jaj fun args bs v hs=> ?_
 simp only[s77n]at hs;split at hs
 ·simp only[Option.some.injEq,Prod.mk.injEq]at hs;obtain⟨hc,rfl⟩:=hs;exact⟨_,2,rfl,rfl,jag,k77nb_0 (by first | rfl | exact hc)⟩
 ·cases hs
def s77w:Ab.Spec:=fun args bs=>match args,bs with
 | [.slice (some ⟨_,off,some 1⟩) n cap,.func (.func 76) ⟨[]⟩ ⟨[]⟩],[some ⟨c,ty,o⟩,none]=>some ((foOK c off n&&decide (n≤1000000)),I (ixV pBad c off n 0))
 | _,_=>none
theorem v77wb_0(c:F)(ty:TypeId)(o:Bool)(off:Nat)(n:Nat)(cap:Nat)(R:Value→Prop):jaz Tryz.prog H1 (oneL 0 S77_0.hQ) Tryz.f120 [.slice (some ⟨0,off,some 1⟩) n cap,.func (.func 76) ⟨[]⟩ ⟨[]⟩] (vw c ty) 2 (fun v _ _=>R v)=(fw (jaw 60 c) true (Fg.K43.S77_0.pre (c,(ty,(off,(n,(cap,((0:Int),(natO n,(0:Int))))))))) (bif Fg.ixV Fg.pBad c off n 0== -(1:Int)then gy c 60 (R (I (-1)))else gy c 60 (R (I (Fg.ixV Fg.pBad c off n 0)))) False):=by kernel_rfl
theorem k77wb_0(c:F)(ty:TypeId)(o:Bool)(off:Nat)(n:Nat)(cap:Nat)(hc:((foOK c off n&&decide (n≤1000000)))=true):jba Tryz.prog H1 (oneL 0 S77_0.hQ) Tryz.f120 [.slice (some ⟨0,off,some 1⟩) n cap,.func (.func 76) ⟨[]⟩ ⟨[]⟩] [some ⟨c,ty,o⟩,none] 2 (I (ixV pBad c off n 0)):=by
 rw[jba,jf1 (o:=o) (jfn hc),v77wb_0 (o:=o)];delta fw gy;rw[jb1];simp only[jaf,jae]at hc;obtain⟨ho,hn⟩:=hc;have hi:jaw 60 c=true:=jhd (jk9 ho).2.1;refine c_t (by simp[hi]) (c_t ?_ ?_)
 ·simp only[S77_0,jaf,jae];exact⟨ho,hn,trivial,by omega,by omega⟩
 ·skip
  apply cond_intro<;>intro h
  ·rw[eq_of_beq h];exact c_t (by simp[hi]) fun _=>rfl
  ·exact c_t (by simp[hi]) fun _=>rfl
theorem ok77w:jan Tryz.prog 120 s77w:=by
 refine jbz ok_H1 hmix fn77 l77_0 fun args bs v hs=> ?_
 simp only[s77w]at hs;split at hs
 ·simp only[Option.some.injEq,Prod.mk.injEq]at hs;obtain⟨hc,rfl⟩:=hs;exact⟨_,2,rfl,rfl,jag,k77wb_0 _ _ _ _ _ _ (by first | rfl | exact hc)⟩
 ·cases hs
def s77:Ab.Spec:=altS s77n s77w
theorem ok77:jan Tryz.prog 120 s77:=pure_alt ok77n ok77w
def H2:Env:=H1.add 120 s77
theorem ok_H2:ja0 Tryz.prog H2:=jak ok_H1 ok77
def s41:Ab.Spec:=fun args bs=>match args,bs with
 | [.slice none 0 0,.func (.func 76) ⟨[]⟩ ⟨[]⟩],[none,none]=>some (true,B false)
 | [.slice (some ⟨_,off,some 1⟩) n cap,.func (.func 76) ⟨[]⟩ ⟨[]⟩],[some ⟨c,ty,o⟩,none]=>some ((foOK c off n&&decide (n≤1000000)),B ((foA c off n).any pBad))
 | _,_=>none
theorem v41b_0(R:Value→Prop):jaz Tryz.prog H2 noL Tryz.f70 [.slice none 0 0,.func (.func 76) ⟨[]⟩ ⟨[]⟩] (jc3 [none,none]) 2 (fun v _ _=>R v)=(R (B (decide (-1≥0)))):=by kernel_rfl
theorem v41b_1(c:F)(ty:TypeId)(o:Bool)(off:Nat)(n:Nat)(cap:Nat)(R:Value→Prop):jaz Tryz.prog H2 noL Tryz.f70 [.slice (some ⟨0,off,some 1⟩) n cap,.func (.func 76) ⟨[]⟩ ⟨[]⟩] (vw c ty) 2 (fun v _ _=>R v)=(bif foOK c off n&&decide (n≤1000000)then R (B (decide (ixV pBad c off n 0≥0)))else False):=by kernel_rfl
theorem k41b_0(hc:(true)=true):jba Tryz.prog H2 noL Tryz.f70 [.slice none 0 0,.func (.func 76) ⟨[]⟩ ⟨[]⟩] [none,none] 2 (B false):=by
 rw[jba,v41b_0];rfl
theorem k41b_1(c:F)(ty:TypeId)(o:Bool)(off:Nat)(n:Nat)(cap:Nat)(hc:((foOK c off n&&decide (n≤1000000)))=true):jba Tryz.prog H2 noL Tryz.f70 [.slice (some ⟨0,off,some 1⟩) n cap,.func (.func 76) ⟨[]⟩ ⟨[]⟩] [some ⟨c,ty,o⟩,none] 2 (B ((foA c off n).any pBad)):=by
 rw[jba,jf1 (o:=o) (jfn hc),v41b_1 (o:=o)];refine c_t hc ?_;rw[←ixV_any]
theorem ok41:jan Tryz.prog 70 s41:=by
 refine jbz ok_H2 hmix (.m Tryz.func70) jaj fun args bs v hs=> ?_
 simp only[s41]at hs;split at hs
 ·simp only[Option.some.injEq,Prod.mk.injEq]at hs;obtain⟨hc,rfl⟩:=hs;exact⟨_,2,rfl,rfl,jag,k41b_0 (by first | rfl | exact hc)⟩
 ·simp only[Option.some.injEq,Prod.mk.injEq]at hs;obtain⟨hc,rfl⟩:=hs;exact⟨_,2,rfl,rfl,jag,k41b_1 _ _ _ _ _ _ (by first | rfl | exact hc)⟩
 ·cases hs
def H3:Env:=H2.add 70 s41
theorem ok_H3:ja0 Tryz.prog H3:=jak ok_H2 ok41
def s12:Ab.Spec:=fun args bs=>match args,bs with
 | [.slice none 0 0],[none]=>some (true,I 0)
 | [.slice (some ⟨_,off,some 1⟩) n cap],[some ⟨c,ty,o⟩]=>some ((foOK c off n&&true),I (bif decide (16<(n:Int)) || (foA c off n).any pBad then 130 else 0))
 | _,_=>none
theorem v12_0(R:Value→Prop):jaz Tryz.prog H3 noL Tryz.f24 [.slice none 0 0] (jc3 [none]) 1 (fun v _ _=>R v)=(br (decide (natO 0>16)) true (decide (natO 0>16) &&true) (R (ak 130)) (R (ak 0))):=by kernel_rfl
theorem v12_1(c:F)(ty:TypeId)(o:Bool)(off:Nat)(n:Nat)(cap:Nat)(R:Value→Prop):jaz Tryz.prog H3 noL Tryz.f24 [.slice (some ⟨0,off,some 1⟩) n cap] (vw c ty) 1 (fun v _ _=>R v)=(br (decide (natO n>16)) (Fg.foOK c off n&&decide (n≤1000000) &&true) (decide (natO n>16) || (Fg.foA c off n).any Fg.pBad) (R (ak 130)) (R (ak 0))):=by kernel_rfl
theorem k12_0(hc:(true)=true):jba Tryz.prog H3 noL Tryz.f24 [.slice none 0 0] [none] 1 (I 0):=by
 rw[jba,v12_0];delta br ak;rw[jb1];rfl
theorem k12_1(c:F)(ty:TypeId)(o:Bool)(off:Nat)(n:Nat)(cap:Nat)(hc:((foOK c off n&&true))=true):jba Tryz.prog H3 noL Tryz.f24 [.slice (some ⟨0,off,some 1⟩) n cap] [some ⟨c,ty,o⟩] 1 (I (bif decide (16<(n:Int)) || (foA c off n).any pBad then 130 else 0)):=by
 rw[jba,jhq (o:=o) (jfn hc),v12_1 (o:=o)];delta br ak;rw[jb1];simp only[jaf,and_true]at hc;rw[hc];refine c_t ?_ (cond_intro (fun h=> ?_) (fun h=> ?_))
 ·by_cases h:(n:Int)>16
  ·rw[jaa h];rfl
  ·simp;omega
 ·rw[show decide (16<(n:Int))=decide ((n:Int)>16)from rfl,h,cond_true]
 ·rw[show decide (16<(n:Int))=decide ((n:Int)>16)from rfl,h,cond_false]
theorem ok12:jan Tryz.prog 24 s12:=by
 refine jbz ok_H3 hmix (.m Tryz.func24) jaj fun args bs v hs=> ?_
 simp only[s12]at hs;split at hs
 ·simp only[Option.some.injEq,Prod.mk.injEq]at hs;obtain⟨hc,rfl⟩:=hs;exact⟨_,1,rfl,rfl,jag,k12_0 (by first | rfl | exact hc)⟩
 ·simp only[Option.some.injEq,Prod.mk.injEq]at hs;obtain⟨hc,rfl⟩:=hs;exact⟨_,1,rfl,rfl,jag,k12_1 _ _ _ _ _ _ (by first | rfl | exact hc)⟩
 ·cases hs
end K43
end Go.Fg
end
noncomputable section
set_option maxHeartbeats 3200000
set_option maxRecDepth 100000
namespace Go.Fi
open Go Go.Ab Go.Proofs Go.Shelf Go.Px Go.Cv Go.Cx Go.Ff Go.Fg Go.Fh
open Go.Fx (Ty Vl)
attribute [local instance 5000] tabsB
def noSt(l:J):J:=l.filter fun c=>decide (c≠42)
def E0:Env:=Env.nil
theorem ok_E0:ja0 Tryz.prog E0:=jav
theorem noSt_cons(c:Int)(l:J):noSt (c::l)=if c=42 then noSt l else c::noSt l:=by
 unfold noSt;rw[List.filter_cons];by_cases h:c=42<;>simp[h]
def V81_0:Y×Y×Rw×Int×Int→F:=fun(s,r,o,L,i)=> [S s,S r,o.v 200,I L,I i]
def B81_0:Y×Y×Rw×Int×Int→O:=fun(s,r,o,L,i)=> [o.b]
def S81_0:LSpecA (Y×Y×Rw×Int×Int) where
 live:=[0,2,3,6,7]
 mid:=[200]
 n:=210
 ap:=[(.tmp 3,200)]
 dec vs bs:=match vs,bs with
  | [.string s,.string r,.slice none 0 0,.int .i64 L,.int .i64 i],[none]=>some (s,r,.nil,L,i)
  | [.string s,.string r,.slice (some ⟨200,0,some 1⟩) m cap,.int .i64 L,.int .i64 i],[some ⟨d,5,true⟩]=>some (s,r,.own d m cap,L,i)
  | _,_=>none
 pre:=fun(s,r,o,L,i)=>o.ok&&decide (0≤i∧i≤s.size∧L=s.size∧s.size≤1000000∧(o.is=true→o.z≠ [])∧(o.z.length:Int)≤i)
 fin:=fun(s,r,o,L,i) Z=>(o.is=false→noSt ((bz s).drop i.toNat)=[]→Z (.exit 0) [S s,S r,.slice none 0 0,I L,I L] [none])∧(∀(d':F)(m' cap':Nat),jc6 d' m' cap'=true→zc d' m'=o.z++noSt ((bz s).drop i.toNat)→zc d' m'≠ []→Z (.exit 0) [S s,S r,(.slice (some ⟨200,0,some 1⟩) m' cap'),I L,I L] [some ⟨d',5,true⟩])
theorem r81_0n(s:Y)(r:Y)(L:Int)(i:Int)(jk:Tmps)(R:Exit→F→O→Prop):(jb6 Tryz.prog E0 noL Tryz.f81.ntmps (jbb Tryz.f81 0) (tl S81_0.live (V81_0 (s,r,.nil,L,i)) jk) (ml S81_0.mid (B81_0 (s,r,.nil,L,i))) S81_0.n fun e t' m' _=>S81_0.out R e t' m')=(gn (au i L) (gv i (al s)) (bif bv s i !=42 then bif gv i (al s)then∀a:Nat,∀b:F,mn R (bv s i) b b (dm L i 200 1 a) a 1 222 (S s) (S r)else False else R .normal (jt s r (d8 L i) ip) [none]) (R (.exit 0) (jt s r [ak L,ak i] ip) [none])):=by kernel_rfl
theorem r81_0o(s:Y)(r:Y)(d:F)(m:Nat)(cap:Nat)(L:Int)(i:Int)(jk:Tmps)(R:Exit→F→O→Prop):(jb6 Tryz.prog E0 noL Tryz.f81.ntmps (jbb Tryz.f81 0) (tl S81_0.live (V81_0 (s,r,.own d m cap,L,i)) jk) (ml S81_0.mid (B81_0 (s,r,.own d m cap,L,i))) S81_0.n fun e t' m' _=>S81_0.out R e t' m')=(ft (au i L) (gv i (al s)) (bw e8 d) (bif bv s i !=42 then bif gv i (al s)then bif f8 d cap m 1 then∀a:Nat,∀b:F,iz (jas [(222,200)] (fv d m++ [.int .u8 (bv s i)]++b) &&true) R [] b [bp (i+1)] a (m+1) (d9 [(222,200)] (fv d m++ [.int .u8 (bv s i)]++b)) (S s) (S r) (dv 200 0 (m+1) a) (ak L)else False else False else cu (jas e8 d&&true&&true) R [d9 e8 d] (S s::S r::dm L i 200 m cap)) (R (.exit 0) (S s::S r::dy L i 200 m cap) [d9 e8 d])):=by kernel_rfl
theorem l81_0:LOKf Tryz.prog (oneL 0 S81_0.hA) Tryz.f81:=by
 refine jcb (h:=S81_0.hA) (by kernel_rfl) (jbu ok_E0 hmix (by kernel_rfl) (jbf _) S81_0 V81_0 B81_0 (fun(s,r,o,L,i)=>(L-i).toNat) ?_ ?_ ?_)
 ·intro vs bs s h;simp only[S81_0]at h;split at h
  all_goals first | (cases h;exact⟨rfl,rfl⟩) | cases h | (split at h<;>first | (rename_i hq;cases h;have hq:=jah hq;subst hq;exact⟨rfl,rfl⟩) | (rename_i hq;cases h;simp only[cnd,jaf,Nat.beq_eq]at hq;obtain⟨rfl,rfl,rfl⟩:=hq;exact⟨rfl,rfl⟩) | cases h)
 ·exact fun⟨s,r,o,L,i⟩ hp=>by
   simp only[S81_0,jaf]at hp;cases o with
   | nil=>simp[V81_0,B81_0,S81_0,jaw,jbt,idsL,ids,Rw.v,Rw.b]
   | own d m cap=>simp[V81_0,B81_0,S81_0,jaw,jbt,idsL,ids,Rw.v,Rw.b,jao (jat.1 hp.1).plain]
 ·intro⟨s,r,o,L,i⟩ jk Z hp hf;simp only[S81_0]at hp hf;simp only[jaf,jae]at hp;obtain⟨hr,h0,hle,hL,hs,his,hzi⟩:=hp;subst hL;have hw:i<s.size→IntKind.i64.wrap (i+1)=i+1:=fun h=>w64 (by omega)
  have hin:i<s.size→decide (0≤i∧i<(s.size:Int))=true:=fun h=>jaa (by omega)
  by_cases hlt:i<s.size
  case neg=>
   have hz:(bz s).drop i.toNat=[]:=jg1 (by omega);have hi:i=s.size:=by omega
   subst hi;rw[hz]at hf;cases o with
   | nil=>
    rw[r81_0n];delta c9 gn jt ip ak bp d8 cu d9 bm bw mn dq dv dm bv gv al au;exact c_f (by simp) (hf.1 rfl rfl)
   | own d m cap=>
    have hr:RowP d m cap:=jat.1 hr;rw[r81_0o];delta c9 ft d9 e8 ak dq dv dy cu bp d8 dm iz bv fv f8 gv al bw au;rw[hr.good,hr.rlb];exact c_f (by simp) (c_t rfl (hf.2 d m cap (jat.2 hr) (by simp[Rw.z,noSt]) (his rfl)))
  rw[jd2 h0 (by omega),noSt_cons]at hf;cases o with
  | nil=>
   rw[r81_0n];delta c9 gn jt ip ak bp d8 cu d9 bm bw mn dq dv dm bv gv al au;rw[hw hlt,hin hlt];refine c_t (by simpa using hlt) (c_t rfl (cond_intro (fun hg=> ?_) (fun hg=> ?_)))
   ·have hg:jai s i.toNat≠42:=by simpa using hg
    rw[if_neg hg]at hf;refine c_t rfl (fun cap tail ht=> ?_);obtain⟨g1,g2⟩:=jfx [jai s i.toNat] (tail:=tail) (cap':=cap) ht;have g1:RowP (.int .u8 (jai s i.toNat)::tail) 1 cap:=g1;have g2:zc (.int .u8 (jai s i.toNat)::tail) 1=[jai s i.toNat]:=g2;rw[g1.good,g1.rlb];refine c_t rfl ⟨(s,r,.own _ 1 cap,(s.size:Int),i+1),rfl,rfl,?_,by simp only;omega,?_⟩
    ·simp only[S81_0,jaf,jae];refine⟨jat.2 g1,by omega,by omega,trivial,hs,?_⟩;simp only[Rw.z,g2];exact⟨fun _=>by simp,by simp;omega⟩
    ·simp only[S81_0];refine⟨fun h=>by(simp[Rw.is]at h),fun d' m' cap' q1 q2 q3=>hf.2 d' m' cap' q1 ?_ q3⟩;rw[q2];simp[Rw.z,g2]
   ·have hg:jai s i.toNat=42:=by simpa using hg
    rw[if_pos hg]at hf;exact⟨(s,r,.nil,(s.size:Int),i+1),rfl,rfl,by simp only[S81_0,jaf,jae];exact⟨hr,by omega,by omega,trivial,hs,his,by omega⟩,by simp only;omega,hf⟩
  | own d m cap=>
   have hr:RowP d m cap:=jat.1 hr;have hzl:=ja6 hr;have hz0:(Rw.own d m cap).z=zc d m:=rfl;rw[hz0]at hf hzi;rw[hzl]at hzi;rw[r81_0o];delta c9 ft d9 e8 ak dq dv dy cu bp d8 dm iz bv fv f8 gv al bw au;rw[hw hlt,hin hlt];refine c_t (by simpa using hlt) (c_t rfl (cond_intro (fun hg=> ?_) (fun hg=> ?_)))
   ·have hg:jai s i.toNat≠42:=by simpa using hg
    rw[if_neg hg]at hf;refine c_t rfl ?_;rw[hr.ask (k:=1) (by omega)];intro cap' tail ht;obtain⟨g1,g2⟩:=hr.app1 (jai s i.toNat) ht;rw[g1.good,g1.rlb];refine c_t rfl ⟨(s,r,.own _ (m+1) cap',(s.size:Int),i+1),rfl,rfl,?_,by simp only;omega,?_⟩
    ·simp only[S81_0,jaf,jae];refine⟨jat.2 g1,by omega,by omega,trivial,hs,?_⟩;simp only[Rw.z,g2];exact⟨fun _=>by simp,by simp;omega⟩
    ·simp only[S81_0];refine⟨fun h=>by(simp[Rw.is]at h),fun d' m' cap' q1 q2 q3=>hf.2 d' m' cap' q1 ?_ q3⟩;rw[q2];simp only[Rw.z,g2];rw[List.append_assoc];rfl
   ·have hg:jai s i.toNat=42:=by simpa using hg
    rw[if_pos hg]at hf;rw[hr.good,hr.rlb];exact c_t rfl ⟨(s,r,.own d m cap,(s.size:Int),i+1),rfl,rfl,by simp only[S81_0,jaf,jae];exact⟨jat.2 hr,by omega,by omega,trivial,hs,his,by rw[hz0,hzl];omega⟩,by simp only;omega,hf⟩
def s81(s:Y):Bool×Value:=(decide (s.size≤1000000),S (szO (noSt (bz s))))
theorem v81(s:Y)(R:Value→Prop):jaz Tryz.prog E0 (oneL 0 S81_0.hA) Tryz.f81 [Enc.enc s] (fun _=>none) 0 (fun v _ _=>R v)=(bif Fi.S81_0.toLSpec.pre (s,(am,(Rw.nil,(al s,(0:Int)))))then(Rw.is Rw.nil=false→(fk s).filter (fun a:Int=>decide (a≠42))=([]:J)→Tmps→R (S ByteArray.empty))∧(∀a:F,∀b:Nat,∀c:Nat,jc6 a b c=true→zc a b=Rw.z Rw.nil++Fi.noSt (fk s)→zc a b≠([]:J)→kp true (jbe a 0 b) a (S (ja8 a 0 b)) R)else False):=by kernel_rfl
theorem ok81:jan Tryz.prog 81 (sp1 s81):=by
 refine jck ok_E0 hmix (.m Tryz.func81) l81_0 jag fun s hc=> ?_
 rw[ja5,v81];delta aq kp fk al am;have hc:(s.size≤1000000):=jab hc
 try dsimp only[s81]
 refine c_t ?_ ⟨fun _ hz _=> ?_,fun d' m' cap' hr hz hne=> ?_⟩
 ·simp only[S81_0,jaf,jae];exact⟨rfl,by omega,by omega,trivial,hc,(fun h=>by cases h),by simp[Rw.z]⟩
 ·have hz:noSt (bz s)=[]:=hz;rw[hz,jdv];rfl
 ·have hr:=jat.1 hr;have hz:zc d' m'=noSt (bz s):=hz;refine c_t (by rw[jbl hr.plain];rfl) fun _=>c_t hr.str.1 ?_
  rw[hr.str.2,hz,jcl]
theorem tl_isB{l:J}(h:IsB l)(c:Int):IsB (tlZ l c):=fun d hd=>h d (by unfold tlZ at hd;exact(List.dropWhile_sublist _).subset hd)
theorem tr_isB{l:J}(h:IsB l)(c:Int):IsB (trZ l c):=fun d hd=>h d (by
 unfold trZ at hd;exact List.mem_reverse.1 ((List.dropWhile_sublist _).subset (List.mem_reverse.1 hd)))
def stP(s:Y):Bool:=decide (trZ (tlZ (bz s) 32) 32≠ []∧trZ (tlZ (noSt (bz s)) 32) 32=[])
theorem stO_ex:∃d:Y→Bool,d=stP:=⟨_,rfl⟩
def stO:Y→Bool:=Classical.choose stO_ex
theorem stO_eq:stO=stP:=Classical.choose_spec stO_ex
def E1:Env:=(Env.nil.add 80 (sp1 Cx.s79)).add 81 (sp1 s81)
theorem ok_E1:ja0 Tryz.prog E1:=jak (jak jav (pureB Cx.ok79)) ok81
def s27(s:Y):Bool×Value:=(decide (s.size≤1000000),B (stO s))
theorem v27(s:Y)(R:Value→Prop):jaz Tryz.prog E1 noL Tryz.f27 [Enc.enc s] (fun _=>none) 0 (fun v _ _=>R v)=(aq (ax s&&cm (!du (szO (trZ (tlZ (bz s) 32) 32)) am) (decide (s.size≤1000000) && (ax (szO (Fi.noSt (bz s))) &&true)) true) (B (!du (szO (trZ (tlZ (bz s) 32) 32)) am&&du (szO (trZ (tlZ (bz (szO (Fi.noSt (bz s)))) 32) 32)) am)) R):=by kernel_rfl
theorem ok27:jan Tryz.prog 27 (sp1 s27):=by
 refine jck ok_E1 hmix (.m Tryz.func27) jaj jag fun s hc=> ?_
 rw[ja5,v27];delta aq du am cm ax;have hc:(s.size≤1000000):=jab hc
 try dsimp only[s27]
 have hl:(noSt (bz s)).length≤(bz s).length:=List.length_filter_le _ _;rw[jam]at hl;have n1:IsB (noSt (bz s)):=fun c hc=>jdb s c (List.mem_filter.1 hc).1
 rw[jce,jce,jco n1,jco (tr_isB (tl_isB (jdb s) _) _),jco (tr_isB (tl_isB n1 _) _),stO_eq];rw[jaa (show s.size≤9223372036854775807 by omega),jaa hc,jaa (show(szO (noSt (bz s))).size≤9223372036854775807 by rw[jb2];omega)];refine c_t (by cases decide (trZ (tlZ (bz s) 32) 32=[]) <;>rfl) ?_;unfold stP;rw[Bool.decide_and,decide_not]
end Go.Fi
end
noncomputable section
set_option maxHeartbeats 3200000
namespace Go.Fi
open Go Go.Ab Go.Proofs Go.Shelf Go.Px Go.Cv Go.Cx Go.Ff Go.Fh
open Go.Fx (Ty Vl ja9)
theorem jfw(c n:Int):(rpt c n).size=n.toNat:=by
 unfold rpt;rw[jb2,jdk,List.length_replicate]
theorem jlt{c:Int}(hc:0≤c∧c<256)(n:Int):bz (rpt c n)=List.replicate n.toNat c:=by
 unfold rpt;have e:repZ [c] n.toNat=List.replicate n.toNat c:=by rw[jdk]
 rw[e];exact jco fun x hx=>by rw[List.eq_of_mem_replicate hx];exact hc
theorem ed_len{f:Fo}{v:Vl}{t:Ty}(hF:t.s.size≤9223372036854775807)(h:jby f=true)(hk:f.k≤4)(hf:fit4 v t=0)(h6:t.k≠6)(hw:f.k≠1∨0<f.w):((edO f v t).size:Int)=wdO f:=by
 have hr:=wd_r h hk;simp only[jby,jaf,jae]at h;obtain⟨⟨r1,r2,r3,r4,r5,r6,r7,r8⟩,_⟩:=h;rw[ji3];unfold edP;by_cases q1:f.k=1
 ·have e:wdO f=f.w:=by rw[jiv,wdP,if_neg (by omega)]
  rw[if_pos q1,if_neg (show¬f.w=0 by omega),ByteArray.size_extract,ByteArray.size_append,jfw,e];omega
 rw[if_neg q1];by_cases q2:f.k=2
 ·rw[if_pos q2];split
  ·rw[jfw];omega
  ·rename_i q;have h0:(toO v t (jgf (wdO f))).2.2.2=0:=by omega
   have hl:((toO v t (jgf (wdO f))).2.1.size:Int)≤wdO f:=by
    rw[jht]at h0 ⊢;have:=to_bsz hf h6 h0;have hm:imin (wdO f) 64≤wdO f:=by unfold imin;split<;>omega
    show((toV v t ⟨4,imin (wdO f) 64,0,false,⟨#[]⟩⟩).2.1.size:Int)≤wdO f;omega
   rw[ByteArray.size_append,jfw];omega
 rw[if_neg q2];by_cases q3:f.k=3
 ·rw[if_pos q3];split
  ·rw[jfw];omega
  split
  ·rw[jfw];omega
  ·rename_i q;rw[ByteArray.size_append,jfw];omega
 rw[if_neg q3];have q4:f.k=4:=by omega
 split
 ·rw[jfw];omega
 ·rename_i q;have h0:(toO v t (jkc f.s)).2.2.2=0:=by omega
  rw[jht]at h0 ⊢;rw[jiv,wdP,if_pos q4];exact to_psz hf h6 h0
theorem jm0{c:Int}(h2:c≠32):∀{l:J},c∈l→c∈tlZ l 32
 | a::r,h=>by
  unfold tlZ;rw[List.dropWhile_cons];split
  ·rename_i q;have q:a=32:=by simpa using q
   rcases List.mem_cons.1 h with e | e
   ·omega
   ·exact jm0 h2 e
  ·exact h
theorem trim_ne{c:Int}{l:J}(h2:c≠32)(h:c∈l):trZ (tlZ l 32) 32≠ []:=by
 refine List.ne_nil_of_mem (a:=c) ?_;unfold trZ;rw[List.mem_reverse];exact jm0 h2 (List.mem_reverse.2 (jm0 h2 h))
theorem st_rpt{n:Int}(hn:0<n):stO (rpt 42 n)=true:=by
 rw[stO_eq];unfold stP;rw[jlt (by omega)]
 have e:noSt (List.replicate n.toNat 42)=[]:=by
  unfold noSt;exact List.filter_eq_nil_iff.2 fun a ha=>by rw[List.eq_of_mem_replicate ha];simp
 rw[e];refine jaa ⟨trim_ne (c:=42) (by decide) ?_,rfl⟩;rw[List.mem_replicate];exact⟨by omega,rfl⟩
end Go.Fi
end
noncomputable section
set_option maxHeartbeats 3200000
namespace Go.Fk
open Go Go.Ab Go.Proofs Go.Shelf Go.Px Go.Cv Go.Cx Go.Ff Go.Fh Go.Fi Go.Fj
open Go.Fx (Ty Vl ja9)
theorem jmn{p:Pc}{t:Ty}{n c:Int}{s:Y}(hb:p.b=false)(h:toV ⟨p.n,p.s⟩ ⟨p.k,p.p,p.q,p.v,p.t⟩ t=(n,s,c,0))(hc:c≠4):tqO p t=(n,s,0):=by
 rw[tqO_eq];unfold toQ;rw[if_neg (by simp[hb]),jht,h,if_neg (by simp[hc])]
theorem jle{p:Int→Bool}:∀{l:J},(∀c∈l,p c=false)→l.dropWhile p=l
 | [],_=>rfl
 | c::r,h=>by rw[List.dropWhile_cons,h c (List.mem_cons_self ..)];rfl
theorem trim_self{l cs:J}(h:∀c∈l,hasZ cs c=false):jap l cs=l:=by
 unfold jap;rw[jle (l:=l.reverse) fun c hc=>h c (List.mem_reverse.1 hc),List.reverse_reverse,jle h]
theorem trm_self{s:Y}(h:∀c∈bz s,c≠32):trm s=s:=by
 unfold trm;rw[trim_self (l:=bz s),jcl,jf3];intro c hc;have:=h c hc;show hasZ [32] c=false;simp[hasZ];omega
theorem ty4{t:Ty}(h:chk4 t=0)(hk:t.k=4):t=⟨4,t.p,0,false,⟨#[]⟩⟩∧0≤t.p∧t.p≤64:=by
 obtain⟨k,p,q,v,s⟩:=t;simp only at hk;subst hk;unfold chk4 at h;have hV:¬ja9 ⟨4,p,q,v,s⟩:=fun x=>by have:=x.1;simp at this
 rw[if_neg hV,if_neg (by simp)]at h;split at h
 ·rename_i g;obtain⟨_,g1,g2,g3,g4,g5⟩:=g;simp only at g1 g2 g3 g4 g5;have:s=⟨#[]⟩:=jg0 g2;subst g1 g3 this;exact⟨rfl,g4,g5⟩
 ·rw[if_neg (by simp),if_neg (by simp)]at h;cases h
theorem ty5{t:Ty}(h:chk4 t=0)(hk:t.k=5):t=⟨5,0,0,false,t.s⟩:=by
 obtain⟨k,p,q,v,s⟩:=t;simp only at hk;subst hk;unfold chk4 at h;have hV:¬ja9 ⟨5,p,q,v,s⟩:=fun x=>by have:=x.1;simp at this
 rw[if_neg hV,if_neg (by simp),if_neg (by simp)]at h;split at h
 ·rename_i g;obtain⟨_,g1,g2,g3,_⟩:=g;simp only at g1 g2 g3;subst g1 g2 g3;rfl
 ·rw[if_neg (by simp)]at h;cases h
theorem ch_fit{s:Y}(h:s.size≤255):fit4 ⟨0,s⟩ ⟨3,s.size,0,false,⟨#[]⟩⟩=0:=by
 refine fit0.2 ⟨?_,?_⟩
 ·unfold chk4;split
  ·rfl
  ·rw[if_pos ⟨rfl,rfl,rfl,by simp only;omega,by simp only;omega⟩]
 ·unfold is4;rw[if_neg (by simp),if_pos rfl];exact jaa ⟨rfl,.inl rfl⟩
theorem to_ch{s:Y}{t:Ty}(h:s.size≤255)(ht:chk4 t=0)(h6:t.k≠6)(hn:(Cx.cuV (.c s) t).2.2.2=none):toV ⟨0,s⟩ ⟨3,s.size,0,false,⟨#[]⟩⟩ t=((Cx.cuV (.c s) t).1,(Cx.cuV (.c s) t).2.1,(Cx.cuV (.c s) t).2.2.1,0):=by
 unfold toV
 have e:jci ⟨0,s⟩ ⟨3,s.size,0,false,⟨#[]⟩⟩= .c s:=by
  unfold jci;rw[if_neg (by simp),if_neg (by simp),if_neg (by simp)]
 rw[if_neg (by simp[ch_fit h]),if_neg (by simp[ht]),if_neg (by simp[h6]),e,if_pos hn]
theorem v_eta{v:Vl}{s:Y}(h0:v.n=0)(hs:v.s=s):v=⟨0,s⟩:=by
 obtain⟨n,x⟩:=v;simp only at h0 hs;subst h0 hs;rfl
theorem back_B{f:Fo}{v:Vl}{t:Ty}(hk:f.k=2)(hf:fit4 v t=0)(h4:t.k=4)(hw:f.w=t.p):
  edO f v t=v.s∧(trm v.s).size≤64∧jca (bz (trm v.s))=true∧rdO f v.s t=(v.n,v.s,0):=by
 obtain⟨hc,hi⟩:=fit0.1 hf;obtain⟨et,p0,p1⟩:=ty4 hc h4;unfold is4 at hi;rw[if_neg (by omega),if_neg (by omega),if_pos h4,jaf]at hi;have hi1:=jab hi.1;have hb:=hi.2;have ew:wdO f=t.p:=by rw[jiv,wdP,if_neg (by omega),hw]
 have eb:jgf (wdO f)=t:=by
  rw[ew]
  conv=>rhs;rw[et]
  unfold jgf;rw[show imin t.p 64=t.p by unfold imin;split<;>omega]
 have hid:=to_id hf
 have htr:trm v.s=v.s:=trm_self fun c hc=>by
  have:=List.all_eq_true.1 hb c hc;have:=jab this;omega
 have hE:edO f v t=v.s:=by
  rw[ji3];unfold edP;rw[if_neg (by omega),if_pos hk,eb,jht,hid,if_neg (by simp),ew,←hi1.2,Int.sub_self];apply jg0;rw[jbr,jlt (by decide)];exact List.append_nil _
 refine⟨hE,by rw[htr];omega,by rw[htr];exact hb,?_⟩;rw[jgx];have e:pcP f v.s=biP v.s:=by unfold pcP;rw[if_neg (by omega),if_pos hk,htr]
 rw[e];refine jmn (c:=0) rfl ?_ (by decide);show toV ⟨0,v.s⟩ ⟨4,v.s.size,0,false,⟨#[]⟩⟩ t=_;rw[hi1.2,←et,←v_eta hi1.1 rfl,hid]
theorem back_A{f:Fo}{v:Vl}{t:Ty}(hk:f.k=1)(hr:jby f=true)(hf:fit4 v t=0)(h3:t.k=3)(hv:t.v=false)(hw:t.p≤f.w)(hp:0<t.p):
  rdO f (edO f v t) t=(v.n,v.s,0):=by
 obtain⟨hc,hi⟩:=fit0.1 hf;simp only[jby,jaf,jae]at hr;obtain⟨⟨_,_,_,r4,_⟩,_⟩:=hr;unfold is4 at hi;rw[if_neg (by omega),if_pos h3]at hi;have hi:=jab hi
 have hs:(v.s.size:Int)=t.p:=by
  rcases hi.2 with h | h
  ·exact h
  ·rw[hv]at h;exact absurd h.1 (by simp)
 have hnv:¬ja9 t:=fun x=>by have:=x.1;omega
 have etx:(txO v t).1=v.s:=by
  rw[jml];unfold txP;have e0:txE v t=0:=by unfold txE;rw[if_neg (by simp[hf]),if_neg (by omega)]
  rw[if_neg (by simp[e0])];unfold txS;rw[if_neg hnv]
 have hE:edO f v t=fiU v.s f.w 32:=by
  rw[ji3];unfold edP;rw[if_pos hk,if_neg (by omega),etx];apply jg0;rw[jb7,jbr,jlt (by decide),jn8 (by decide)];unfold jdi;rw[List.drop_zero,List.take_append,jam,List.take_replicate,show min (f.w.toNat-v.s.size) f.w.toNat=f.w.toNat-v.s.size by omega]
 have hsz:(edO f v t).size=f.w.toNat:=by rw[hE,jlc]
 have hpd:=cu_pad (s:=v.s) (q:=f.w) (t:=t) (by omega) r4 hc (by omega) (by omega) hv
 have hcu:Cx.cuV (.c v.s) t=(0,v.s,0,none):=by
  unfold Cx.cuV;rw[if_neg (by omega),if_pos h3,if_neg (by simp[hv])];show((0:Int),fiU v.s t.p 32,(0:Int),(none:Option Y))=_;rw[jjv _ _ _ hs.symm]
 rw[hcu]at hpd;obtain⟨p1,p2,p3,p4⟩:=hpd;rw[jgx];have e:pcP f (edO f v t)=chP (edO f v t):=by unfold pcP;rw[if_pos hk]
 rw[e];refine jmn (c:=0) rfl ?_ (by decide);show toV ⟨0,edO f v t⟩ ⟨3,(edO f v t).size,0,false,⟨#[]⟩⟩ t=_;rw[to_ch (by omega) hc (by omega) (by rw[hE];exact p4.2 rfl),hE,p1,p2,p3,hi.1]
theorem pT_is{p:Y}(h:pN (bz p)=true):pT p=⟨1,tyP (bz p),pQ (bz p),false,⟨#[]⟩⟩∧tyK (bz p)=1:=by
 have e:tyK (bz p)=1:=by rw[tyK,if_pos (jdh h),if_pos h]
 refine⟨?_,e⟩;unfold pT;rw[e]
theorem back_P{f:Fo}{v:Vl}{t:Ty}(hk:f.k=4)(hf:fit4 v t=0)(h5:t.k=5)(hp:f.s=t.s):
  edO f v t=v.s∧rdO f v.s t=(v.n,v.s,0):=by
 obtain⟨hc,hi⟩:=fit0.1 hf;have et:=ty5 hc h5;have ep:jkc f.s=t:=by rw[hp];exact et.symm
 have hid:=to_id hf
 have hE:edO f v t=v.s:=by
  rw[ji3];unfold edP;rw[if_neg (by omega),if_neg (by omega),if_neg (by omega),ep,jht,hid,if_neg (by simp)]
 refine⟨hE,?_⟩;unfold is4 at hi;rw[if_neg (by omega),if_neg (by omega),if_neg (by omega),if_pos h5,jaf]at hi;have h0:=jab hi.1;have hh:=hi.2;have hsz:v.s.size≤255:=v_size hf (by omega);rw[jgx];have e:pcP f v.s=rpP f v.s:=by unfold pcP;rw[if_neg (by omega),if_neg (by omega),if_neg (by omega)]
 rw[e]
 have key:Cx.cuV (jci v t) t=(v.n,v.s,0,none):=by
  have h:=hid;unfold toV at h;rw[if_neg (by simp[hf]),if_neg (by simp[hc]),if_neg (by omega)]at h;split at h
  ·rename_i hn;simp only[Prod.mk.injEq]at h;obtain⟨a,b,c,_⟩:=h;rw[←a,←b,←c];rw[←hn]
  ·simp only[Prod.mk.injEq]at h;exact absurd h.2.2.1 (by decide)
 unfold rpP;rw[hp];by_cases hN:pN (bz t.s)=true
 ·rw[if_pos hN];rw[ho_rd hN]at hh;have hr:=jab hh;obtain⟨r1,r2,r3⟩:=rd_val (t:=v.s) hN;obtain⟨p1,p2,p3⟩:=pT_v hN;obtain⟨q1,q2⟩:=pT_is hN;refine jmn (c:=0) (by simp[hr]) ?_ (by decide);show toV ⟨(rdV (bz t.s) (bz v.s)).1,⟨#[]⟩⟩ ⟨tyK (bz t.s),tyP (bz t.s),pQ (bz t.s),false,⟨#[]⟩⟩ t=_;rw[q2,←q1]
  have hI:Fx.InB (rdV (bz t.s) (bz v.s)).1 (pT t.s):=by
   have e:Fx.bnd (pT t.s)=tenZ (pD (bz t.s)).toNat:=by
    have ek:tyP (bz t.s)=pD (bz t.s):=by rw[tyP,if_pos (jdh hN),if_pos hN]
    rw[q1];unfold Fx.bnd;show Fx.pw (Fx.base 1) (tyP (bz t.s))=_;rw[ek];rfl
   unfold Fx.InB;rw[e];omega
  have hfit:fit4 ⟨(rdV (bz t.s) (bz v.s)).1,⟨#[]⟩⟩ (pT t.s)=0:=fit0.2 ⟨by unfold chk4;rw[if_pos p1],ar_fit p1 hI⟩;have hk1:(pT t.s).k=1:=by rw[q1]
  have hfo:jci ⟨(rdV (bz t.s) (bz v.s)).1,⟨#[]⟩⟩ (pT t.s)= .w (rdV (bz t.s) (bz v.s)).1 (pT t.s):=by
   unfold jci;rw[if_pos (.inl hk1)]
  have hcu:Cx.cuV (.w (rdV (bz t.s) (bz v.s)).1 (pT t.s)) t=Cx.cuV (jci v t) t:=by
   have hfv:jci v t= .p v.s t.s:=by
    unfold jci;rw[if_neg (by omega),if_neg (by omega),if_pos ⟨h5,hN⟩]
   rw[hfv];unfold Cx.cuV;rw[if_neg (by omega),if_neg (by omega),if_neg (by omega),if_pos hN,if_neg (by omega),if_neg (by omega),if_neg (by omega),if_pos hN];rfl
  unfold toV;rw[if_neg (by simp[hfit]),if_neg (by simp[hc]),if_neg (by omega),hfo,hcu,key,if_pos rfl]
 ·rw[if_neg hN];refine jmn (c:=0) (by simp[hh]) ?_ (by decide);show toV ⟨0,v.s⟩ ⟨3,v.s.size,0,false,⟨#[]⟩⟩ t=_
  have hfv:jci v t= .c v.s:=by
   unfold jci;rw[if_neg (by omega),if_neg (by omega),if_neg (fun q=>hN q.2)]
  rw[hfv]at key;rw[to_ch hsz hc (by omega) (by rw[key]),key]
def cntD(l:J):Int:=(l.filter dig).length
theorem sc_ro2{n q b:Int}(hn: -2147483648≤n∧n≤2147483648)(hq:0≤q∧q≤9)(hb:0≤b∧b≤9):
  (roF (scZ n q).2.1 (scZ n q).2.2 b).2 = true ∧ ja7 (roF (scZ n q).2.1 (scZ n q).2.2 b).1 = true ∧ (roF (scZ n q).2.1 (scZ n q).2.2 b).1.length ≤ 19 ∧ decG (roF (scZ n q).2.1 (scZ n q).2.2 b).1 0 = valF (n.natAbs : Int) q b ∧
   ((scZ n q).1=decide (n<0)∨n=0):=by
 obtain⟨d1,d2⟩:=jjl (m:=(n.natAbs:Int)) (by omega);have d3:=ito_val (m:=(n.natAbs:Int)) (by omega);have d4:=jdl (m:=(n.natAbs:Int)) (by omega);obtain⟨z,e1,e2⟩:=jmm (itoZ (n.natAbs:Int))
 have d5:ja7 (trZ (itoZ (n.natAbs:Int)) 48)=true:=by
  have:=d1;rw[e1,Cv.digs_app,jaf]at this;exact this.1
 have d6:decG (trZ (itoZ (n.natAbs:Int)) 48) 0*10^z=(n.natAbs:Int):=by
  have:=d3;rw[e1,jcs,jd8]at this;exact this
 unfold scZ;split
 ·rename_i h;have h0:(n.natAbs:Int)=0:=by rw[←d6,h];simp[decG]
  obtain⟨r1,r2,r3,r4⟩:=ro_val (l:=[]) (z:=q.toNat) (n:=0) (q:=q) (b:=b) rfl (by simp[decG]) (by simp;omega) hq hb;rw[show q-(q.toNat:Int)=0 by omega]at r1 r2 r3 r4;rw[h0];exact⟨r1,r2,r3,r4,.inr (by omega)⟩
 ·obtain⟨r1,r2,r3,r4⟩:=ro_val (l:=trZ (itoZ (n.natAbs:Int)) 48) (z:=z) (q:=q) (b:=b) d5 d6 (by omega) hq hb;simp only;rw[show q-(((itoZ (n.natAbs:Int)).length:Int)-(trZ (itoZ (n.natAbs:Int)) 48).length)=q-z by omega];exact⟨r1,r2,r3,r4,.inl trivial⟩
theorem num_dec:∀(l:J)(a:Int),numZ l a=decG l a
 | [],_=>rfl
 | c::r,a=>by
  rw[numZ,decG,num_dec r];congr 1;omega
theorem trim_behind{bl m:J}(hbl:∀c∈bl,c=32)(hm:∀c∈m,c≠32)(h0:m≠ []):jap (bl++m) [32]=m:=by
 have hs:∀c:Int,hasZ [32] c=(32==c):=fun c=>by simp[hasZ]
 unfold jap
 have e1:(bl++m).reverse.dropWhile (hasZ [32])=(bl++m).reverse:=by
  rw[List.reverse_append];cases hr:m.reverse with
  | nil=>exact absurd (List.reverse_eq_nil_iff.1 hr) h0
  | cons c r=>
   have hc:c≠32:=hm c (by rw[←List.mem_reverse,hr];exact List.mem_cons_self ..);rw[List.cons_append,List.dropWhile_cons,hs];have:((32:Int)==c)=false:=by simp;omega
   rw[this];rfl
 rw[e1,List.reverse_reverse,List.dropWhile_append_of_pos (fun c hc=>by rw[hs,hbl c hc];rfl)];exact jle fun c hc=>by rw[hs];simp;have:=hm c hc;omega
theorem dig_rng{c:Int}(h:dig c=true):48≤c∧c≤57:=by simpa[dig]using h
theorem jev{l:J}(h:ja7 l=true){c:Int}(hc:c∈l):48≤c∧c≤57:=dig_rng (List.all_eq_true.1 h c hc)
theorem jj5{l:J}(h:ja7 l=true):cntD l=l.length:=by
 unfold cntD;rw[List.filter_eq_self.2 fun c hc=>List.all_eq_true.1 h c hc]
theorem cnt_app(a b:J):cntD (a++b)=cntD a+cntD b:=by
 unfold cntD;rw[List.filter_append,List.length_append];omega
theorem cnt_none{l:J}(h:∀c∈l,dig c=false):cntD l=0:=by
 unfold cntD;rw[List.filter_eq_nil_iff.2 fun c hc=>by rw[h c hc];simp];rfl
theorem pt_cnt{p:J}(h:ja7 p=true)(b:Int):cntD (ptZ p b)=p.length:=by
 unfold ptZ;split
 ·rw[cnt_app,cnt_app,jj5 (digs_take h _),jj5 (digs_drop h _),cnt_none (l:=[46]) (by simp[dig]),List.length_take,List.length_drop];omega
 ·exact jj5 h
theorem pt_mem{p:J}(h:ja7 p=true){b c:Int}(hc:c∈ptZ p b):48≤c∧c≤57∨c=46:=by
 unfold ptZ at hc;split at hc
 ·rcases List.mem_append.1 hc with hc | hc
  ·rcases List.mem_append.1 hc with hc | hc
   ·exact .inl (jev h (List.mem_of_mem_take hc))
   ·exact .inr (by simpa using hc)
  ·exact .inl (jev h (List.mem_of_mem_drop hc))
 ·exact .inl (jev h hc)
theorem pt_head{p:J}(h:ja7 p=true){b:Int}(hb:0≤b)(hl:b+1≤p.length):∃c r,ptZ p b=c::r∧48≤c∧c≤57:=by
 unfold ptZ;split
 ·cases hp:p with
  | nil=>rw[hp]at hl;simp at hl;omega
  | cons c r=>
   rw[hp]at hl;simp only[List.length_cons]at hl ⊢;obtain⟨k,hk⟩:∃k,r.length+1-b.toNat=k+1:=⟨r.length-b.toNat,by omega⟩
   rw[hk,List.take_succ_cons];exact⟨c,_,rfl,jev h (by rw[hp];exact List.mem_cons_self ..)⟩
 ·cases hp:p with
  | nil=>rw[hp]at hl;simp at hl;omega
  | cons c r=>exact⟨c,r,rfl,jev h (by rw[hp];exact List.mem_cons_self ..)⟩
theorem cut_pt{w:Y}{p:J}{b:Int}(h:ja7 p=true)(hb:0≤b)(hl:b+1≤p.length)(hw:bz w=ptZ p b):
  bz (dgs w)=p∧(bif (cuO w).2.2 then((cuO w).2.1.size:Int)else b)=b:=by
 unfold dgs;rw[Fj.cuO_eq,cu1,cu2];simp only;have hs:w.size=(ptZ p b).length:=by rw[←hw,jam]
 by_cases h0:0<b
 ·obtain⟨k,hk⟩:∃k,p.length-b.toNat=k:=⟨_,rfl⟩
  have hk':k≤p.length:=by omega
  have e:ptZ p b=p.take k++46::p.drop k:=by
   unfold ptZ;rw[if_pos h0,hk,List.append_assoc];rfl
  have hi:idxZ (bz w) 46=k:=by
   rw[hw,e,jk7,if_neg (fun q=>by have:=jev h (List.mem_of_mem_take q);omega),if_pos (List.mem_cons_self ..),idxZ,if_pos rfl,List.length_take];omega
  rw[hi,if_pos (by omega),if_pos (by omega),jaa (by omega)]
  have e1:bz (w.extract 0 (k:Int).toNat)=p.take k:=by
   rw[jb7,List.drop_zero,hw,e,Int.toNat_natCast,List.take_append_of_le_length (by rw[List.length_take];omega),List.take_take];congr 1;omega
  have e2:bz (w.extract ((k:Int).toNat+1) w.size)=p.drop k:=by
   rw[jb7,hs,←hw,List.take_length,hw,e,Int.toNat_natCast,List.drop_append,List.length_take];rw[show k+1-min k p.length=1 by omega,List.drop_eq_nil_of_le (by rw[List.length_take];omega)];rfl
  refine⟨by rw[jbr,e1,e2,List.take_append_drop],?_⟩;rw[cond_true,←jam,e2,List.length_drop];omega
 ·have e:ptZ p b=p:=by unfold ptZ;rw[if_neg h0]
  have hi:¬0≤idxZ (bz w) 46:=fun q=>by
   rw[hw,e]at q;have:=jev h ((jet 46 p).2.1 q);omega
  rw[if_neg hi,if_neg hi,jad hi];refine⟨?_,rfl⟩;rw[jbr,hw,e];exact List.append_nil p
theorem to_dec{N n b:Int}{t:Ty}(hc:chk4 t=0)(hk:t.k=1∨t.k=2)(hI:Fx.InB n t)(hb:0≤b∧b≤9)(hq:0≤t.q∧t.q≤b)(hN:N=n*10^ (b-t.q).toNat)(h9: -1000000000<N∧N<1000000000):
  toV ⟨N,⟨#[]⟩⟩ ⟨1,9,b,false,⟨#[]⟩⟩ t=(n,⟨#[]⟩,0,0):=by
 have hV:=jne hc hk;have hU:ja9 ⟨1,9,b,false,⟨#[]⟩⟩:=⟨.inl rfl,by simp only;omega,by unfold Fx.most;rw[if_pos rfl];simp only;omega,hb.1,hb.2,fun q=>by simp at q,rfl,by rw[Go.Lib.toList_data]⟩
 have e9:Fx.bnd ⟨1,9,b,false,⟨#[]⟩⟩=1000000000:=rfl;have hfit:fit4 ⟨N,⟨#[]⟩⟩ ⟨1,9,b,false,⟨#[]⟩⟩=0:=fit0.2 ⟨by unfold chk4;rw[if_pos hU],ar_fit hU (by unfold Fx.InB;rw[e9];exact h9)⟩
 have hfo:jci ⟨N,⟨#[]⟩⟩ ⟨1,9,b,false,⟨#[]⟩⟩= .w N ⟨1,9,b,false,⟨#[]⟩⟩:=by
  unfold jci;rw[if_pos (.inl rfl)]
 have hs:Fx.scl N (t.q-b)=n:=by
  unfold Fx.scl;split
  ·rw[hN,show(b-t.q).toNat=0 by omega,show t.q-b=0 by omega];show n*1*10^ (0:Int).toNat=n;simp
  ·rw[hN,show -(t.q-b)=b-t.q by omega];exact Int.mul_tdiv_cancel n (by have:=p10 (b-t.q).toNat;omega)
 have hcu:Cx.cuV (.w N ⟨1,9,b,false,⟨#[]⟩⟩) t=(n,⟨#[]⟩,0,none):=by
  unfold Cx.cuV;rw[if_pos hk];unfold Cx.cuN numU;simp only;rw[tkU_num hV (by omega) hb,hs];unfold Fx.cutN Fx.cutC;rw[if_pos hI,if_pos hI]
 unfold toV;rw[if_neg (by simp[hfit]),if_neg (by simp[hc]),if_neg (by simp only;omega),hfo,hcu,if_pos rfl]
theorem back_F{f:Fo}{v:Vl}{t:Ty}(hk:f.k=3)(hr:jby f=true)(hf:fit4 v t=0)(ht:t.k=1∧t.q≤f.d∨t.k=2)(hw:f.w≠0)(hst:stO (edO f v t)=false)(hdg:cntD (bz (edO f v t))≤9):
  rfC (edO f v t)∧rdO f (edO f v t) t=(v.n,v.s,0):=by
 obtain⟨hc,hi⟩:=fit0.1 hf;have hlen:=ed_len (f:=f) (v:=v) (t:=t);have hrr:=hr;simp only[jby,jaf,jae]at hr;obtain⟨⟨r1,r2,r3,r4,r5,r6,r7,r8⟩,_⟩:=hr;have hkk:t.k=1∨t.k=2:=by omega
 have hV:=jne hc hkk;unfold is4 at hi;rw[if_pos hkk]at hi
 have hF:Fx.Fit v t:=by
  unfold Fx.fits at hi;rw[if_pos hV]at hi;split at hi
  ·assumption
  ·cases hi
 have hvs:v.s=⟨#[]⟩:=jg0 (by have:=hF.1;rw[ByteArray.toList_eq]at this;show v.s.data.toList.map _=_;rw[this];rfl);have hbr:=Fx.bnd_range hV;have hI:Fx.InB v.n t:=⟨hF.2.1,hF.2.2⟩
 have hq:0≤t.q∧t.q≤f.d:=by
  obtain⟨_,_,_,q1,_,q2,_⟩:=hV;refine⟨q1,?_⟩;rcases ht with h | h
  ·exact h.2
  ·rw[q2 h];exact r5
 have hn: -2147483648≤v.n∧v.n≤2147483648:=by
  have h1:=hI.1;have h2:=hI.2;omega
 obtain⟨s1,s2,s3,s4,s5⟩:=sc_ro2 hn (q:=t.q) (b:=f.d) ⟨hq.1,by omega⟩ ⟨r5,r6⟩;have hnu:nuO v t=(scZ v.n t.q,true):=by rw[jmy,nmU,if_pos hkk]
 have hX:fxO (nuO v t).1.1 (nuO v t).1.2.1 (nuO v t).1.2.2 f.d=(szO (fixF (scZ v.n t.q).1 (roF (scZ v.n t.q).2.1 (scZ v.n t.q).2.2 f.d).1 f.d),true):=by
  rw[hnu,jm6];unfold fxP;simp only[s1,cond_true]
 have hwd:wdO f=f.w:=by rw[jiv,wdP,if_neg (by omega)]
 generalize (roF (scZ v.n t.q).2.1 (scZ v.n t.q).2.2 f.d).1=R at*;generalize (scZ v.n t.q).1=g at*
 obtain⟨m,hE⟩:∃m:Int,edO f v t=rpt 32 m++szO (fixF g R f.d):=by
  have:edO f v t=edP f v t:=by rw[ji3]
  unfold edP at this;rw[if_neg (by omega),if_neg (by omega),if_pos hk,if_neg (by rw[hnu];simp),hX,hwd]at this;split at this
  ·rw[this,st_rpt (by omega)]at hst;cases hst
  ·exact⟨_,this⟩
 obtain⟨p,hpp⟩:∃p,padN R (f.d+1)=p:=⟨_,rfl⟩
 have hp:ja7 p=true:=by
  rw[←hpp,padN,Cv.digs_app,s2,Bool.and_true];exact rep48_digs _
 have hpv:decG p 0=(v.n.natAbs:Int)*10^ (f.d-t.q).toNat:=by
  rw[←hpp,padN,jcs,←rep48,jd8,Int.zero_mul,s4,valF,if_pos hq.2]
 have hpl:f.d+1≤p.length:=by
  rw[←hpp,padN,List.length_append,List.length_replicate];omega
 obtain⟨sg,hsg⟩:∃sg,(if g=true∧R≠ []then [45]else []:J)=sg:=⟨_,rfl⟩
 have hT:fixF g R f.d=sg++ptZ p f.d:=by rw[fixF,hpp,hsg]
 have hTB:=fixF_isB (jj1 s2) g f.d;have hbT:bz (szO (fixF g R f.d))=sg++ptZ p f.d:=by rw[jco hTB,hT]
 have hsgm:∀c∈sg,c=45:=fun c hc=>by
  rw[←hsg]at hc;split at hc
  ·simpa using hc
  ·cases hc
 have hbE:bz (edO f v t)=List.replicate m.toNat 32++(sg++ptZ p f.d):=by rw[hE,jbr,jlt (by decide),hbT]
 have hpn:(p.length:Int)≤9:=by
  rw[hbE,cnt_app,cnt_app,pt_cnt hp,cnt_none (l:=List.replicate m.toNat 32) (fun c hc=>by rw[List.eq_of_mem_replicate hc];rfl),cnt_none (l:=sg) (fun c hc=>by rw[hsgm c hc];rfl)]at hdg;omega
 obtain⟨c0,rs,hh,hc1,hc2⟩:=pt_head hp r5 hpl
 have htr:trm (edO f v t)=szO (fixF g R f.d):=by
  unfold trm;show szO (jap (bz (edO f v t)) [32])=_;rw[hbE,trim_behind (fun c hc=>List.eq_of_mem_replicate hc) (fun c hc=> ?_) (by rw[hh];simp),hT];rcases List.mem_append.1 hc with hc | hc
  ·rw[hsgm c hc];decide
  ·rcases pt_mem hp hc with h | h<;>omega
 have hsz:(edO f v t).size≤255:=by
  have:=hlen (by
   have:=hV.2.2.2.2.2.2.2;rw[show t.s=⟨#[]⟩from jg0 (by rw[ByteArray.toList_eq]at this;show t.s.data.toList.map _=_;rw[this];rfl)];decide) hrr (by omega) hf (by omega) (.inl (by omega))
  omega
 obtain⟨u,hu⟩:∃u,szO (fixF g R f.d)=u:=⟨_,rfl⟩
 rw[hu]at hbT htr
 have hus:bz (usg u)=ptZ p f.d∧((jai u 0==45)=true↔sg≠ []):=by
  have hb0:jai u 0=(sg++ptZ p f.d).getD 0 0:=by rw[jek,hbT]
  cases hs:sg with
  | nil=>
   rw[hs,List.nil_append,hh]at hb0;have hb0:jai u 0=c0:=hb0;have n1:(jai u 0==45)=false:=by rw[hb0];simp;omega
   have n2:(jai u 0==43)=false:=by rw[hb0];simp;omega
   refine⟨?_,by rw[n1];simp⟩;unfold usg;rw[n1,n2];rw[hs,List.nil_append]at hbT;exact hbT
  | cons c r=>
   have hc:c=45:=hsgm c (by rw[hs];exact List.mem_cons_self ..)
   have hr0:r=[]:=by
    rw[←hsg]at hs;split at hs
    ·cases hs;rfl
    ·cases hs
   rw[hs,hc,hr0]at hb0;have hb0:jai u 0=45:=hb0;have n1:(jai u 0==45)=true:=by rw[hb0];rfl
   refine⟨?_,by rw[n1];simp⟩;unfold usg;rw[n1];show bz (u.extract 1 u.size)=_;rw[jb7,←jam,List.take_length,hbT,hs,hr0];rfl
 obtain⟨hus,hneg⟩:=hus;obtain⟨hd,hq'⟩:=cut_pt hp r5 hpl hus;have hds:(dgs (usg u)).size=p.length:=by rw[←jam,hd]
 have hdv:dval p=(v.n.natAbs:Int)*10^ (f.d-t.q).toNat:=by
  rw[←hpv];exact num_dec p 0
 have hdr:=jc8 p hp
 have h10:tenZ p.length≤1000000000:=by
  have:∀k:Nat,k≤9→tenZ k≤1000000000:=by decide
  exact this _ (by omega)
 refine⟨⟨by omega,by rw[htr,←jam,hbT,hh];simp,by rw[htr,hds];omega,by rw[htr,hds];omega,by rw[htr,hd];exact hp⟩,?_⟩;rw[jgx];have e:pcP f (edO f v t)=rfP f (edO f v t):=by unfold pcP;rw[if_neg (by omega),if_neg (by omega),if_pos hk]
 rw[e];unfold rfP;rw[htr,hd,hq'];have hP:=p10 (f.d-t.q).toNat
 have hN:(bif jai u 0==45 then -dval p else dval p)=v.n*10^ (f.d-t.q).toNat:=by
  rw[hdv];cases hx:(jai u 0==45)with
  | true=>
   have h1:=hneg.1 hx
   have hg:g=true:=by
    rw[←hsg]at h1;split at h1
    ·rename_i q;exact q.1
    ·exact absurd rfl h1
   rw[cond_true];rcases s5 with h | h
   ·have:v.n<0:=jab (h▸hg);rw[←Int.neg_mul];congr 1;omega
   ·rw[h];simp
  | false=>
   have h1:¬sg≠ []:=fun q=>by rw[hneg.2 q]at hx;cases hx
   rw[cond_false];rcases s5 with h | h
   ·by_cases hn0:v.n<0
    ·exfalso;have hg:g=true:=by rw[h];exact jaa hn0
     have hR:R≠ []:=by
      rintro rfl;rw[valF,if_pos hq.2]at s4;have:(0:Int)<(v.n.natAbs:Int)*10^ (f.d-t.q).toNat:=Int.mul_pos (by omega) hP;rw[←s4]at this;exact absurd this (by decide)
     rw[←hsg,if_pos ⟨hg,hR⟩]at h1;exact h1 (by simp)
    ·congr 1;omega
   ·rw[h];simp
 refine jmn (c:=0) rfl ?_ (by decide);show toV ⟨bif jai u 0==45 then -dval p else dval p,⟨#[]⟩⟩ ⟨1,9,f.d,false,⟨#[]⟩⟩ t=_;rw[to_dec hc hkk hI ⟨r5,r6⟩ hq hN (by cases(jai u 0==45) <;>simp only[cond_true,cond_false] <;>omega),hvs]
end Go.Fk
end
noncomputable section
set_option maxHeartbeats 3200000
set_option maxRecDepth 100000
namespace Go.Fg
open Go Go.Ab Go.Proofs Go.Shelf Go.Px Go.Cv Go.Cx Go.Ff
open Go.Fx (Ty Vl)
attribute [local instance 5000] tabsB
namespace K71
end K71
attribute [local instance 5000] tabsB
theorem tl_inj{a b:Y}(h:a.toList=b.toList):a=b:=by
 rw[Go.Lib.toList_data,Go.Lib.toList_data]at h;exact ByteArray.ext (Array.ext' h)
attribute [local instance 5000] tabsB
inductive RwI where
 | nil
 | own (d:F) (m cap:Nat)
def RwI.v(q:Nat):RwI→Value
 | .nil=> .slice none 0 0
 | .own _ m cap=> .slice (some ⟨q,0,some 1⟩) m cap
attribute [local instance 5000] tabsB
end Go.Fg
end
noncomputable section
set_option maxHeartbeats 3200000
set_option maxRecDepth 100000
namespace Go.Fg
open Go Go.Ab Go.Proofs Go.Shelf Go.Px Go.Cv Go.Cx Go.Ff
attribute [local instance 5000] tabsB
end Go.Fg
end
noncomputable section
set_option maxHeartbeats 3200000
set_option maxRecDepth 100000
namespace Go.Fg
open Go Go.Ab Go.Proofs Go.Shelf Go.Px Go.Cv Go.Cx Go.Ff
open Go.Fx (Ty Vl)
attribute [local instance 5000] tabsB
section
variable {P : Program} {G : Env} {L : Nat → Option jb8} {f : FuncId} {fn : Func}
end
end Go.Fg
end
noncomputable section
set_option maxHeartbeats 3200000
set_option maxRecDepth 100000
namespace Go.Fg
open Go Go.Ab Go.Proofs Go.Shelf Go.Px Go.Cv Go.Cx Go.Ff
attribute [local instance 5000] tabsB
end Go.Fg
end
noncomputable section
set_option maxHeartbeats 3200000
set_option maxRecDepth 100000
namespace Go.Fl
open Go Go.Ab Go.Proofs Go.Shelf Go.Px Go.Cv Go.Cx Go.Ff Go.Fg Go.Fh
open Go.Fx (Ty Vl)
attribute [local instance 5000] tabsB
def wdE(f:Fo):Int×Int:=if jby f=true∧f.k≤4 then(wdO f,0)else(0,130)
theorem weO_ex:∃d:Fo→Int×Int,d=wdE:=⟨_,rfl⟩
def weO:Fo→Int×Int:=Classical.choose weO_ex
theorem jmj:weO=wdE:=Classical.choose_spec weO_ex
def A3:Env:=(Env.nil.add 78 (sp1 Ff.s37)).add 90 (sp1 Fh.s62u)
theorem ok_A3:ja0 Tryz.prog A3:=jak (jak jav Ff.ok37) Fh.ok62u
def s31(f:Fo):Bool×Value:=(decide (f.s.size≤9223372036854775807),.tuple ⟨[I (weO f).1,I (weO f).2]⟩)
theorem v31(f:Fo)(R:Value→Prop):jaz Tryz.prog A3 noL Tryz.f31 [Enc.enc f] (fun _=>none) 0 (fun v _ _=>R v)=(dt (j9 f (Ff.Fo.k f) !=0) (Ff.Fo.s f) (co [ak 0,I (j9 f (Ff.Fo.k f))] R) (aq (ax (Ff.Fo.s f)) (az [I (Fh.wdO f),ak 0]) R)):=by kernel_rfl
theorem ok31:jan Tryz.prog 31 (sp1 s31):=by
 refine jck ok_A3 hmix (.m Tryz.func31) jaj jag fun f hc=> ?_
 rw[ja5,v31];delta ax dt aq az ak co j9;have hc:(f.s.size≤9223372036854775807):=jab hc
 try dsimp only[s31]
 refine c_t (jaa hc) (cond_intro (fun h=> ?_) (fun h=>c_t (jaa hc) ?_))
 ·by_cases q:jby f=true∧f.k≤4
  ·rw[if_pos q]at h;cases h
  ·rw[if_neg q,jmj,wdE,if_neg q]
 ·by_cases q:jby f=true∧f.k≤4
  ·rw[jmj,wdE,if_pos q]
  ·rw[if_neg q]at h;cases h
end Go.Fl
end
noncomputable section
set_option maxHeartbeats 3200000
set_option maxRecDepth 100000
namespace Go.Fk
open Go Go.Ab Go.Proofs Go.Shelf Go.Px Go.Cv Go.Cx Go.Ff Go.Fh Go.Fi Go.Fj
open Go.Fx (Ty Vl)
attribute [local instance 5000] tabsB
def X0:Env:=Env.nil
structure CdIs (s:Y)(i k r:Int):Prop where
 eq:k+cntD ((bz s).drop i.toNat)=r
theorem ok_X0:ja0 Tryz.prog X0:=jav
def s29(v:Vl):Bool×Value:=(true,B (decide ((v.s.size:Int)≤600)))
theorem v29(v:Vl)(R:Value→Prop):jaz Tryz.prog X0 noL Tryz.f29 [Enc.enc v] (fun _=>none) 0 (fun v _ _=>R v)=(R (B (decide ((v.s.size:Int)≤600)))):=by kernel_rfl
theorem ok29:jan Tryz.prog 29 (sp1 s29):=by
 refine jck ok_X0 hmix (.m Tryz.func29) jaj jag fun v hc=> ?_
 rw[ja5,v29]
 try dsimp only[s29]
def hoP(f:Fo)(t:Ty):Bool:=bif f.k==3 then(t.k==1&&decide (f.d≥t.q)) || t.k==2 else bif f.k==1 then t.k==3&& (!t.v&& (decide (f.w≥t.p) &&decide (t.p>0)))else bif f.k==2 then t.k==4&&f.w==t.p else bif f.k==4 then t.k==5&&f.s.toList==t.s.toList else false
theorem hoO_ex:∃d:Fo→Ty→Bool,d=hoP:=⟨_,rfl⟩
def hoO:Fo→Ty→Bool:=Classical.choose hoO_ex
theorem hoO_eq:hoO=hoP:=Classical.choose_spec hoO_ex
def s30(f:Fo)(t:Ty):Bool×Value:=(true,B (hoO f t))
theorem v30(f:Fo)(t:Ty)(R:Value→Prop):jaz Tryz.prog X0 noL Tryz.f30 [Enc.enc f,Enc.enc t] (fun _=>none) 0 (fun v _ _=>R v)=(bif Ff.Fo.k f==3 then aq (cm (cl t 1) (gz (Ff.Fo.d f) (Fx.Ty.q t)) true) (B (cm (cl t 1) (decide (Ff.Fo.d f≥Fx.Ty.q t) || cl t 2) (cl t 2))) R else bif Ff.Fo.k f==1 then aq (cm (cl t 3) (bif !Fx.Ty.v t then gz (Ff.Fo.w f) (Fx.Ty.p t)else true) true) (B (cl t 3&& (!Fx.Ty.v t&& (decide (Ff.Fo.w f≥Fx.Ty.p t) &&decide (Fx.Ty.p t>0))))) R else bif Ff.Fo.k f==2 then aq (cl t 4 || true) (B (cl t 4&&Ff.Fo.w f==Fx.Ty.p t)) R else bif Ff.Fo.k f==4 then aq (cl t 5 || true) (B (cl t 5&&du (Ff.Fo.s f) (Fx.Ty.s t))) R else R (B false)):=by kernel_rfl
theorem ok30:jan Tryz.prog 30 (sp2 s30):=by
 refine jdg ok_X0 hmix (.m Tryz.func30) jaj jag fun f t hc=> ?_
 rw[ja5,v30];delta aq du cl cm f9 gz
 try dsimp only[s30]
 rw[hoO_eq];unfold hoP;refine cond_intro (fun h=> ?_) (fun h=>cond_intro (fun h1=> ?_) (fun h1=>cond_intro (fun h2=> ?_) (fun h2=>cond_intro (fun h4=> ?_) (fun h4=> ?_))))
 ·rw[h];refine c_t (by cases t.k==1<;>simp) ?_;cases t.k==1<;>rfl
 ·rw[h,h1];refine c_t (by cases t.k==3<;>cases t.v<;>simp) rfl
 ·rw[h,h1,h2];exact c_t (by simp) rfl
 ·rw[h,h1,h2,h4];exact c_t (by simp) rfl
 ·rw[h,h1,h2,h4];rfl
def V32_0:Y×Int×Int×Int×Int→F:=fun(s,r,k,z,i)=> [.string s,I r,I k,I z,I i]
def B32_0:Y×Int×Int×Int×Int→O:=fun _=> []
def S32_0:LSpec (Y×Int×Int×Int×Int) where
 live:=[0,2,3,6,7]
 mid:=[]
 n:=60
 dec vs bs:=match vs,bs with | [.string s,.int .i64 r,.int .i64 k,.int .i64 z,.int .i64 i],[]=>some (s,r,k,z,i) | _,_=>none
 pre:=fun(s,r,k,z,i)=>decide (s.size≤1000000∧z=s.size∧0≤i∧i≤z∧0≤k∧k≤i)
 fin:=fun(s,r,k,z,i) Z=>∀k':Int,CdIs s i k k'→Z (.exit 0) [.string s,I r,I k',I z,I z] []
theorem r32_0(s:Y)(r:Int)(k:Int)(z:Int)(i:Int)(jk:Tmps)(R:Exit→F→O→Prop):(jb6 Tryz.prog X0 noL Tryz.f32.ntmps (jbb Tryz.f32 0) (tl S32_0.live (V32_0 (s,r,k,z,i)) jk) (ml S32_0.mid (B32_0 (s,r,k,z,i))) S32_0.n fun e t' m' _=>R e (List.map t' S32_0.live) (List.map m' S32_0.mid))=(gn (au i z) (gv i (al s) &&cm (decide (bv s i≥48)) (gv i (al s) &&true) true) (bif gp (bv s i) 48 57 then R .normal (S s::ak r::bp (k+1)::d8 z i) []else R .normal (S s::ak r::ak k::d8 z i) []) (R (.exit 0) [S s,ak r,ak k,ak z,ak i] [])):=by kernel_rfl
theorem l32_0:LOKf Tryz.prog (oneL 0 S32_0.h) Tryz.f32:=by
 refine jcb (h:=S32_0.h) (by kernel_rfl) (jcq ok_X0 hmix (by kernel_rfl) (jbf _) S32_0 V32_0 B32_0 (fun(s,r,k,z,i)=>(z-i).toNat) ?_ ?_ ?_)
 ·intro vs bs s h;simp only[S32_0]at h;split at h
  all_goals first | (cases h;exact⟨rfl,rfl⟩) | cases h | (split at h<;>first | (rename_i hq;cases h;have hq:=jah hq;subst hq;exact⟨rfl,rfl⟩) | (rename_i hq;cases h;simp only[cnd,jaf,Nat.beq_eq]at hq;obtain⟨rfl,rfl,rfl⟩:=hq;exact⟨rfl,rfl⟩) | cases h)
 ·exact fun _ _ _ h=>h
 ·intro⟨s,r,k,z,i⟩ jk Z hp hf;rw[r32_0];delta c9 gn ak bp d8 im f9 gp bv cm gv al au;simp only[S32_0]at hp hf;have hp:=jab hp;obtain⟨h1,h2,h3,h4,h5,h6⟩:=hp;apply cond_intro<;>intro h
  ·have h:=jab h;have hd:=jd2 (s:=s) h3 (by omega)
   have ec:cntD ((bz s).drop i.toNat)=(bif dig (jai s i.toNat)then 1 else 0)+cntD ((bz s).drop (i+1).toNat):=by
    rw[hd];show cntD ([jai s i.toNat]++_)=_;rw[cnt_app];congr 1;unfold cntD;cases hx:dig (jai s i.toNat)
    ·rw[List.filter_cons_of_neg (by simp[hx])];rfl
    ·rw[List.filter_cons_of_pos hx];rfl
   have ed:(decide (jai s i.toNat≥48) &&decide (jai s i.toNat≤57))=dig (jai s i.toNat):=by
    rw[dig,Bool.eq_iff_iff];simp
   rw[ed];refine c_t (by rw[jaa (show 0≤i∧i<(s.size:Int)by omega)];simp) (cond_intro (fun g=> ?_) (fun g=> ?_))
   ·rw[w64 (n:=k+1) (by omega),w64 (n:=i+1) (by omega)];refine⟨(s,r,k+1,z,i+1),rfl,rfl,jaa (by omega),by simp only;omega,fun k' hk=>hf k' ⟨?_⟩⟩;rw[ec,g,←hk.eq,cond_true];omega
   ·rw[w64 (n:=i+1) (by omega)];refine⟨(s,r,k,z,i+1),rfl,rfl,jaa (by omega),by simp only;omega,fun k' hk=>hf k' ⟨?_⟩⟩;rw[ec,g,←hk.eq,cond_false];omega
  ·have h:=jac h;have hi:i=z:=by omega
   have:=hf k ⟨by rw[List.drop_eq_nil_of_le (by rw[jam];omega)];show k+0=k;omega⟩;rw[hi];exact this
def s32(s:Y):Bool×Value:=(decide (s.size≤1000000),I (cntD (bz s)))
theorem v32(s:Y)(R:Value→Prop):jaz Tryz.prog X0 (oneL 0 S32_0.h) Tryz.f32 [Enc.enc s] (fun _=>none) 0 (fun v _ _=>R v)=(bif Fk.S32_0.pre (s,((0:Int),((0:Int),(al s,(0:Int)))))then∀a:Int,Fk.CdIs s 0 0 a→Tmps→R (ak a)else False):=by kernel_rfl
theorem ok32:jan Tryz.prog 32 (sp1 s32):=by
 refine jck ok_X0 hmix (.m Tryz.func32) l32_0 jag fun s hc=> ?_
 rw[ja5,v32];delta ak al;have hc:(s.size≤1000000):=jab hc
 try dsimp only[s32]
 refine c_t (jaa ⟨hc,rfl,by omega,by omega,by omega,by omega⟩) fun k' hk=>fun _=> ?_
 rw[←hk.eq,Int.toNat_zero,List.drop_zero,Int.zero_add]
theorem s33_imp{f:Fo}{s:Y}{t:Ty}(h:rdD f s t):f.k=1∨f.k=2∨f.k=3∨f.k=4:=by
 rcases h.1.2.2.2 with h | h | h | h
 ·exact .inl h
 ·exact .inr (.inl h.1)
 ·exact .inr (.inr (.inl h.1))
 ·exact .inr (.inr (.inr h))
def s33s(f:Fo)(s:Y)(t:Ty):Bool×Value:=(decide (rdD f s t),.tuple ⟨[.agg ⟨[I (rdO f s t).1,S (rdO f s t).2.1]⟩,I (rdO f s t).2.2,I 0]⟩)
theorem ok33s:jan Tryz.prog 33 (sp3 s33s):=
 ⟨ok33.1, fun args v N w0 lk ι w hr hs hv => ok33.2 args v N w0 lk ι w hr (by
  unfold sp3 at hs;split at hs
  ·rename_i a b c;split at hs
   ·rename_i f s t ha hb hc;have ha:=Enc.dec_some ha;have hb:=Enc.dec_some hb;have hc:=Enc.dec_some hc;subst ha hb hc;simp only[s33s,Option.some.injEq,Prod.mk.injEq]at hs;obtain⟨h1,rfl⟩:=hs;have hk:=s33_imp (jab h1);obtain⟨k,w',d,p⟩:=f;obtain⟨tk,tp,tq,tv,ts⟩:=t;simp only at hk;rcases hk with rfl | rfl | rfl | rfl
    all_goals exact congrArg some (Prod.ext h1 rfl)
   ·cases hs
  ·cases hs) hv⟩
end Go.Fk
end
noncomputable section
set_option maxHeartbeats 3200000
set_option maxRecDepth 100000
namespace Go.Fi
open Go Go.Ab Go.Proofs Go.Shelf Go.Px Go.Cv Go.Cx Go.Ff Go.Fg Go.Fh
open Go.Fx (Ty Vl)
attribute [local instance 5000] tabsB
def c28(v:Vl)(t:Ty):Prop:=c75 v t∧fit4 v t=0
instance (v:Vl)(t:Ty):Decidable (c28 v t):=by unfold c28;infer_instance
end Go.Fi
end
noncomputable section
namespace Go.Cs
open Go Go.Ab Go.Proofs Go.Shelf Go.Px Go.Cx Go.RowKit
class MaxL where
 mx:Int
variable [MaxL]
def rowsC:Nat→Option F:=fun b=>match Nat.beq b 1 with
 | true=>some [.int .i64 MaxL.mx]
 | false=>jme b
/-- The tables; lengths and characters are computed. -/
instance tabsC:Tabs where
 row:=rowsC
 plain:=fun b r h=>by
  unfold rowsC at h;split at h
  ·cases h;rfl
  ·exact tabs.plain b r h
 conc:=true
 wide:=true
theorem rowsC_of{b:Nat}{r:F}(h:jme b=some r):rowsC b=some r:=by
 unfold rowsC;split
 ·rename_i hb;obtain rfl:=jah hb;cases h
 ·exact h
theorem tabsIn_T{N:Nat}{w:World}(h: @TabsIn tabsC N w): @TabsIn tabs N w:=fun b r hr=>h b r (rowsC_of hr)
theorem tabsIn_B{N:Nat}{w:World}(h: @TabsIn tabsC N w): @TabsIn Ff.tabsB N w:=fun b r hr=>h b r (rowsC_of hr)
theorem RelM.toT{N:Nat}{w0:World}{m:Lk}{ι:Nm}{w:World}(h: @RelM tabsC N w0 m ι w): @RelM tabs N w0 m ι w:=
 @RelM.mk tabs N w0 m ι w h.below ⟨h.base.1,tabsIn_T h.base.2⟩ h.blk h.view h.inj
theorem RelM.toB{N:Nat}{w0:World}{m:Lk}{ι:Nm}{w:World}(h: @RelM tabsC N w0 m ι w): @RelM Ff.tabsB N w0 m ι w:=
 @RelM.mk Ff.tabsB N w0 m ι w h.below ⟨h.base.1,tabsIn_B h.base.2⟩ h.blk h.view h.inj
theorem RelM.toC{N:Nat}{w0:World}{m:Lk}{ι:Nm}{w:World}(hb: @TabsIn tabsC N w0)(h: @RelM tabs N w0 m ι w): @RelM tabsC N w0 m ι w:=
 @RelM.mk tabsC N w0 m ι w (@RelM.below tabs N w0 m ι w h) ⟨(@RelM.base tabs N w0 m ι w h).1,hb⟩ (@RelM.blk tabs N w0 m ι w h) (@RelM.view tabs N w0 m ι w h) (@RelM.inj tabs N w0 m ι w h)
theorem pureC{f:FuncId}{s:Ab.Spec}(h: @jan tabs Tryz.prog f s): @jan tabsC Tryz.prog f s:=
 ⟨h.1,fun args v N w0 lk ι w hr hs hv=>h.2 args v N w0 lk ι w (RelM.toT hr) hs hv⟩
theorem pureCB{f:FuncId}{s:Ab.Spec}(h: @jan Ff.tabsB Tryz.prog f s): @jan tabsC Tryz.prog f s:=
 ⟨h.1,fun args v N w0 lk ι w hr hs hv=>h.2 args v N w0 lk ι w (RelM.toB hr) hs hv⟩
theorem jjf{f:FuncId}{s:Ab.Spec}(h:jan Tryz.prog f s){l:List (F×Value)}(hl:∀a v,(a,v)∈l→ ∀bs,s a bs=some (true,v)):jan Tryz.prog f (memo l):=
 ⟨h.1,fun args v N w0 lk ι w hr hs hv=>h.2 args v N w0 lk ι w hr (hl _ _ (jga hs).2 _) hv⟩
def s154(s t:Y):Bool×Value:=(oneB t&&asc (bz t),.string (sz (tlZ (bz s) ((bz t).getD 0 0))))
theorem ok154:jan Tryz.prog 110 (sp2 s154):=by
 have e:s154=Cx.s154:=by funext s t;simp only[s154,Cx.s154,jcl]
 rw[e];exact pureC Cx.ok154
def s131(s t:Y):Bool×Value:=(decide (s.size≤9223372036854775807) && (oneB t&&asc (bz t)),.string (sz (trZ (bz s) ((bz t).getD 0 0))))
theorem ok131:jan Tryz.prog 289 (sp2 s131):=by
 have e:s131=Cx.s131:=by funext s t;simp only[s131,Cx.s131,jcl]
 rw[e];exact pureC Cx.ok131
def s55(s t:Y):Bool×Value:=(decide (s.size≤9223372036854775807) && (decide (t.size≤1000) &&asc (bz t)),.string (sz (jap (bz s) (bz t))))
theorem ok55:jan Tryz.prog 124 (sp2 s55):=by
 have e:s55=Cx.s55:=by funext s t;simp only[s55,Cx.s55,jcl]
 rw[e];exact pureC Cx.ok55
def s30(s:Y)(n:Int):Bool×Value:=(decide (0≤n∧n≤1000∧s.size≤1000),.string (sz (repZ (bz s) n.toNat)))
theorem ok30:jan Tryz.prog 114 (sp2 s30):=by
 have e:s30=Cx.s30:=by funext s n;simp only[s30,Cx.s30,jcl]
 rw[e];exact pureC Cx.ok30
theorem dec125:Lib.decDigits 125=[49,50,53]:=by
 rw[Lib.decDigits,dif_neg (by decide),Lib.decDigits_two (by decide) (by decide)];rfl
theorem dec150:Lib.decDigits 150=[49,53,48]:=by
 rw[Lib.decDigits,dif_neg (by decide),Lib.decDigits_two (by decide) (by decide)];rfl
theorem dec123:Lib.decDigits 123=[49,50,51]:=by
 rw[Lib.decDigits,dif_neg (by decide),Lib.decDigits_two (by decide) (by decide)];rfl
theorem dec1234:Lib.decDigits 1234=[49,50,51,52]:=by
 rw[Lib.decDigits,dif_neg (by decide),Lib.decDigits,dif_neg (by decide),Lib.decDigits_two (by decide) (by decide)];rfl
theorem dec5:Lib.decDigits 5=[53]:=by
 rw[Lib.decDigits,dif_pos (by decide)];rfl
theorem ito{n:Nat}{l:Yb}(h:Lib.decDigits n=l):Cx.s29 (n:Int)=(decide (-9223372036854775808≤(n:Int)∧(n:Int)≤9223372036854775807),.string ⟨l.toArray⟩):=by
 rw[Cx.s29,jcl,itoZ,Lib.itoa_nonneg,h,jg2]
theorem fmt{n:Nat}{l:Yb}(h:Lib.decDigits n=l):Px.s87 ⟨(n:Int)⟩ 10=(decide (0≤(n:Int)∧(n:Int)<18446744073709551616) &&jnq 10,.string ⟨l.toArray⟩):=by
 show(_,Value.string (sz (zl (Lib.decDigits (n:Int).toNat))))=_;rw[Int.toNat_natCast,h,jg2]
def m29:List (F×Value):=[([.int .i64 125],.string ⟨#[49,50,53]⟩),([.int .i64 150],.string ⟨#[49,53,48]⟩),([.int .i64 5],.string ⟨#[53]⟩),([.int .i64 1234],.string ⟨#[49,50,51,52]⟩)]
theorem jh2{α:Type}{p:α→Prop}:∀{l:List α},(l.foldr (fun a q=>p a∧q) True)→ ∀a∈l,p a
 | _::_,h,_,ha=>by
  rcases List.mem_cons.1 ha with rfl | ha
  ·exact h.1
  ·exact jh2 h.2 _ ha
theorem pk29:jan Tryz.prog 130 (memo m29):=jjf (pureC Cx.ok29) fun a v h bs=>by
 have:=jh2 (p:=fun x:F×Value=>sp1 Cx.s29 x.1 bs=some (true,x.2)) (l:=m29) ⟨congrArg some (ito dec125),congrArg some (ito dec150),congrArg some (ito dec5),congrArg some (ito dec1234),trivial⟩ _ h;exact this
def m81:List (F×Value):=[([.int .u64 123,.int .i64 10],.string ⟨#[49,50,51]⟩)]
theorem pk81:jan Tryz.prog 84 (memo m81):=jjf (pureC Px.ok87) fun a v h bs=>by
 have:=jh2 (p:=fun x:F×Value=>sp2 Px.s87 x.1 bs=some (true,x.2)) (l:=m81) ⟨congrArg some (fmt dec123),trivial⟩ _ h;exact this
def m180:List (F×Value):=[([.string ⟨#[49,50]⟩],.string ⟨#[48,49,51]⟩),([.string ⟨#[]⟩],.string ⟨#[49]⟩)]
theorem pk180:jan Tryz.prog 241 (memo m180):=jjf (pureCB Ff.ok180) fun a v h bs=>by
 have:=jh2 (p:=fun x:F×Value=>sp1 Ff.s180 x.1 bs=some (true,x.2)) (l:=m180) ⟨by kernel_rfl,by kernel_rfl,trivial⟩ _ h;exact this
def m118:List (F×Value):=[([.string ⟨#[49,50,53]⟩],.tuple ⟨[.int .i64 125,.nilIface]⟩)]
theorem pk118:jan Tryz.prog 183 (memo m118):=jjf (pureC Px.ok68) fun a v h bs=>by
 have:=jh2 (p:=fun x:F×Value=>sp1 Px.s68 x.1 bs=some (true,x.2)) (l:=m118) ⟨by kernel_rfl,trivial⟩ _ h;exact this
theorem Tryz.Builder_Extra_155:Builder.Extra Tryz.prog Tryz.lays155_ren:={
 sizeBuilder:=by kernel_rfl
 liesBuilder:=by kernel_rfl
 t5:=Tryz.underlying5
 a5:=Tryz.isAgg5
 z5:=Tryz.sizeOf5
 v5:=Tryz.zeroValue5
 infoByte:=by kernel_rfl
 cellsByte:=by kernel_rfl
 sizeByte:=by kernel_rfl
 neB5:=by decide}
theorem pure_shelfC{P:Program}{f:FuncId}{s:Ab.Spec}(hc:jbq P f)
  (h:∀args bs v,s args bs=some (true,v)→jay args=true∧ ∀w,TabsIn w.heap.size w→Calls P f args.toArray w fun e w'=>e= .returned v∧RowKit.Below w.heap.size w w'):jan P f s:=by
 refine⟨hc,fun args v N w0 lk ι w hrel hs hp=> ?_⟩;obtain⟨h1,h2⟩:=h _ _ _ hs;have hren:args.map (ren ι)=args:=by rw[←jb0,jb3 _ h1]
 rw[hren];exact h2 w hrel.tabs
def m93:List (F×Value):=[([.string ⟨#[105,116,39,39,115]⟩,.string ⟨#[39,39]⟩,.string ⟨#[39]⟩],.string ⟨#[105,116,39,115]⟩)]
theorem pk93:jan Tryz.prog 151 (memo m93):=pure_shelfC (cal Tryz.func151 (by kernel_rfl) (by kernel_rfl)) fun args bs v hs=>by
 have hm:(args,v)∈m93:=(jga hs).2;have hm:=List.mem_singleton.1 hm;cases hm;refine⟨rfl,fun w hw=> ?_⟩;have hc:w.cell? ⟨1,0,none⟩=some (.int .i64 MaxL.mx):=hw.cell (b:=1) rfl (i:=0) rfl;exact(Any.strings_ReplaceAll (ρ:=Tryz.lays155_ren) Tryz.lays155 Tryz.Builder_Extra_155 ⟨#[105,116,39,39,115]⟩ ⟨#[39,39]⟩ ⟨#[39]⟩ MaxL.mx w (by decide) hc (by decide) (by decide)).mono fun e w' ⟨h1,h2⟩=>⟨by rw[h1];kernel_rfl,h2⟩
theorem genC: @jcw tabsC Tryz.prog 168 h100:=by
 obtain⟨h1,h2⟩:= @gen100;refine⟨h1,fun args m n K hh N w0 ι w hrel hwf hargs=> ?_⟩;refine(h2 args m n K hh N w0 ι w (RelM.toT hrel) hwf hargs).mono fun e w' ⟨v,m',n',ι',h⟩=>⟨v,m',n',ι',h.1,h.2.1,h.2.2.1,h.2.2.2.1,RelM.toC hrel.base.2 h.2.2.2.2.1,h.2.2.2.2.2⟩
def S0:Env:=Env.nil.add 110 (sp2 s154) |>.add 289 (sp2 s131) |>.add 124 (sp2 s55) |>.add 114 (sp2 s30) |>.add 130 (memo m29) |>.add 84 (memo m81) |>.add 221 (sp2 Px.s141) |>.add 253 (sp2 Px.s157) |>.add 189 (sp2 s132) |>.add 187 (sp2 s130) |>.add 128 (sp2 s102) |>.add 118 (sp2 s280) |>.add 241 (memo m180) |>.add 183 (memo m118) |>.add 151 (memo m93) |>.addG 168 h100
theorem ok_S0:ja0 Tryz.prog S0:=jau (jak (jak (jak (jak (jak (jak (jak (jak (jak (jak (jak (jak (jak (jak (jak jav ok154) ok131) ok55) ok30) pk29) pk81) (pureC Px.ok141)) (pureC Px.ok157)) (pureC ok132)) (pureC ok130)) (pureC ok102)) (pureC ok280)) pk180) pk118) pk93) genC
end Go.Cs
end
noncomputable section
set_option maxRecDepth 100000
set_option maxHeartbeats 3200000
namespace Go.Cs
open Go Go.Ab Go.Proofs Go.Px Go.Cx
variable [MaxL]
def nA(r:Nst):Nst:= .app none 1 1 r
def nB(n:Nat)(r:Nst):Nst:= .app (some 0) n 1 r
abbrev EP:={G:Env//ja0 Tryz.prog G}
theorem fnP {k : Nat} {f : Func} (h : Tryz.prog.funcs[k]? = some f) (h2 : (f.body.isSome, (f.name == "runtime.NumGoroutine"), (match f.body with | some c => jcg c | none => false)) = (true, false, true)) : Fn1 Tryz.prog k f := ⟨h, congrArg (·.1) h2, congrArg (·.2.1) h2, congrArg (·.2.2) h2⟩
def ei (E : EP) (k : Nat) {f : Func} (h : Tryz.prog.funcs[k]? = some f) (h2 : (f.body.isSome, (f.name == "runtime.NumGoroutine"), (match f.body with | some c => jcg c | none => false)) = (true, false, true) := by kernel_rfl) : EP := ⟨E.1.addG k (inlQ Tryz.prog E.1 noL f), jau E.2 (jbd E.2 hmix (fnP h h2) jaj)⟩
def ea(E:EP)(k:Nat){s:Ab.Spec}(h:jan Tryz.prog k s):EP:=⟨E.1.add k s,jak E.2 h⟩
def em (E : EP) (k : Nat) {f : Func} (h : Tryz.prog.funcs[k]? = some f) (l : List (F × Value)) (ks : List Nst := []) (h2 : (f.body.isSome, (f.name == "runtime.NumGoroutine"), (match f.body with | some c => jcg c | none => false)) = (true, false, true) := by kernel_rfl) (h3 : (l.all fun x => jay x.1 && Nat.ble x.1.length f.ntmps) = true := by kernel_rfl) (h4 : RunL Tryz.prog E.1 noL f l = jnh l ks := by kernel_rfl) : EP := ea E k (pure_memoN (l := l) ks E.2 hmix (fnP h h2) jaj h3 h4)
def a0:EP:=⟨S0,ok_S0⟩
def a1:EP:=ei a0 185 Tryz.func185
def a2:EP:=ei a1 186 Tryz.func186
def m113:List (F×Value):=[([.string ⟨#[57,57,86,57]⟩],.tuple ⟨[.string ⟨#[57,57,86,57]⟩,.bool true]⟩)]
def a3:EP:=em a2 127 Tryz.func127 m113 [nA (nB 2 (nB 3 (nB 4 .leaf)))]
def a4:EP:=ei a3 255 Tryz.func255
def a5:EP:=ei a4 188 Tryz.func188
def a6:EP:=ei a5 190 Tryz.func190
def a7:EP:=ei a6 191 Tryz.func191
def a8:EP:=ei a7 192 Tryz.func192
def a9:EP:=ei a8 129 Tryz.func129
def a10:EP:=ei a9 79 Tryz.func79
def m102:List (F×Value):=[([.string ⟨#[57,57,86,57]⟩],.tuple ⟨[.agg ⟨[.string ⟨#[57,57,86,57]⟩,.bool true,.int .i64 3,.int .i64 3,.int .i64 1,.bool false]⟩,.int .i64 0]⟩)]
def a11:EP:=em a10 26 Tryz.func26 m102 [.bts 4 (nA (nB 2 (nB 3 (nB 4 (.bts 4 .leaf)))))]
def m65:List (F×Value):=[([.string ⟨#[57,57,86,57]⟩],.int .i64 0)]
def a12:EP:=em a11 122 Tryz.func122 m65
def m130:List (F×Value):=[([.string ⟨#[57,57,86,57]⟩],.tuple ⟨[.agg ⟨[.int .i64 1,.int .i64 3,.int .i64 1,.bool false,.string ⟨#[]⟩]⟩,.int .i64 0]⟩)]
def a13:EP:=em a12 172 Tryz.func172 m130
def a14:EP:=ei a13 181 Tryz.func181
def m128:List (F×Value):=[([.string ⟨#[57,57,86,57]⟩],.bool true)]
def a15:EP:=em a14 170 Tryz.func170 m128 [.bts 4 (nA (nB 2 (nB 3 (nB 4 (.bts 4 .leaf)))))]
def a16:EP:=ei a15 126 Tryz.func126
def a17:EP:=ei a16 282 Tryz.func282
def a18:EP:=ei a17 296 Tryz.func296
def a19:EP:=ei a18 297 Tryz.func297
def a20:EP:=ei a19 246 Tryz.func246
def a21:EP:=ei a20 247 Tryz.func247
def a22:EP:=ei a21 248 Tryz.func248
def a23:EP:=ei a22 249 Tryz.func249
def a24:EP:=ei a23 250 Tryz.func250
def a25:EP:=ei a24 251 Tryz.func251
def a26:EP:=ei a25 184 Tryz.func184
def m170:List (F×Value):=[([.int .i64 123,.int .i64 1,.string ⟨#[57,57,86,57]⟩],.tuple ⟨[.string ⟨#[49,50,51]⟩,.bool true,.int .i64 0]⟩)]
def a27:EP:=em a26 233 Tryz.func233 m170 [.bts 4 (nA (nB 2 (nB 3 (nB 4 (.bts 4 (nA (nB 2 (nB 3 .leaf))))))))]
def a28:EP:=ea a27 287 (pureC Cx.ok152)
def a29:EP:=ea a28 308 (pureC Cx.ok213)
def a30:EP:=ea a29 176 (pureC Cx.ok141)
def a31:EP:=ea a30 121 (pureC Cx.ok66)
def a32:EP:=ea a31 305 (pureC Cx.ok85)
def m33:List (F×Value):=[([.agg ⟨[.int .i64 1,.int .i64 5,.int .i64 2,.bool false,.string ⟨#[]⟩]⟩],.int .i64 0),([.agg ⟨[.int .i64 1,.int .i64 3,.int .i64 1,.bool false,.string ⟨#[]⟩]⟩],.int .i64 0),([.agg ⟨[.int .i64 1,.int .i64 4,.int .i64 2,.bool false,.string ⟨#[]⟩]⟩],.int .i64 0),([.agg ⟨[.int .i64 1,.int .i64 9,.int .i64 2,.bool false,.string ⟨#[]⟩]⟩],.int .i64 0),([.agg ⟨[.int .i64 1,.int .i64 3,.int .i64 1,.bool false,.string ⟨#[]⟩]⟩],.int .i64 0),([.agg ⟨[.int .i64 3,.int .i64 1,.int .i64 0,.bool false,.string ⟨#[]⟩]⟩],.int .i64 0),([.agg ⟨[.int .i64 3,.int .i64 2,.int .i64 0,.bool false,.string ⟨#[]⟩]⟩],.int .i64 0),([.agg ⟨[.int .i64 3,.int .i64 4,.int .i64 0,.bool false,.string ⟨#[]⟩]⟩],.int .i64 0),([.agg ⟨[.int .i64 3,.int .i64 6,.int .i64 0,.bool false,.string ⟨#[]⟩]⟩],.int .i64 0),([.agg ⟨[.int .i64 4,.int .i64 2,.int .i64 0,.bool false,.string ⟨#[]⟩]⟩],.int .i64 0),([.agg ⟨[.int .i64 4,.int .i64 3,.int .i64 0,.bool false,.string ⟨#[]⟩]⟩],.int .i64 0),([.agg ⟨[.int .i64 4,.int .i64 4,.int .i64 0,.bool false,.string ⟨#[]⟩]⟩],.int .i64 0),([.agg ⟨[.int .i64 5,.int .i64 0,.int .i64 0,.bool false,.string ⟨#[57,57,86,57]⟩]⟩],.int .i64 0)]
def a33:EP:=em a32 72 Tryz.func72 m33 [.leaf,.leaf,.leaf,.leaf,.leaf,.both .leaf .leaf,.both .leaf .leaf,.both .leaf .leaf,.both .leaf .leaf]
def m105:List (F×Value):=[([],.agg ⟨[.int .i64 1,.int .i64 10,.int .i64 100,.int .i64 1000,.int .i64 10000,.int .i64 100000,.int .i64 1000000,.int .i64 10000000,.int .i64 100000000,.int .i64 1000000000,.int .i64 10000000000,.int .i64 100000000000,.int .i64 1000000000000,.int .i64 10000000000000,.int .i64 100000000000000,.int .i64 1000000000000000,.int .i64 10000000000000000,.int .i64 100000000000000000,.int .i64 1000000000000000000]⟩)]
def a34:EP:=em a33 177 Tryz.func177 m105
def m66:List (F×Value):=[([.agg ⟨[.int .i64 1,.int .i64 5,.int .i64 2,.bool false,.string ⟨#[]⟩]⟩],.int .i64 100000),([.agg ⟨[.int .i64 1,.int .i64 3,.int .i64 1,.bool false,.string ⟨#[]⟩]⟩],.int .i64 1000),([.agg ⟨[.int .i64 1,.int .i64 4,.int .i64 2,.bool false,.string ⟨#[]⟩]⟩],.int .i64 10000),([.agg ⟨[.int .i64 1,.int .i64 9,.int .i64 2,.bool false,.string ⟨#[]⟩]⟩],.int .i64 1000000000)]
def a35:EP:=em a34 123 Tryz.func123 m66
def m34:List (F×Value):=[([.agg ⟨[.int .i64 (-125),.string ⟨#[]⟩]⟩,.agg ⟨[.int .i64 1,.int .i64 5,.int .i64 2,.bool false,.string ⟨#[]⟩]⟩],.int .i64 0),([.agg ⟨[.int .i64 5,.string ⟨#[]⟩]⟩,.agg ⟨[.int .i64 1,.int .i64 3,.int .i64 1,.bool false,.string ⟨#[]⟩]⟩],.int .i64 0),([.agg ⟨[.int .i64 1234,.string ⟨#[]⟩]⟩,.agg ⟨[.int .i64 1,.int .i64 4,.int .i64 2,.bool false,.string ⟨#[]⟩]⟩],.int .i64 0),([.agg ⟨[.int .i64 150,.string ⟨#[]⟩]⟩,.agg ⟨[.int .i64 1,.int .i64 5,.int .i64 2,.bool false,.string ⟨#[]⟩]⟩],.int .i64 0),([.agg ⟨[.int .i64 125,.string ⟨#[]⟩]⟩,.agg ⟨[.int .i64 1,.int .i64 9,.int .i64 2,.bool false,.string ⟨#[]⟩]⟩],.int .i64 0)]
def a36:EP:=em a35 73 Tryz.func73 m34
def m35:List (F×Value):=[([.string ⟨#[49,49]⟩],.bool true),([.string ⟨#[49,48,49]⟩],.bool true),([.string ⟨#[120]⟩],.bool false)]
def a37:EP:=em a36 74 Tryz.func74 m35
def m7:List (F×Value):=[([.agg ⟨[.int .i64 (-125),.string ⟨#[]⟩]⟩,.agg ⟨[.int .i64 1,.int .i64 5,.int .i64 2,.bool false,.string ⟨#[]⟩]⟩],.int .i64 0),([.agg ⟨[.int .i64 5,.string ⟨#[]⟩]⟩,.agg ⟨[.int .i64 1,.int .i64 3,.int .i64 1,.bool false,.string ⟨#[]⟩]⟩],.int .i64 0),([.agg ⟨[.int .i64 1234,.string ⟨#[]⟩]⟩,.agg ⟨[.int .i64 1,.int .i64 4,.int .i64 2,.bool false,.string ⟨#[]⟩]⟩],.int .i64 0),([.agg ⟨[.int .i64 150,.string ⟨#[]⟩]⟩,.agg ⟨[.int .i64 1,.int .i64 5,.int .i64 2,.bool false,.string ⟨#[]⟩]⟩],.int .i64 0),([.agg ⟨[.int .i64 125,.string ⟨#[]⟩]⟩,.agg ⟨[.int .i64 1,.int .i64 9,.int .i64 2,.bool false,.string ⟨#[]⟩]⟩],.int .i64 0),([.agg ⟨[.int .i64 0,.string ⟨#[97,98]⟩]⟩,.agg ⟨[.int .i64 3,.int .i64 2,.int .i64 0,.bool false,.string ⟨#[]⟩]⟩],.int .i64 0),([.agg ⟨[.int .i64 0,.string ⟨#[49,49]⟩]⟩,.agg ⟨[.int .i64 4,.int .i64 2,.int .i64 0,.bool false,.string ⟨#[]⟩]⟩],.int .i64 0),([.agg ⟨[.int .i64 0,.string ⟨#[120]⟩]⟩,.agg ⟨[.int .i64 3,.int .i64 1,.int .i64 0,.bool false,.string ⟨#[]⟩]⟩],.int .i64 0),([.agg ⟨[.int .i64 0,.string ⟨#[121]⟩]⟩,.agg ⟨[.int .i64 3,.int .i64 1,.int .i64 0,.bool false,.string ⟨#[]⟩]⟩],.int .i64 0),([.agg ⟨[.int .i64 0,.string ⟨#[49,48,49]⟩]⟩,.agg ⟨[.int .i64 4,.int .i64 3,.int .i64 0,.bool false,.string ⟨#[]⟩]⟩],.int .i64 0),([.agg ⟨[.int .i64 0,.string ⟨#[105,116,39,115]⟩]⟩,.agg ⟨[.int .i64 3,.int .i64 4,.int .i64 0,.bool false,.string ⟨#[]⟩]⟩],.int .i64 0),([.agg ⟨[.int .i64 0,.string ⟨#[49,50]⟩]⟩,.agg ⟨[.int .i64 3,.int .i64 2,.int .i64 0,.bool false,.string ⟨#[]⟩]⟩],.int .i64 0),([.agg ⟨[.int .i64 0,.string ⟨#[51,52]⟩]⟩,.agg ⟨[.int .i64 3,.int .i64 2,.int .i64 0,.bool false,.string ⟨#[]⟩]⟩],.int .i64 0),([.agg ⟨[.int .i64 0,.string ⟨#[53,54]⟩]⟩,.agg ⟨[.int .i64 3,.int .i64 2,.int .i64 0,.bool false,.string ⟨#[]⟩]⟩],.int .i64 0)]
def a38:EP:=em a37 23 Tryz.func23 m7
def m124:List (F×Value):=[([.agg ⟨[.int .i64 1234,.string ⟨#[]⟩]⟩,.agg ⟨[.int .i64 1,.int .i64 4,.int .i64 2,.bool false,.string ⟨#[]⟩]⟩],.iface 241 (.agg ⟨[.int .i64 1234,.int .i64 1,.int .i64 4,.int .i64 2,.bool false,.string ⟨#[]⟩]⟩)),([.agg ⟨[.int .i64 150,.string ⟨#[]⟩]⟩,.agg ⟨[.int .i64 1,.int .i64 5,.int .i64 2,.bool false,.string ⟨#[]⟩]⟩],.iface 241 (.agg ⟨[.int .i64 150,.int .i64 1,.int .i64 5,.int .i64 2,.bool false,.string ⟨#[]⟩]⟩)),([.agg ⟨[.int .i64 125,.string ⟨#[]⟩]⟩,.agg ⟨[.int .i64 1,.int .i64 9,.int .i64 2,.bool false,.string ⟨#[]⟩]⟩],.iface 241 (.agg ⟨[.int .i64 125,.int .i64 1,.int .i64 9,.int .i64 2,.bool false,.string ⟨#[]⟩]⟩)),([.agg ⟨[.int .i64 0,.string ⟨#[97,98]⟩]⟩,.agg ⟨[.int .i64 3,.int .i64 2,.int .i64 0,.bool false,.string ⟨#[]⟩]⟩],.iface 245 (.string ⟨#[97,98]⟩)),([.agg ⟨[.int .i64 0,.string ⟨#[49,49]⟩]⟩,.agg ⟨[.int .i64 4,.int .i64 2,.int .i64 0,.bool false,.string ⟨#[]⟩]⟩],.iface 242 (.string ⟨#[49,49]⟩)),([.agg ⟨[.int .i64 0,.string ⟨#[120]⟩]⟩,.agg ⟨[.int .i64 3,.int .i64 1,.int .i64 0,.bool false,.string ⟨#[]⟩]⟩],.iface 245 (.string ⟨#[120]⟩)),([.agg ⟨[.int .i64 0,.string ⟨#[121]⟩]⟩,.agg ⟨[.int .i64 3,.int .i64 1,.int .i64 0,.bool false,.string ⟨#[]⟩]⟩],.iface 245 (.string ⟨#[121]⟩)),([.agg ⟨[.int .i64 0,.string ⟨#[105,116,39,115]⟩]⟩,.agg ⟨[.int .i64 3,.int .i64 4,.int .i64 0,.bool false,.string ⟨#[]⟩]⟩],.iface 245 (.string ⟨#[105,116,39,115]⟩)),([.agg ⟨[.int .i64 0,.string ⟨#[49,50]⟩]⟩,.agg ⟨[.int .i64 3,.int .i64 2,.int .i64 0,.bool false,.string ⟨#[]⟩]⟩],.iface 245 (.string ⟨#[49,50]⟩)),([.agg ⟨[.int .i64 0,.string ⟨#[51,52]⟩]⟩,.agg ⟨[.int .i64 3,.int .i64 2,.int .i64 0,.bool false,.string ⟨#[]⟩]⟩],.iface 245 (.string ⟨#[51,52]⟩)),([.agg ⟨[.int .i64 0,.string ⟨#[53,54]⟩]⟩,.agg ⟨[.int .i64 3,.int .i64 2,.int .i64 0,.bool false,.string ⟨#[]⟩]⟩],.iface 245 (.string ⟨#[53,54]⟩))]
def a39:EP:=em a38 158 Tryz.func158 m124
def m266:List (F×Value):=[([.agg ⟨[.int .i64 1,.int .i64 5,.int .i64 2,.bool false,.string ⟨#[]⟩]⟩],.int .i64 8)]
def a40:EP:=em a39 339 Tryz.func339 m266
def m265:List (F×Value):=[([.agg ⟨[.int .i64 150,.int .i64 1,.int .i64 5,.int .i64 2,.bool false,.string ⟨#[]⟩]⟩],.string ⟨#[32,32,32,32,49,46,53,48]⟩)]
def a41:EP:=em a40 338 Tryz.func338 m265
def m269:List (F×Value):=[([.string ⟨#[97,98]⟩],.string ⟨#[97,98]⟩),([.string ⟨#[120]⟩],.string ⟨#[120]⟩),([.string ⟨#[121]⟩],.string ⟨#[121]⟩),([.string ⟨#[105,116,39,115]⟩],.string ⟨#[105,116,39,115]⟩),([.string ⟨#[49,50]⟩],.string ⟨#[49,50]⟩),([.string ⟨#[51,52]⟩],.string ⟨#[51,52]⟩),([.string ⟨#[53,54]⟩],.string ⟨#[53,54]⟩)]
def a42:EP:=em a41 342 Tryz.func342 m269
def m73:List (F×Value):=[([.agg ⟨[.int .i64 150,.string ⟨#[]⟩]⟩,.agg ⟨[.int .i64 1,.int .i64 5,.int .i64 2,.bool false,.string ⟨#[]⟩]⟩],.tuple ⟨[.string ⟨#[32,32,32,32,49,46,53,48]⟩,.int .i64 0]⟩),([.agg ⟨[.int .i64 0,.string ⟨#[97,98]⟩]⟩,.agg ⟨[.int .i64 3,.int .i64 2,.int .i64 0,.bool false,.string ⟨#[]⟩]⟩],.tuple ⟨[.string ⟨#[97,98]⟩,.int .i64 0]⟩),([.agg ⟨[.int .i64 0,.string ⟨#[120]⟩]⟩,.agg ⟨[.int .i64 3,.int .i64 1,.int .i64 0,.bool false,.string ⟨#[]⟩]⟩],.tuple ⟨[.string ⟨#[120]⟩,.int .i64 0]⟩),([.agg ⟨[.int .i64 0,.string ⟨#[121]⟩]⟩,.agg ⟨[.int .i64 3,.int .i64 1,.int .i64 0,.bool false,.string ⟨#[]⟩]⟩],.tuple ⟨[.string ⟨#[121]⟩,.int .i64 0]⟩)]
def a43:EP:=em a42 109 Tryz.func109 m73
def m178:List (F×Value):=[([.bool false,.string ⟨#[49,50,51,52]⟩,.int .i64 2],.agg ⟨[.bool false,.string ⟨#[49,50,51,52]⟩,.int .i64 2]⟩),([.bool false,.string ⟨#[49,50,53]⟩,.int .i64 2],.agg ⟨[.bool false,.string ⟨#[49,50,53]⟩,.int .i64 2]⟩)]
def a44:EP:=em a43 239 Tryz.func239 m178
def m226:List (F×Value):=[([.agg ⟨[.bool false,.string ⟨#[49,50,51,52]⟩,.int .i64 2]⟩],.bool true),([.agg ⟨[.bool false,.string ⟨#[49,50,53]⟩,.int .i64 2]⟩],.bool true)]
def a45:EP:=em a44 304 Tryz.func304 m226
def m228:List (F×Value):=[([.agg ⟨[.bool false,.string ⟨#[49,50,51,52]⟩,.int .i64 2]⟩,.int .i64 1],.string ⟨#[49,50,51]⟩),([.agg ⟨[.bool false,.string ⟨#[49,50,53]⟩,.int .i64 2]⟩,.int .i64 2],.string ⟨#[49,50,53]⟩)]
def a46:EP:=em a45 306 Tryz.func306 m228
def m202:List (F×Value):=[([.agg ⟨[.bool false,.string ⟨#[49,50,51,52]⟩,.int .i64 2]⟩,.agg ⟨[.int .i64 1,.int .i64 3,.int .i64 1,.bool false,.string ⟨#[]⟩]⟩],.tuple ⟨[.agg ⟨[.int .i64 123,.string ⟨#[]⟩]⟩,.int .i64 0,.int .i64 0]⟩),([.agg ⟨[.bool false,.string ⟨#[49,50,53]⟩,.int .i64 2]⟩,.agg ⟨[.int .i64 1,.int .i64 5,.int .i64 2,.bool false,.string ⟨#[]⟩]⟩],.tuple ⟨[.agg ⟨[.int .i64 125,.string ⟨#[]⟩]⟩,.int .i64 0,.int .i64 0]⟩)]
def a47:EP:=em a46 278 Tryz.func278 m202
def m201:List (F×Value):=[([.iface 241 (.agg ⟨[.int .i64 1234,.int .i64 1,.int .i64 4,.int .i64 2,.bool false,.string ⟨#[]⟩]⟩)],.tuple ⟨[.agg ⟨[.bool false,.string ⟨#[49,50,51,52]⟩,.int .i64 2]⟩,.nilIface]⟩),([.iface 241 (.agg ⟨[.int .i64 125,.int .i64 1,.int .i64 9,.int .i64 2,.bool false,.string ⟨#[]⟩]⟩)],.tuple ⟨[.agg ⟨[.bool false,.string ⟨#[49,50,53]⟩,.int .i64 2]⟩,.nilIface]⟩)]
def a48:EP:=em a47 277 Tryz.func277 m201
def m167:List (F×Value):=[([.iface 241 (.agg ⟨[.int .i64 1234,.int .i64 1,.int .i64 4,.int .i64 2,.bool false,.string ⟨#[]⟩]⟩),.agg ⟨[.int .i64 1,.int .i64 3,.int .i64 1,.bool false,.string ⟨#[]⟩]⟩],.tuple ⟨[.agg ⟨[.int .i64 123,.string ⟨#[]⟩]⟩,.int .i64 0,.nilIface]⟩),([.iface 241 (.agg ⟨[.int .i64 125,.int .i64 1,.int .i64 9,.int .i64 2,.bool false,.string ⟨#[]⟩]⟩),.agg ⟨[.int .i64 1,.int .i64 5,.int .i64 2,.bool false,.string ⟨#[]⟩]⟩],.tuple ⟨[.agg ⟨[.int .i64 125,.string ⟨#[]⟩]⟩,.int .i64 0,.nilIface]⟩)]
def a49:EP:=em a48 230 Tryz.func230 m167
def m168:List (F×Value):=[([.string ⟨#[]⟩,.int .i64 3,.string ⟨#[48]⟩],.string ⟨#[48,48,48]⟩),([.string ⟨#[49,49]⟩,.int .i64 4,.string ⟨#[48]⟩],.string ⟨#[49,49,48,48]⟩),([.string ⟨#[105,116,39,115]⟩,.int .i64 6,.string ⟨#[32]⟩],.string ⟨#[105,116,39,115,32,32]⟩),([.string ⟨#[49,50]⟩,.int .i64 2,.string ⟨#[32]⟩],.string ⟨#[49,50]⟩),([.string ⟨#[51,52]⟩,.int .i64 2,.string ⟨#[32]⟩],.string ⟨#[51,52]⟩),([.string ⟨#[53,54]⟩,.int .i64 2,.string ⟨#[32]⟩],.string ⟨#[53,54]⟩)]
def a50:EP:=em a49 231 Tryz.func231 m168
def m169:List (F×Value):=[([.iface 242 (.string ⟨#[49,49]⟩)],.tuple ⟨[.string ⟨#[49,49]⟩,.nilIface]⟩),([.iface 245 (.string ⟨#[120]⟩)],.tuple ⟨[.string ⟨#[]⟩,.iface 210 (.agg ⟨[.string ⟨#[120]⟩]⟩)]⟩)]
def a51:EP:=em a50 232 Tryz.func232 m169
def m125:List (F×Value):=[([.iface 241 (.agg ⟨[.int .i64 1234,.int .i64 1,.int .i64 4,.int .i64 2,.bool false,.string ⟨#[]⟩]⟩),.agg ⟨[.int .i64 5,.int .i64 0,.int .i64 0,.bool false,.string ⟨#[57,57,86,57]⟩]⟩],.tuple ⟨[.agg ⟨[.int .i64 0,.string ⟨#[49,50,51]⟩]⟩,.int .i64 0,.nilIface]⟩),([.iface 241 (.agg ⟨[.int .i64 125,.int .i64 1,.int .i64 9,.int .i64 2,.bool false,.string ⟨#[]⟩]⟩),.agg ⟨[.int .i64 1,.int .i64 5,.int .i64 2,.bool false,.string ⟨#[]⟩]⟩],.tuple ⟨[.agg ⟨[.int .i64 125,.string ⟨#[]⟩]⟩,.int .i64 0,.nilIface]⟩),([.iface 242 (.string ⟨#[49,49]⟩),.agg ⟨[.int .i64 4,.int .i64 4,.int .i64 0,.bool false,.string ⟨#[]⟩]⟩],.tuple ⟨[.agg ⟨[.int .i64 0,.string ⟨#[49,49,48,48]⟩]⟩,.int .i64 0,.nilIface]⟩),([.iface 245 (.string ⟨#[120]⟩),.agg ⟨[.int .i64 4,.int .i64 3,.int .i64 0,.bool false,.string ⟨#[]⟩]⟩],.tuple ⟨[.agg ⟨[.int .i64 0,.string ⟨#[48,48,48]⟩]⟩,.int .i64 0,.iface 210 (.agg ⟨[.string ⟨#[120]⟩]⟩)]⟩),([.iface 245 (.string ⟨#[105,116,39,115]⟩),.agg ⟨[.int .i64 3,.int .i64 6,.int .i64 0,.bool false,.string ⟨#[]⟩]⟩],.tuple ⟨[.agg ⟨[.int .i64 0,.string ⟨#[105,116,39,115,32,32]⟩]⟩,.int .i64 0,.nilIface]⟩),([.iface 245 (.string ⟨#[49,50]⟩),.agg ⟨[.int .i64 3,.int .i64 2,.int .i64 0,.bool false,.string ⟨#[]⟩]⟩],.tuple ⟨[.agg ⟨[.int .i64 0,.string ⟨#[49,50]⟩]⟩,.int .i64 0,.nilIface]⟩),([.iface 245 (.string ⟨#[51,52]⟩),.agg ⟨[.int .i64 3,.int .i64 2,.int .i64 0,.bool false,.string ⟨#[]⟩]⟩],.tuple ⟨[.agg ⟨[.int .i64 0,.string ⟨#[51,52]⟩]⟩,.int .i64 0,.nilIface]⟩),([.iface 245 (.string ⟨#[53,54]⟩),.agg ⟨[.int .i64 3,.int .i64 2,.int .i64 0,.bool false,.string ⟨#[]⟩]⟩],.tuple ⟨[.agg ⟨[.int .i64 0,.string ⟨#[53,54]⟩]⟩,.int .i64 0,.nilIface]⟩)]
def a52:EP:=em a51 167 Tryz.func167 m125
def m127:List (F×Value):=[([.agg ⟨[.int .i64 4,.int .i64 3,.int .i64 0,.bool false,.string ⟨#[]⟩]⟩],.agg ⟨[.int .i64 0,.string ⟨#[48,48,48]⟩]⟩)]
def a53:EP:=em a52 169 Tryz.func169 m127
def m74:List (F×Value):=[([.agg ⟨[.int .i64 1234,.string ⟨#[]⟩]⟩,.agg ⟨[.int .i64 1,.int .i64 4,.int .i64 2,.bool false,.string ⟨#[]⟩]⟩,.agg ⟨[.int .i64 5,.int .i64 0,.int .i64 0,.bool false,.string ⟨#[57,57,86,57]⟩]⟩],.tuple ⟨[.agg ⟨[.int .i64 0,.string ⟨#[49,50,51]⟩]⟩,.int .i64 0,.int .i64 0]⟩),([.agg ⟨[.int .i64 125,.string ⟨#[]⟩]⟩,.agg ⟨[.int .i64 1,.int .i64 9,.int .i64 2,.bool false,.string ⟨#[]⟩]⟩,.agg ⟨[.int .i64 1,.int .i64 5,.int .i64 2,.bool false,.string ⟨#[]⟩]⟩],.tuple ⟨[.agg ⟨[.int .i64 125,.string ⟨#[]⟩]⟩,.int .i64 0,.int .i64 0]⟩),([.agg ⟨[.int .i64 0,.string ⟨#[49,49]⟩]⟩,.agg ⟨[.int .i64 4,.int .i64 2,.int .i64 0,.bool false,.string ⟨#[]⟩]⟩,.agg ⟨[.int .i64 4,.int .i64 4,.int .i64 0,.bool false,.string ⟨#[]⟩]⟩],.tuple ⟨[.agg ⟨[.int .i64 0,.string ⟨#[49,49,48,48]⟩]⟩,.int .i64 0,.int .i64 0]⟩),([.agg ⟨[.int .i64 0,.string ⟨#[120]⟩]⟩,.agg ⟨[.int .i64 3,.int .i64 1,.int .i64 0,.bool false,.string ⟨#[]⟩]⟩,.agg ⟨[.int .i64 4,.int .i64 3,.int .i64 0,.bool false,.string ⟨#[]⟩]⟩],.tuple ⟨[.agg ⟨[.int .i64 0,.string ⟨#[48,48,48]⟩]⟩,.int .i64 4,.int .i64 0]⟩),([.agg ⟨[.int .i64 0,.string ⟨#[105,116,39,115]⟩]⟩,.agg ⟨[.int .i64 3,.int .i64 4,.int .i64 0,.bool false,.string ⟨#[]⟩]⟩,.agg ⟨[.int .i64 3,.int .i64 6,.int .i64 0,.bool false,.string ⟨#[]⟩]⟩],.tuple ⟨[.agg ⟨[.int .i64 0,.string ⟨#[105,116,39,115,32,32]⟩]⟩,.int .i64 0,.int .i64 0]⟩),([.agg ⟨[.int .i64 0,.string ⟨#[49,50]⟩]⟩,.agg ⟨[.int .i64 3,.int .i64 2,.int .i64 0,.bool false,.string ⟨#[]⟩]⟩,.agg ⟨[.int .i64 3,.int .i64 2,.int .i64 0,.bool false,.string ⟨#[]⟩]⟩],.tuple ⟨[.agg ⟨[.int .i64 0,.string ⟨#[49,50]⟩]⟩,.int .i64 0,.int .i64 0]⟩),([.agg ⟨[.int .i64 0,.string ⟨#[51,52]⟩]⟩,.agg ⟨[.int .i64 3,.int .i64 2,.int .i64 0,.bool false,.string ⟨#[]⟩]⟩,.agg ⟨[.int .i64 3,.int .i64 2,.int .i64 0,.bool false,.string ⟨#[]⟩]⟩],.tuple ⟨[.agg ⟨[.int .i64 0,.string ⟨#[51,52]⟩]⟩,.int .i64 0,.int .i64 0]⟩),([.agg ⟨[.int .i64 0,.string ⟨#[53,54]⟩]⟩,.agg ⟨[.int .i64 3,.int .i64 2,.int .i64 0,.bool false,.string ⟨#[]⟩]⟩,.agg ⟨[.int .i64 3,.int .i64 2,.int .i64 0,.bool false,.string ⟨#[]⟩]⟩],.tuple ⟨[.agg ⟨[.int .i64 0,.string ⟨#[53,54]⟩]⟩,.int .i64 0,.int .i64 0]⟩)]
def a54:EP:=em a53 115 Tryz.func115 m74
variable [MaxL]
def m44:List (F×Value):=[([.agg ⟨[.int .i64 3,.int .i64 6,.int .i64 2,.string ⟨#[]⟩]⟩],.bool true),([.agg ⟨[.int .i64 3,.int .i64 4,.int .i64 2,.string ⟨#[]⟩]⟩],.bool true),([.agg ⟨[.int .i64 3,.int .i64 6,.int .i64 1,.string ⟨#[]⟩]⟩],.bool true),([.agg ⟨[.int .i64 3,.int .i64 3,.int .i64 0,.string ⟨#[]⟩]⟩],.bool true),([.agg ⟨[.int .i64 1,.int .i64 4,.int .i64 0,.string ⟨#[]⟩]⟩],.bool true),([.agg ⟨[.int .i64 2,.int .i64 4,.int .i64 0,.string ⟨#[]⟩]⟩],.bool true),([.agg ⟨[.int .i64 2,.int .i64 3,.int .i64 0,.string ⟨#[]⟩]⟩],.bool true),([.agg ⟨[.int .i64 4,.int .i64 0,.int .i64 0,.string ⟨#[57,57,86,57]⟩]⟩],.bool true),([.agg ⟨[.int .i64 1,.int .i64 2,.int .i64 0,.string ⟨#[]⟩]⟩],.bool true),([.agg ⟨[.int .i64 5,.int .i64 1,.int .i64 0,.string ⟨#[]⟩]⟩],.bool true),([.agg ⟨[.int .i64 6,.int .i64 5,.int .i64 0,.string ⟨#[]⟩]⟩],.bool true),([.agg ⟨[.int .i64 1,.int .i64 0,.int .i64 0,.string ⟨#[]⟩]⟩],.bool true)]
def b1:EP:=em a54 77 Tryz.func77 m44
def m71:List (F×Value):=[([.agg ⟨[.int .i64 3,.int .i64 6,.int .i64 2,.string ⟨#[]⟩]⟩],.bool true),([.agg ⟨[.int .i64 3,.int .i64 4,.int .i64 2,.string ⟨#[]⟩]⟩],.bool true),([.agg ⟨[.int .i64 3,.int .i64 6,.int .i64 1,.string ⟨#[]⟩]⟩],.bool true),([.agg ⟨[.int .i64 3,.int .i64 3,.int .i64 0,.string ⟨#[]⟩]⟩],.bool true),([.agg ⟨[.int .i64 1,.int .i64 4,.int .i64 0,.string ⟨#[]⟩]⟩],.bool true),([.agg ⟨[.int .i64 2,.int .i64 4,.int .i64 0,.string ⟨#[]⟩]⟩],.bool true),([.agg ⟨[.int .i64 2,.int .i64 3,.int .i64 0,.string ⟨#[]⟩]⟩],.bool true),([.agg ⟨[.int .i64 4,.int .i64 0,.int .i64 0,.string ⟨#[57,57,86,57]⟩]⟩],.bool true),([.agg ⟨[.int .i64 1,.int .i64 2,.int .i64 0,.string ⟨#[]⟩]⟩],.bool true),([.agg ⟨[.int .i64 5,.int .i64 1,.int .i64 0,.string ⟨#[]⟩]⟩],.bool false),([.agg ⟨[.int .i64 6,.int .i64 5,.int .i64 0,.string ⟨#[]⟩]⟩],.bool false),([.agg ⟨[.int .i64 1,.int .i64 0,.int .i64 0,.string ⟨#[]⟩]⟩],.bool true)]
def b2:EP:=em b1 106 Tryz.func106 m71
def m37:List (F×Value):=[([.agg ⟨[.int .i64 3,.int .i64 6,.int .i64 2,.string ⟨#[]⟩]⟩],.int .i64 0),([.agg ⟨[.int .i64 3,.int .i64 4,.int .i64 2,.string ⟨#[]⟩]⟩],.int .i64 0),([.agg ⟨[.int .i64 3,.int .i64 6,.int .i64 1,.string ⟨#[]⟩]⟩],.int .i64 0),([.agg ⟨[.int .i64 3,.int .i64 3,.int .i64 0,.string ⟨#[]⟩]⟩],.int .i64 0),([.agg ⟨[.int .i64 1,.int .i64 4,.int .i64 0,.string ⟨#[]⟩]⟩],.int .i64 0),([.agg ⟨[.int .i64 2,.int .i64 4,.int .i64 0,.string ⟨#[]⟩]⟩],.int .i64 0),([.agg ⟨[.int .i64 2,.int .i64 3,.int .i64 0,.string ⟨#[]⟩]⟩],.int .i64 0),([.agg ⟨[.int .i64 4,.int .i64 0,.int .i64 0,.string ⟨#[57,57,86,57]⟩]⟩],.int .i64 0)]
def b3:EP:=em b2 78 Tryz.func78 m37
def m62:List (F×Value):=[([.agg ⟨[.int .i64 3,.int .i64 6,.int .i64 2,.string ⟨#[]⟩]⟩],.int .i64 6),([.agg ⟨[.int .i64 3,.int .i64 4,.int .i64 2,.string ⟨#[]⟩]⟩],.int .i64 4),([.agg ⟨[.int .i64 3,.int .i64 6,.int .i64 1,.string ⟨#[]⟩]⟩],.int .i64 6),([.agg ⟨[.int .i64 3,.int .i64 3,.int .i64 0,.string ⟨#[]⟩]⟩],.int .i64 3),([.agg ⟨[.int .i64 1,.int .i64 4,.int .i64 0,.string ⟨#[]⟩]⟩],.int .i64 4),([.agg ⟨[.int .i64 2,.int .i64 4,.int .i64 0,.string ⟨#[]⟩]⟩],.int .i64 4),([.agg ⟨[.int .i64 2,.int .i64 3,.int .i64 0,.string ⟨#[]⟩]⟩],.int .i64 3),([.agg ⟨[.int .i64 4,.int .i64 0,.int .i64 0,.string ⟨#[57,57,86,57]⟩]⟩],.int .i64 3),([.agg ⟨[.int .i64 1,.int .i64 2,.int .i64 0,.string ⟨#[]⟩]⟩],.int .i64 2),([.agg ⟨[.int .i64 1,.int .i64 0,.int .i64 0,.string ⟨#[]⟩]⟩],.int .i64 0)]
def b4:EP:=em b3 90 Tryz.func90 m62
def m55:List (F×Value):=[([.agg ⟨[.int .i64 1,.int .i64 5,.int .i64 2,.bool false,.string ⟨#[]⟩]⟩],.int .i64 0),([.agg ⟨[.int .i64 1,.int .i64 3,.int .i64 1,.bool false,.string ⟨#[]⟩]⟩],.int .i64 0),([.agg ⟨[.int .i64 3,.int .i64 2,.int .i64 0,.bool false,.string ⟨#[]⟩]⟩],.int .i64 0),([.agg ⟨[.int .i64 4,.int .i64 2,.int .i64 0,.bool false,.string ⟨#[]⟩]⟩],.int .i64 0),([.agg ⟨[.int .i64 3,.int .i64 1,.int .i64 0,.bool false,.string ⟨#[]⟩]⟩],.int .i64 0),([.agg ⟨[.int .i64 1,.int .i64 4,.int .i64 2,.bool false,.string ⟨#[]⟩]⟩],.int .i64 0),([.agg ⟨[.int .i64 4,.int .i64 3,.int .i64 0,.bool false,.string ⟨#[]⟩]⟩],.int .i64 0),([.agg ⟨[.int .i64 3,.int .i64 6,.int .i64 0,.bool false,.string ⟨#[]⟩]⟩],.int .i64 0)]
def b5:EP:=em b4 91 Tryz.func91 m55
def m38:List (F×Value):=[([.agg ⟨[.int .i64 5,.string ⟨#[]⟩]⟩,.agg ⟨[.int .i64 1,.int .i64 3,.int .i64 1,.bool false,.string ⟨#[]⟩]⟩],.int .i64 0),([.agg ⟨[.int .i64 0,.string ⟨#[97,98]⟩]⟩,.agg ⟨[.int .i64 3,.int .i64 2,.int .i64 0,.bool false,.string ⟨#[]⟩]⟩],.int .i64 0),([.agg ⟨[.int .i64 0,.string ⟨#[49,49]⟩]⟩,.agg ⟨[.int .i64 4,.int .i64 2,.int .i64 0,.bool false,.string ⟨#[]⟩]⟩],.int .i64 0),([.agg ⟨[.int .i64 0,.string ⟨#[120]⟩]⟩,.agg ⟨[.int .i64 3,.int .i64 1,.int .i64 0,.bool false,.string ⟨#[]⟩]⟩],.int .i64 0),([.agg ⟨[.int .i64 1234,.string ⟨#[]⟩]⟩,.agg ⟨[.int .i64 1,.int .i64 4,.int .i64 2,.bool false,.string ⟨#[]⟩]⟩],.int .i64 0),([.agg ⟨[.int .i64 (-125),.string ⟨#[]⟩]⟩,.agg ⟨[.int .i64 1,.int .i64 5,.int .i64 2,.bool false,.string ⟨#[]⟩]⟩],.int .i64 0),([.agg ⟨[.int .i64 0,.string ⟨#[120]⟩]⟩,.agg ⟨[.int .i64 3,.int .i64 1,.int .i64 0,.bool false,.string ⟨#[]⟩]⟩],.int .i64 0),([.agg ⟨[.int .i64 0,.string ⟨#[121]⟩]⟩,.agg ⟨[.int .i64 3,.int .i64 1,.int .i64 0,.bool false,.string ⟨#[]⟩]⟩],.int .i64 0),([.agg ⟨[.int .i64 150,.string ⟨#[]⟩]⟩,.agg ⟨[.int .i64 1,.int .i64 5,.int .i64 2,.bool false,.string ⟨#[]⟩]⟩],.int .i64 0),([.agg ⟨[.int .i64 0,.string ⟨#[49,48,49]⟩]⟩,.agg ⟨[.int .i64 4,.int .i64 3,.int .i64 0,.bool false,.string ⟨#[]⟩]⟩],.int .i64 0)]
def b6:EP:=em b5 57 Tryz.func57 m38
def m129:List (F×Value):=[([.int .i64 (-125),.int .i64 2],.agg ⟨[.bool true,.string ⟨#[49,50,53]⟩,.int .i64 2]⟩),([.int .i64 5,.int .i64 1],.agg ⟨[.bool false,.string ⟨#[53]⟩,.int .i64 1]⟩)]
def b7:EP:=em b6 171 Tryz.func171 m129
def m133:List (F×Value):=[([.agg ⟨[.bool true,.string ⟨#[49,50,53]⟩,.int .i64 2]⟩,.int .i64 2],.tuple ⟨[.string ⟨#[49,50,53]⟩,.bool true]⟩),([.agg ⟨[.bool true,.string ⟨#[49,50,53]⟩,.int .i64 2]⟩,.int .i64 1],.tuple ⟨[.string ⟨#[49,51]⟩,.bool true]⟩),([.agg ⟨[.bool false,.string ⟨#[53]⟩,.int .i64 1]⟩,.int .i64 0],.tuple ⟨[.string ⟨#[49]⟩,.bool true]⟩)]
def b8:EP:=em b7 174 Tryz.func174 m133
def m76:List (F×Value):=[([.agg ⟨[.bool true,.string ⟨#[49,50,53]⟩,.int .i64 2]⟩,.int .i64 2],.tuple ⟨[.string ⟨#[45,49,46,50,53]⟩,.bool true]⟩),([.agg ⟨[.bool true,.string ⟨#[49,50,53]⟩,.int .i64 2]⟩,.int .i64 1],.tuple ⟨[.string ⟨#[45,49,46,51]⟩,.bool true]⟩),([.agg ⟨[.bool false,.string ⟨#[53]⟩,.int .i64 1]⟩,.int .i64 0],.tuple ⟨[.string ⟨#[49]⟩,.bool true]⟩)]
def b9:EP:=em b8 117 Tryz.func117 m76
def m75:List (F×Value):=[([.agg ⟨[.int .i64 (-125),.string ⟨#[]⟩]⟩,.agg ⟨[.int .i64 1,.int .i64 5,.int .i64 2,.bool false,.string ⟨#[]⟩]⟩],.tuple ⟨[.agg ⟨[.bool true,.string ⟨#[49,50,53]⟩,.int .i64 2]⟩,.bool true]⟩),([.agg ⟨[.int .i64 5,.string ⟨#[]⟩]⟩,.agg ⟨[.int .i64 1,.int .i64 3,.int .i64 1,.bool false,.string ⟨#[]⟩]⟩],.tuple ⟨[.agg ⟨[.bool false,.string ⟨#[53]⟩,.int .i64 1]⟩,.bool true]⟩)]
def b10:EP:=em b9 116 Tryz.func116 m75
def m39:List (F×Value):=[([.agg ⟨[.int .i64 3,.int .i64 6,.int .i64 2,.string ⟨#[]⟩]⟩,.agg ⟨[.int .i64 (-125),.string ⟨#[]⟩]⟩,.agg ⟨[.int .i64 1,.int .i64 5,.int .i64 2,.bool false,.string ⟨#[]⟩]⟩],.string ⟨#[32,45,49,46,50,53]⟩),([.agg ⟨[.int .i64 3,.int .i64 4,.int .i64 2,.string ⟨#[]⟩]⟩,.agg ⟨[.int .i64 (-125),.string ⟨#[]⟩]⟩,.agg ⟨[.int .i64 1,.int .i64 5,.int .i64 2,.bool false,.string ⟨#[]⟩]⟩],.string ⟨#[42,42,42,42]⟩),([.agg ⟨[.int .i64 3,.int .i64 6,.int .i64 1,.string ⟨#[]⟩]⟩,.agg ⟨[.int .i64 (-125),.string ⟨#[]⟩]⟩,.agg ⟨[.int .i64 1,.int .i64 5,.int .i64 2,.bool false,.string ⟨#[]⟩]⟩],.string ⟨#[32,32,45,49,46,51]⟩),([.agg ⟨[.int .i64 3,.int .i64 3,.int .i64 0,.string ⟨#[]⟩]⟩,.agg ⟨[.int .i64 5,.string ⟨#[]⟩]⟩,.agg ⟨[.int .i64 1,.int .i64 3,.int .i64 1,.bool false,.string ⟨#[]⟩]⟩],.string ⟨#[32,32,49]⟩),([.agg ⟨[.int .i64 1,.int .i64 4,.int .i64 0,.string ⟨#[]⟩]⟩,.agg ⟨[.int .i64 0,.string ⟨#[97,98]⟩]⟩,.agg ⟨[.int .i64 3,.int .i64 2,.int .i64 0,.bool false,.string ⟨#[]⟩]⟩],.string ⟨#[97,98,32,32]⟩),([.agg ⟨[.int .i64 2,.int .i64 4,.int .i64 0,.string ⟨#[]⟩]⟩,.agg ⟨[.int .i64 0,.string ⟨#[49,49]⟩]⟩,.agg ⟨[.int .i64 4,.int .i64 2,.int .i64 0,.bool false,.string ⟨#[]⟩]⟩],.string ⟨#[49,49,48,48]⟩),([.agg ⟨[.int .i64 2,.int .i64 3,.int .i64 0,.string ⟨#[]⟩]⟩,.agg ⟨[.int .i64 0,.string ⟨#[120]⟩]⟩,.agg ⟨[.int .i64 3,.int .i64 1,.int .i64 0,.bool false,.string ⟨#[]⟩]⟩],.string ⟨#[42,42,42]⟩),([.agg ⟨[.int .i64 4,.int .i64 0,.int .i64 0,.string ⟨#[57,57,86,57]⟩]⟩,.agg ⟨[.int .i64 1234,.string ⟨#[]⟩]⟩,.agg ⟨[.int .i64 1,.int .i64 4,.int .i64 2,.bool false,.string ⟨#[]⟩]⟩],.string ⟨#[49,50,51]⟩),([.agg ⟨[.int .i64 1,.int .i64 0,.int .i64 0,.string ⟨#[]⟩]⟩,.agg ⟨[.int .i64 0,.string ⟨#[120]⟩]⟩,.agg ⟨[.int .i64 3,.int .i64 1,.int .i64 0,.bool false,.string ⟨#[]⟩]⟩],.string ⟨#[120]⟩),([.agg ⟨[.int .i64 1,.int .i64 0,.int .i64 0,.string ⟨#[]⟩]⟩,.agg ⟨[.int .i64 0,.string ⟨#[121]⟩]⟩,.agg ⟨[.int .i64 3,.int .i64 1,.int .i64 0,.bool false,.string ⟨#[]⟩]⟩],.string ⟨#[121]⟩)]
def b11:EP:=em b10 64 Tryz.func64 m39
def m8:List (F×Value):=[([.agg ⟨[.int .i64 3,.int .i64 6,.int .i64 2,.string ⟨#[]⟩]⟩,.agg ⟨[.int .i64 (-125),.string ⟨#[]⟩]⟩,.agg ⟨[.int .i64 1,.int .i64 5,.int .i64 2,.bool false,.string ⟨#[]⟩]⟩],.tuple ⟨[.string ⟨#[32,45,49,46,50,53]⟩,.int .i64 0]⟩),([.agg ⟨[.int .i64 3,.int .i64 4,.int .i64 2,.string ⟨#[]⟩]⟩,.agg ⟨[.int .i64 (-125),.string ⟨#[]⟩]⟩,.agg ⟨[.int .i64 1,.int .i64 5,.int .i64 2,.bool false,.string ⟨#[]⟩]⟩],.tuple ⟨[.string ⟨#[42,42,42,42]⟩,.int .i64 0]⟩),([.agg ⟨[.int .i64 3,.int .i64 6,.int .i64 1,.string ⟨#[]⟩]⟩,.agg ⟨[.int .i64 (-125),.string ⟨#[]⟩]⟩,.agg ⟨[.int .i64 1,.int .i64 5,.int .i64 2,.bool false,.string ⟨#[]⟩]⟩],.tuple ⟨[.string ⟨#[32,32,45,49,46,51]⟩,.int .i64 0]⟩),([.agg ⟨[.int .i64 3,.int .i64 3,.int .i64 0,.string ⟨#[]⟩]⟩,.agg ⟨[.int .i64 5,.string ⟨#[]⟩]⟩,.agg ⟨[.int .i64 1,.int .i64 3,.int .i64 1,.bool false,.string ⟨#[]⟩]⟩],.tuple ⟨[.string ⟨#[32,32,49]⟩,.int .i64 0]⟩),([.agg ⟨[.int .i64 1,.int .i64 4,.int .i64 0,.string ⟨#[]⟩]⟩,.agg ⟨[.int .i64 0,.string ⟨#[97,98]⟩]⟩,.agg ⟨[.int .i64 3,.int .i64 2,.int .i64 0,.bool false,.string ⟨#[]⟩]⟩],.tuple ⟨[.string ⟨#[97,98,32,32]⟩,.int .i64 0]⟩),([.agg ⟨[.int .i64 2,.int .i64 4,.int .i64 0,.string ⟨#[]⟩]⟩,.agg ⟨[.int .i64 0,.string ⟨#[49,49]⟩]⟩,.agg ⟨[.int .i64 4,.int .i64 2,.int .i64 0,.bool false,.string ⟨#[]⟩]⟩],.tuple ⟨[.string ⟨#[49,49,48,48]⟩,.int .i64 0]⟩),([.agg ⟨[.int .i64 2,.int .i64 3,.int .i64 0,.string ⟨#[]⟩]⟩,.agg ⟨[.int .i64 0,.string ⟨#[120]⟩]⟩,.agg ⟨[.int .i64 3,.int .i64 1,.int .i64 0,.bool false,.string ⟨#[]⟩]⟩],.tuple ⟨[.string ⟨#[42,42,42]⟩,.int .i64 0]⟩),([.agg ⟨[.int .i64 4,.int .i64 0,.int .i64 0,.string ⟨#[57,57,86,57]⟩]⟩,.agg ⟨[.int .i64 1234,.string ⟨#[]⟩]⟩,.agg ⟨[.int .i64 1,.int .i64 4,.int .i64 2,.bool false,.string ⟨#[]⟩]⟩],.tuple ⟨[.string ⟨#[49,50,51]⟩,.int .i64 0]⟩)]
def b12:EP:=em b11 25 Tryz.func25 m8
def m50:List (F×Value):=[([.agg ⟨[.int .i64 150,.string ⟨#[]⟩]⟩,.agg ⟨[.int .i64 1,.int .i64 5,.int .i64 2,.bool false,.string ⟨#[]⟩]⟩],.string ⟨#[49,46,53,48]⟩),([.agg ⟨[.int .i64 0,.string ⟨#[49,48,49]⟩]⟩,.agg ⟨[.int .i64 4,.int .i64 3,.int .i64 0,.bool false,.string ⟨#[]⟩]⟩],.string ⟨#[39,49,48,49,39,66]⟩)]
def b13:EP:=em b12 60 Tryz.func60 m50
def m27:List (F×Value):=[([.agg ⟨[.int .i64 150,.string ⟨#[]⟩]⟩,.agg ⟨[.int .i64 1,.int .i64 5,.int .i64 2,.bool false,.string ⟨#[]⟩]⟩],.tuple ⟨[.string ⟨#[49,46,53,48]⟩,.int .i64 0]⟩),([.agg ⟨[.int .i64 0,.string ⟨#[49,48,49]⟩]⟩,.agg ⟨[.int .i64 4,.int .i64 3,.int .i64 0,.bool false,.string ⟨#[]⟩]⟩],.tuple ⟨[.string ⟨#[39,49,48,49,39,66]⟩,.int .i64 0]⟩)]
def b14:EP:=em b13 20 Tryz.func20 m27
def m90:List (F×Value):=[([.string ⟨#[105,116,39,115]⟩],.agg ⟨[.int .i64 0,.string ⟨#[105,116,39,115]⟩,.int .i64 3,.int .i64 4,.int .i64 0,.bool false,.string ⟨#[]⟩,.bool false]⟩),([.string ⟨#[49,50]⟩],.agg ⟨[.int .i64 0,.string ⟨#[49,50]⟩,.int .i64 3,.int .i64 2,.int .i64 0,.bool false,.string ⟨#[]⟩,.bool false]⟩),([.string ⟨#[51,52]⟩],.agg ⟨[.int .i64 0,.string ⟨#[51,52]⟩,.int .i64 3,.int .i64 2,.int .i64 0,.bool false,.string ⟨#[]⟩,.bool false]⟩),([.string ⟨#[53,54]⟩],.agg ⟨[.int .i64 0,.string ⟨#[53,54]⟩,.int .i64 3,.int .i64 2,.int .i64 0,.bool false,.string ⟨#[]⟩,.bool false]⟩)]
def b15:EP:=em b14 149 Tryz.func149 m90
def m89:List (F×Value):=[([.agg ⟨[.int .i64 1,.int .i64 5,.int .i64 2,.bool false,.string ⟨#[]⟩]⟩],.agg ⟨[.int .i64 0,.string ⟨#[]⟩]⟩)]
def b16:EP:=em b15 148 Tryz.func148 m89
def m91:List (F×Value):=[([.agg ⟨[.int .i64 125,.string ⟨#[]⟩,.int .i64 1,.int .i64 9,.int .i64 2,.bool false,.string ⟨#[]⟩,.bool false]⟩,.agg ⟨[.int .i64 1,.int .i64 5,.int .i64 2,.bool false,.string ⟨#[]⟩]⟩],.tuple ⟨[.agg ⟨[.int .i64 125,.string ⟨#[]⟩]⟩,.int .i64 0]⟩),([.agg ⟨[.int .i64 0,.string ⟨#[]⟩,.int .i64 0,.int .i64 0,.int .i64 0,.bool false,.string ⟨#[]⟩,.bool true]⟩,.agg ⟨[.int .i64 1,.int .i64 5,.int .i64 2,.bool false,.string ⟨#[]⟩]⟩],.tuple ⟨[.agg ⟨[.int .i64 0,.string ⟨#[]⟩]⟩,.int .i64 4]⟩),([.agg ⟨[.int .i64 0,.string ⟨#[105,116,39,115]⟩,.int .i64 3,.int .i64 4,.int .i64 0,.bool false,.string ⟨#[]⟩,.bool false]⟩,.agg ⟨[.int .i64 3,.int .i64 6,.int .i64 0,.bool false,.string ⟨#[]⟩]⟩],.tuple ⟨[.agg ⟨[.int .i64 0,.string ⟨#[105,116,39,115,32,32]⟩]⟩,.int .i64 0]⟩),([.agg ⟨[.int .i64 0,.string ⟨#[49,50]⟩,.int .i64 3,.int .i64 2,.int .i64 0,.bool false,.string ⟨#[]⟩,.bool false]⟩,.agg ⟨[.int .i64 3,.int .i64 2,.int .i64 0,.bool false,.string ⟨#[]⟩]⟩],.tuple ⟨[.agg ⟨[.int .i64 0,.string ⟨#[49,50]⟩]⟩,.int .i64 0]⟩),([.agg ⟨[.int .i64 0,.string ⟨#[51,52]⟩,.int .i64 3,.int .i64 2,.int .i64 0,.bool false,.string ⟨#[]⟩,.bool false]⟩,.agg ⟨[.int .i64 3,.int .i64 2,.int .i64 0,.bool false,.string ⟨#[]⟩]⟩],.tuple ⟨[.agg ⟨[.int .i64 0,.string ⟨#[51,52]⟩]⟩,.int .i64 0]⟩),([.agg ⟨[.int .i64 0,.string ⟨#[53,54]⟩,.int .i64 3,.int .i64 2,.int .i64 0,.bool false,.string ⟨#[]⟩,.bool false]⟩,.agg ⟨[.int .i64 3,.int .i64 2,.int .i64 0,.bool false,.string ⟨#[]⟩]⟩],.tuple ⟨[.agg ⟨[.int .i64 0,.string ⟨#[53,54]⟩]⟩,.int .i64 0]⟩)]
def b17:EP:=em b16 142 Tryz.func142 m91
def m98:List (F×Value):=[([.agg ⟨[.int .i64 1,.int .i64 2,.int .i64 0,.string ⟨#[]⟩]⟩,.string ⟨#[49,50]⟩],.agg ⟨[.int .i64 0,.string ⟨#[49,50]⟩,.int .i64 3,.int .i64 2,.int .i64 0,.bool false,.string ⟨#[]⟩,.bool false]⟩),([.agg ⟨[.int .i64 1,.int .i64 2,.int .i64 0,.string ⟨#[]⟩]⟩,.string ⟨#[51,52]⟩],.agg ⟨[.int .i64 0,.string ⟨#[51,52]⟩,.int .i64 3,.int .i64 2,.int .i64 0,.bool false,.string ⟨#[]⟩,.bool false]⟩),([.agg ⟨[.int .i64 1,.int .i64 2,.int .i64 0,.string ⟨#[]⟩]⟩,.string ⟨#[53,54]⟩],.agg ⟨[.int .i64 0,.string ⟨#[53,54]⟩,.int .i64 3,.int .i64 2,.int .i64 0,.bool false,.string ⟨#[]⟩,.bool false]⟩)]
def b18:EP:=em b17 138 Tryz.func138 m98
def b19:EP:=ea b18 273 (pureC Ff.ok187)
def b20:EP:=ea b19 146 (pureC Ff.ok87)
def b21:EP:=ea b20 110 (pureC Ff.ok80)
def b22:EP:=ei b21 228 Tryz.func228
def b23:EP:=ei b22 164 Tryz.func164
def b24:EP:=ei b23 274 Tryz.func274
def b25:EP:=ei b24 222 Tryz.func222
def b26:EP:=ei b25 155 Tryz.func155
def m100:List (F×Value):=[([.agg ⟨[.int .i64 3,.int .i64 6,.int .i64 2,.string ⟨#[]⟩]⟩,.string ⟨#[32,32,32,49,50,53]⟩],.agg ⟨[.int .i64 125,.string ⟨#[]⟩,.int .i64 1,.int .i64 9,.int .i64 2,.bool false,.string ⟨#[]⟩,.bool false]⟩),([.agg ⟨[.int .i64 3,.int .i64 6,.int .i64 2,.string ⟨#[]⟩]⟩,.string ⟨#[49,46,50,46,51,32]⟩],.agg ⟨[.int .i64 0,.string ⟨#[]⟩,.int .i64 0,.int .i64 0,.int .i64 0,.bool false,.string ⟨#[]⟩,.bool true]⟩)]
def b27:EP:=em b26 140 Tryz.func140 m100
def m60:List (F×Value):=[([.agg ⟨[.int .i64 3,.int .i64 6,.int .i64 2,.string ⟨#[]⟩]⟩,.string ⟨#[32,32,32,49,50,53]⟩,.agg ⟨[.int .i64 1,.int .i64 5,.int .i64 2,.bool false,.string ⟨#[]⟩]⟩],.tuple ⟨[.agg ⟨[.int .i64 125,.string ⟨#[]⟩]⟩,.int .i64 0]⟩),([.agg ⟨[.int .i64 3,.int .i64 6,.int .i64 2,.string ⟨#[]⟩]⟩,.string ⟨#[49,46,50,46,51,32]⟩,.agg ⟨[.int .i64 1,.int .i64 5,.int .i64 2,.bool false,.string ⟨#[]⟩]⟩],.tuple ⟨[.agg ⟨[.int .i64 0,.string ⟨#[]⟩]⟩,.int .i64 4]⟩),([.agg ⟨[.int .i64 1,.int .i64 2,.int .i64 0,.string ⟨#[]⟩]⟩,.string ⟨#[49,50]⟩,.agg ⟨[.int .i64 3,.int .i64 2,.int .i64 0,.bool false,.string ⟨#[]⟩]⟩],.tuple ⟨[.agg ⟨[.int .i64 0,.string ⟨#[49,50]⟩]⟩,.int .i64 0]⟩),([.agg ⟨[.int .i64 1,.int .i64 2,.int .i64 0,.string ⟨#[]⟩]⟩,.string ⟨#[51,52]⟩,.agg ⟨[.int .i64 3,.int .i64 2,.int .i64 0,.bool false,.string ⟨#[]⟩]⟩],.tuple ⟨[.agg ⟨[.int .i64 0,.string ⟨#[51,52]⟩]⟩,.int .i64 0]⟩),([.agg ⟨[.int .i64 1,.int .i64 2,.int .i64 0,.string ⟨#[]⟩]⟩,.string ⟨#[53,54]⟩,.agg ⟨[.int .i64 3,.int .i64 2,.int .i64 0,.bool false,.string ⟨#[]⟩]⟩],.tuple ⟨[.agg ⟨[.int .i64 0,.string ⟨#[53,54]⟩]⟩,.int .i64 0]⟩)]
def b28:EP:=em b27 92 Tryz.func92 m60 [.both .leaf .leaf,.both .leaf .leaf,.both .leaf .leaf,.both .leaf .leaf,.both .leaf .leaf]
def m28:List (F×Value):=[([.agg ⟨[.int .i64 3,.int .i64 6,.int .i64 2,.string ⟨#[]⟩]⟩,.string ⟨#[32,32,32,49,50,53]⟩,.agg ⟨[.int .i64 1,.int .i64 5,.int .i64 2,.bool false,.string ⟨#[]⟩]⟩],.tuple ⟨[.agg ⟨[.int .i64 125,.string ⟨#[]⟩]⟩,.int .i64 0,.int .i64 0]⟩),([.agg ⟨[.int .i64 3,.int .i64 6,.int .i64 2,.string ⟨#[]⟩]⟩,.string ⟨#[49,46,50,46,51,32]⟩,.agg ⟨[.int .i64 1,.int .i64 5,.int .i64 2,.bool false,.string ⟨#[]⟩]⟩],.tuple ⟨[.agg ⟨[.int .i64 0,.string ⟨#[]⟩]⟩,.int .i64 4,.int .i64 0]⟩)]
def b29:EP:=em b28 33 Tryz.func33 m28
def m88:List (F×Value):=[([.string ⟨#[39,105,116,39,39,115,39]⟩],.tuple ⟨[.int .i64 7,.bool true]⟩),([.string ⟨#[39,97,32,98,39,32,39,49,39,66]⟩],.tuple ⟨[.int .i64 5,.bool true]⟩),([.string ⟨#[39,49,39,66]⟩],.tuple ⟨[.int .i64 4,.bool true]⟩)]
def b30:EP:=em b29 147 Tryz.func147 m88
def m57:List (F×Value):=[([.string ⟨#[39,105,116,39,39,115,39]⟩,.agg ⟨[.int .i64 3,.int .i64 6,.int .i64 0,.bool false,.string ⟨#[]⟩]⟩],.tuple ⟨[.agg ⟨[.int .i64 0,.string ⟨#[105,116,39,115,32,32]⟩]⟩,.int .i64 0]⟩)]
def b31:EP:=em b30 96 Tryz.func96 m57
def m30:List (F×Value):=[([.string ⟨#[39,105,116,39,39,115,39]⟩,.agg ⟨[.int .i64 3,.int .i64 6,.int .i64 0,.bool false,.string ⟨#[]⟩]⟩],.tuple ⟨[.agg ⟨[.int .i64 0,.string ⟨#[105,116,39,115,32,32]⟩]⟩,.int .i64 0,.int .i64 0]⟩)]
def b32:EP:=em b31 51 Tryz.func51 m30
def b33:EP:=⟨b32.1.addG 157 Ff.h134,jau b32.2 Ff.gen134⟩
def b34:EP:=⟨b33.1.addG 66 Ff.h54,jau b33.2 Ff.gen54⟩
def b35:EP:=ea b34 65 Ff.ok53
def b36:EP:=ei b35 107 Tryz.func107
def b37:EP:=ea b36 144 (pureC Ff.ok85)
def b38:EP:=ea b37 67 (pureC Ff.ok63)
def b39:EP:=ea b38 99 (pureC Ff.ok61)
def b40:EP:=ei b39 143 Tryz.func143
def b41:EP:=ei b40 145 Tryz.func145
def b42:EP:=ei b41 95 Tryz.func95
def b43:EP:=ei b42 40 Tryz.func40
def b44:EP:=ei b43 38 Tryz.func38
def b45:EP:=ei b44 39 Tryz.func39
def b46:EP:=ei b45 152 Tryz.func152
def b47:EP:=ei b46 153 Tryz.func153
def b48:EP:=ei b47 154 Tryz.func154
def b49:EP:=ei b48 97 Tryz.func97
def b50:EP:=ei b49 98 Tryz.func98
def b51:EP:=ei b50 76 Tryz.func76
def b52:EP:=ei b51 120 Tryz.func120
def b53:EP:=ei b52 70 Tryz.func70
def b54:EP:=ei b53 24 Tryz.func24
def b55:EP:=ei b54 56 Tryz.func56
def b56:EP:=ei b55 61 Tryz.func61
def b57:EP:=ei b56 41 Tryz.func41
def b58:EP:=ei b57 42 Tryz.func42
def b59:EP:=ei b58 16 Tryz.func16
def b60:EP:=ei b59 17 Tryz.func17
def b61:EP:=ei b60 19 Tryz.func19
def b62:EP:=ei b61 58 Tryz.func58
def b63:EP:=ei b62 63 Tryz.func63
def b64:EP:=ei b63 108 Tryz.func108
def b65:EP:=ei b64 111 Tryz.func111
def b66:EP:=ei b65 112 Tryz.func112
def b67:EP:=ei b66 113 Tryz.func113
def b68:EP:=ei b67 62 Tryz.func62
def b69:EP:=ei b68 59 Tryz.func59
def b70:EP:=ei b69 18 Tryz.func18
def m25:List (F×Value):=[([.int .i64 5,.int .i64 2],.agg ⟨[.int .i64 1,.int .i64 5,.int .i64 2,.bool false,.string ⟨#[]⟩]⟩),([.int .i64 3,.int .i64 1],.agg ⟨[.int .i64 1,.int .i64 3,.int .i64 1,.bool false,.string ⟨#[]⟩]⟩),([.int .i64 4,.int .i64 2],.agg ⟨[.int .i64 1,.int .i64 4,.int .i64 2,.bool false,.string ⟨#[]⟩]⟩)]
def b71:EP:=em b70 49 Tryz.func49 m25
def m23:List (F×Value):=[([.int .i64 1],.agg ⟨[.int .i64 3,.int .i64 1,.int .i64 0,.bool false,.string ⟨#[]⟩]⟩),([.int .i64 2],.agg ⟨[.int .i64 3,.int .i64 2,.int .i64 0,.bool false,.string ⟨#[]⟩]⟩),([.int .i64 6],.agg ⟨[.int .i64 3,.int .i64 6,.int .i64 0,.bool false,.string ⟨#[]⟩]⟩)]
def b72:EP:=em b71 43 Tryz.func43 m23
def m26:List (F×Value):=[([.int .i64 2],.agg ⟨[.int .i64 4,.int .i64 2,.int .i64 0,.bool false,.string ⟨#[]⟩]⟩),([.int .i64 3],.agg ⟨[.int .i64 4,.int .i64 3,.int .i64 0,.bool false,.string ⟨#[]⟩]⟩)]
def b73:EP:=em b72 50 Tryz.func50 m26
def m6:List (F×Value):=[([],.bool true)]
theorem pk6:jan Tryz.prog 9 (memo m6):=pure_memoN [nA (nB 2 (nB 3 (nB 4 (nB 5 (nA (nB 2 (nB 3 (nA (nB 2 (.le 0 (nA (nB 2 (nB 3 (.app none 1 4 (nA (.le 0 (nA (nB 2 (.le 0 (nA (nB 2 (nB 3 (nA (nB 2 (.le 0 (nA (nB 2 (nB 3 (nA (nA (.app none 1 4 (.both (.app (some 2) 2 1 (nB 3 (nB 4 (nB 5 (nB 6 (nA (.app none 1 4 (.both (.app (some 2) 7 1 (nB 8 (nB 9 (nB 10 (nB 11 (nB 12 (.both (.le 0 .leaf) (.le 0 .leaf)))))))) (.app (some 2) 7 1 (nB 8 (nB 9 (nB 10 (nB 11 (nB 12 (.both (.le 0 .leaf) (.le 0 .leaf)))))))))))))))) (.app (some 2) 2 1 (nB 3 (nB 4 (nB 5 (nB 6 (nA (.app none 1 4 (.both (.app (some 2) 7 1 (nB 8 (nB 9 (nB 10 (nB 11 (nB 12 (.both (.le 0 .leaf) (.le 0 .leaf)))))))) (.app (some 2) 7 1 (nB 8 (nB 9 (nB 10 (nB 11 (nB 12 (.both (.le 0 .leaf) (.le 0 .leaf))))))))))))))))))))))))))))))))))))))))))))))))] b73.2 hmix (fnP Tryz.func9 (by kernel_rfl)) jaj (by kernel_rfl) (by kernel_rfl)
end Go.Cs
end
noncomputable section
set_option maxHeartbeats 3200000
set_option maxRecDepth 100000
namespace Go.Fi
open Go Go.Ab Go.Proofs Go.Shelf Go.Px Go.Cv Go.Cx Go.Ff Go.Fg Go.Fh
open Go.Fx (Ty Vl)
variable [Cs.MaxL] -- 3
attribute [local instance 9000] Cs.tabsC
def E2:Env:=Env.nil
theorem ok_E2:ja0 Tryz.prog E2:=jav
def s69(t:Ty):Bool×Value:=(decide (t.s.size≤9223372036854775807),B (decide (200<(t.s.size:Int))))
theorem v69(t:Ty)(R:Value→Prop):jaz Tryz.prog E2 noL Tryz.f69 [Enc.enc t] (fun _=>none) 0 (fun v _ _=>R v)=(R (B (decide ((t.s.size:Int)>200)))):=by kernel_rfl
theorem ok69:jan Tryz.prog 69 (sp1 s69):=by
 refine jck ok_E2 hmix (.m Tryz.func69) jaj jag fun t hc=> ?_
 rw[ja5,v69];have hc:(t.s.size≤9223372036854775807):=jab hc
 try dsimp only[s69]
def E3:Env:=E2.add 69 (sp1 s69)
theorem ok_E3:ja0 Tryz.prog E3:=jak ok_E2 ok69
def E4:Env:=Env.nil.addG 119 (inlQ Tryz.prog E3 noL Tryz.f119)
theorem ok_E4:ja0 Tryz.prog E4:=jau jav (jbd ok_E3 hmix (.m Tryz.func119) jaj)
def E5:Env:=(Env.nil.add 69 (sp1 s69)).addG 68 (inlQ Tryz.prog E4 noL Tryz.f68)
theorem ok_E5:ja0 Tryz.prog E5:=jau (jak jav ok69) (jbd ok_E4 hmix (.m Tryz.func68) jaj)
def s21:Ab.Spec:=fun args bs=>match args,bs with
 | [.slice (some ⟨_,0,some 1⟩) 1 cap],[some ⟨[.int .i64 k,.int .i64 p,.int .i64 q,.bool v,.string s],ty,o⟩]=>some ((decide (s.size≤9223372036854775807)),B (decide ((s.size:Int)≤200)))
 | _,_=>none
theorem v21_0(k:Int)(p:Int)(q:Int)(v:Bool)(s:Y)(ty:TypeId)(o:Bool)(cap:Nat)(R:Value→Prop):jaz Tryz.prog E5 noL Tryz.f21 [.slice (some ⟨0,0,some 1⟩) 1 cap] (vw [I k,I p,I q,B v,S s] ty) 1 (fun v _ _=>R v)=(dt (decide (200<al s)) s (R (B (!decide (0≥0)))) (R (B (!decide (-(1:Int)≥0))))):=by kernel_rfl
theorem k21_0(k:Int)(p:Int)(q:Int)(v:Bool)(s:Y)(ty:TypeId)(o:Bool)(cap:Nat)(hc:((decide (s.size≤9223372036854775807)))=true):jba Tryz.prog E5 noL Tryz.f21 [.slice (some ⟨0,0,some 1⟩) 1 cap] [some ⟨[.int .i64 k,.int .i64 p,.int .i64 q,.bool v,.string s],ty,o⟩] 1 (B (decide ((s.size:Int)≤200))):=by
 rw[jba,jhq (o:=o) (show jay [.int .i64 k,.int .i64 p,.int .i64 q,.bool v,.string s]=true from rfl),v21_0 (v:=v) (o:=o)];delta ax dt al;refine c_t hc (cond_intro (fun h=> ?_) (fun h=> ?_))
 ·have h:200<(s.size:Int):=jab h;rw[jad (show¬(s.size:Int)≤200 by omega)];rfl
 ·have h:¬200<(s.size:Int):=jac h;rw[jaa (show(s.size:Int)≤200 by omega)];rfl
theorem ok21:jan Tryz.prog 21 s21:=by
 refine jbz ok_E5 hmix (.m Tryz.func21) jaj fun args bs v hs=> ?_
 simp only[s21]at hs;split at hs
 ·simp only[Option.some.injEq,Prod.mk.injEq]at hs;obtain⟨hc,rfl⟩:=hs;exact⟨_,1,rfl,rfl,jag,k21_0 _ _ _ _ _ _ _ _ (by first | rfl | exact hc)⟩
 ·cases hs
theorem lgO_ex:∃d:Fo→Bool,d=jec:=⟨_,rfl⟩
def lgO:Fo→Bool:=Classical.choose lgO_ex
theorem lgO_eq:lgO=jec:=Classical.choose_spec lgO_ex
theorem bdO_ex:∃d:Fo→Bool,d=pBad:=⟨_,rfl⟩
def bdO:Fo→Bool:=Classical.choose bdO_ex
theorem bdO_eq:bdO=pBad:=Classical.choose_spec bdO_ex
def s11h:Ab.Spec:=fun args bs=>match args,bs with
 | [.slice (some ⟨_,0,some 1⟩) 1 cap],[some ⟨[.int .i64 a,.int .i64 b,.int .i64 c,.string s],ty,o⟩]=>some (szF ⟨a,b,c,s⟩,B (!lgO ⟨a,b,c,s⟩))
 | _,_=>none
def s12h:Ab.Spec:=fun args bs=>match args,bs with
 | [.slice (some ⟨_,0,some 1⟩) 1 cap],[some ⟨[.int .i64 a,.int .i64 b,.int .i64 c,.string s],ty,o⟩]=>some (szF ⟨a,b,c,s⟩,I (bif bdO ⟨a,b,c,s⟩then 130 else 0))
 | _,_=>none
theorem pure_le{f:FuncId}{s s':Ab.Spec}(h:jan Tryz.prog f s)(hl:∀a bs v,s' a bs=some (true,v)→s a bs=some (true,v)):jan Tryz.prog f s':=
 ⟨h.1,fun args v N w0 lk ι w hr hs hv=>h.2 args v N w0 lk ι w hr (hl _ _ _ hs) hv⟩
theorem fo_one(a b c:Int)(s:Y)(h:szF ⟨a,b,c,s⟩=true):foOK [.int .i64 a,.int .i64 b,.int .i64 c,.string s] 0 1=true∧foA [.int .i64 a,.int .i64 b,.int .i64 c,.string s] 0 1=[⟨a,b,c,s⟩]:=
 ⟨foOK_own (l:=[⟨a,b,c,s⟩]) (r:=[]) rfl (fun f hf=>by rw[List.mem_singleton.1 hf];exact jag h),foA_own [⟨a,b,c,s⟩] []⟩
theorem ok11h:jan Tryz.prog 22 s11h:=pure_le (Cs.pureCB K42.ok11) fun a bs v h=>by
 unfold s11h at h;split at h
 ·simp only[Option.some.injEq,Prod.mk.injEq]at h;obtain⟨h1,rfl⟩:=h;obtain⟨e1,e2⟩:=fo_one _ _ _ _ h1;simp only[K42.s11,e1,e2,h1,lgO_eq,List.any_cons,List.any_nil,Bool.or_false,Bool.and_true];rw[jaa (show((1:Nat):Int)≤40 by decide),Bool.true_and]
 ·cases h
theorem ok12h:jan Tryz.prog 24 s12h:=pure_le (Cs.pureCB K43.ok12) fun a bs v h=>by
 unfold s12h at h;split at h
 ·simp only[Option.some.injEq,Prod.mk.injEq]at h;obtain⟨h1,rfl⟩:=h;obtain⟨e1,e2⟩:=fo_one _ _ _ _ h1;simp only[K43.s12,e1,e2,h1,bdO_eq,List.any_cons,List.any_nil,Bool.or_false,Bool.and_true];rw[jad (show¬16<((1:Nat):Int)by decide),Bool.false_or]
 ·cases h
def s4(f:Fo)(v:Vl)(t:Ty):Bool×Value:=(decide (szs f v t),B true)
end Go.Fi
end
noncomputable section
set_option maxHeartbeats 3200000
set_option maxRecDepth 100000
namespace Go.Fk
open Go Go.Ab Go.Proofs Go.Shelf Go.Px Go.Cv Go.Cx Go.Ff Go.Fg Go.Fh Go.Fi Go.Fj Go.Fl
open Go.Fx (Ty Vl)
variable [Cs.MaxL] -- 3
attribute [local instance 9000] Cs.tabsC
def L5:Env:=(((((((((((Env.nil.add 9 (memo Cs.m6)).add 29 (sp1 s29)).add 21 Fi.s21).add 22 s11h).add 23 (sp2 z22)).add 24 s12h).add 30 (sp2 s30)).add 25 (sp3 s8u)).add 31 (sp1 Fl.s31)).add 27 (sp1 Fi.s27)).add 32 (sp1 s32)).add 33 (sp3 s33s)
theorem ok_L5:ja0 Tryz.prog L5:=jak (jak (jak (jak (jak (jak (jak (jak (jak (jak (jak (jak jav Cs.pk6) (Cs.pureCB ok29)) Fi.ok21) ok11h) (Cs.pureC (z22_eq▸ok22f))) ok12h) (Cs.pureCB ok30)) (Cs.pureCB ok8u)) (Cs.pureCB Fl.ok31)) (Cs.pureCB Fi.ok27)) (Cs.pureCB ok32)) (Cs.pureCB ok33s)
def s5(f:Fo)(v:Vl)(t:Ty):Bool×Value:=(decide (szs f v t),B true)
theorem v5(f:Fo)(v:Vl)(t:Ty)(R:Value→Prop):jaz Tryz.prog L5 noL Tryz.f5 [Enc.enc f,Enc.enc v,Enc.enc t] (fun _=>none) 0 (fun v _ _=>R v)=(bif !decide (dx (Fx.Vl.s v)≤600)then R (B true)else dt (!decide (dx (Fx.Ty.s t)≤200)) (Fx.Ty.s t) (R (B true)) (bif Fg.szF f then bif !!Fi.lgO f then R (B true)else lu (Fg.szF f) t v (ftT v t) (bif (bif Fi.bdO f then(130:Int)else(0:Int)) !=0 then R (B true)else bif !Fk.hoO f t then R (B true)else bif decide (Fh.szs f v t)then bif ax (Ff.Fo.s f)then br ((Fh.edR f v t).snd !=0) ((Fl.weO f).snd !=0 || true) ((Fh.edR f v t).snd !=0 || ((Fl.weO f).snd !=0 || dx (Fh.edR f v t).fst !=(Fl.weO f).fst)) (R (B false)) (ji (Ff.Fo.k f==3) (Ff.Fo.w f==0 || decide ((Fh.edR f v t).fst.size≤1000000) && (Fi.stO (Fh.edR f v t).fst || decide ((Fh.edR f v t).fst.size≤1000000) &&true)) true (Ff.Fo.k f==3&& (Ff.Fo.w f==0 || (Fi.stO (Fh.edR f v t).fst || decide (Fk.cntD (bz (Fh.edR f v t).fst)>9)))) (R (B true)) (g8 (decide (Fj.rdD f (Fh.edR f v t).fst t)) ((Fj.rdO f (Fh.edR f v t).fst t).snd.snd==0 || true) (B (0==0&& ((Fj.rdO f (Fh.edR f v t).fst t).snd.snd==0&& ((Fj.rdO f (Fh.edR f v t).fst t).fst==Fx.Vl.n v&& (du (Fj.rdO f (Fh.edR f v t).fst t).snd.fst (Fx.Vl.s v) &&true))))) R))else False else False) False (B true) R else False)):=by kernel_rfl
theorem ok5:jan Tryz.prog 5 (sp3 s5):=by
 refine jkh ok_L5 hmix (.m Tryz.func5) jaj jag fun f v t hc=> ?_
 rw[ja5,v5];delta ax dt ii kl lu br ji aq g8 du dx;have hc:(szs f v t):=jab hc
 try dsimp only[s5]
 obtain⟨h1,h2,h3⟩:=hc;have hz:szF f=true:=Nat.ble_eq_true_of_le h1;refine cond_intro (fun _=>rfl) (fun _=>c_t (jaa h2) (cond_intro (fun _=>rfl) (fun _=>c_t hz (cond_intro (fun _=>rfl) (fun _=>c_t (jaa ⟨h2,h3⟩) (cond_intro (fun _=>rfl) (fun qf=> ?_)))))))
 have hf:fit4 v t=0:=by
  rw[jl4]at qf;simpa using qf
 refine c_t hz (cond_intro (fun _=>rfl) (fun qb=>cond_intro (fun _=>rfl) (fun qh=>c_t (jaa ⟨h1,h2,h3⟩) (c_t (jaa h1) (c_t (by simp) ?_)))))
 have hr:jby f=true:=by
  rw[bdO_eq]at qb;cases h:jby f with
  | true=>rfl
  | false=>simp[pBad,h]at qb
 have hh:hoP f t=true:=by
  rw[hoO_eq]at qh;simpa using qh
 have hcase:(f.k=3∧(t.k=1∧t.q≤f.d∨t.k=2))∨(f.k=1∧t.k=3∧t.v=false∧t.p≤f.w∧0<t.p)∨(f.k=2∧t.k=4∧f.w=t.p)∨(f.k=4∧t.k=5∧f.s=t.s):=by
  unfold hoP at hh;by_cases k3:f.k=3
  ·simp[k3]at hh;exact .inl ⟨k3,hh⟩
  by_cases k1:f.k=1
  ·simp[k1]at hh;exact .inr (.inl ⟨k1,hh⟩)
  by_cases k2:f.k=2
  ·simp[k2]at hh;exact .inr (.inr (.inl ⟨k2,hh⟩))
  by_cases k4:f.k=4
  ·simp[k4]at hh;exact .inr (.inr (.inr ⟨k4,hh.1,tl_inj hh.2⟩))
  ·simp[k1,k2,k3,k4]at hh
 have hk:f.k≤4:=by omega
 have h6:t.k≠6:=by omega
 have hck:=(fit0.1 hf).1
 have hty:typE t=0:=by
  unfold typE;rw[if_neg (by simp[hck]),if_neg h6]
 have hE:fitE v t=0:=by
  unfold fitE;rw[if_neg (by simp[hf]),hty]
 have hed:edR f v t=(edO f v t,0):=by
  rw[edR_eq];unfold edQ;rw[if_pos ⟨hr,hk⟩,if_neg (by rw[hE];simp)]
 have hwe:weO f=(wdO f,0):=by rw[jmj,wdE,if_pos ⟨hr,hk⟩]
 have hl:=ed_len (v:=v) h2 hr hk hf h6 (by omega);have hw:=wd_r hr hk;have hs:decide ((edO f v t).size≤1000000)=true:=jaa (by omega);rw[hed,hwe];simp only;rw[hs];refine c_f (by simp[hl]) (c_t (by cases f.k==3<;>simp) (cond_intro (fun _=>trivial) (fun q=> ?_)))
 have key:Fj.rdD f (edO f v t) t∧rdO f (edO f v t) t=(v.n,v.s,0):=by
  have mk:(f.k=1∨f.k=2∧(trm (edO f v t)).size≤64∧jca (bz (trm (edO f v t)))=true∨f.k=3∧rfC (edO f v t)∨f.k=4)→Fj.rdD f (edO f v t) t:=fun g=>⟨⟨h1,by omega,⟨h2,hck⟩,g⟩,hr,hty,hl,fun _=>by omega⟩
  rcases hcase with⟨k3,ht⟩ | ⟨k1,a3,av,ap,ap0⟩ | ⟨k2,a4,aw⟩ | ⟨k4,a5,ap⟩
  ·simp only[k3,beq_self_eq_true,Bool.true_and,Bool.or_eq_false_iff,beq_eq_false_iff_ne,decide_eq_false_iff_not]at q;obtain⟨q1,q2,q3⟩:=q;obtain⟨g1,g2⟩:=back_F k3 hr hf ht q1 q2 (by omega);exact⟨mk (.inr (.inr (.inl ⟨k3,g1⟩))),g2⟩
  ·exact⟨mk (.inl k1),back_A k1 hr hf a3 av ap ap0⟩
  ·obtain⟨g1,g2,g3,g4⟩:=back_B k2 hf a4 aw;rw[g1]at mk ⊢;exact⟨mk (.inr (.inl ⟨k2,g2,g3⟩)),g4⟩
  ·obtain⟨g1,g2⟩:=back_P k4 hf a5 ap;rw[g1]at mk ⊢;exact⟨mk (.inr (.inr (.inr k4))),g2⟩
 rw[jaa key.1,key.2];simp
end Go.Fk
end
noncomputable section
namespace Go.Px
open Go Go.Ab Go.Proofs Go.Shelf Go.ChangeMaps Go.ChangeShapes Go.WideShapes Go.ChangeAt Go.RowKit Go.Joins
open Go.Proofs.YtiahilhlpmohoaaGreatDoor
theorem own:ownKnob Tryz.prog.godebug=none:=by kernel_rfl
def laidL:List (String×DataW Unit):=Rows.formatStarsRow.laid
theorem tab_is{P:Program}{W:World}{name:String}{k:IntKind}{zs:J}{g:Nat}{t e:TypeId}{n:Nat}(hr:Lib.VarReads P W name (Lib.tabData k zs))
  (hg:P.globalNamed name=some g) (hty:(P.globals[g]?).map (·.type)=some t) (ht:P.underlying t=some (.array n e)) (he:P.underlying e=some (.int k)) (hce:P.cellsOf e=1) (hct:P.cellsOf t=n):
  g<W.heap.size∧ ∃ty fr,W.heap[g]?=some (.cells ⟨zs.map fun z=>Value.int k z⟩ ty fr):=by
 obtain⟨g',t',cs,fuel,p,h1,h2,h3,h4⟩:=hr;obtain rfl:=Option.some.inj (hg.symm.trans h1);obtain rfl:=Option.some.inj (hty.symm.trans h2);have hc:=Lib.cells_of_tab ht he hce hct h4;unfold World.var? at h3;rw[hg,Option.bind_some]at h3;split at h3
 case h_2=>cases h3
 rename_i cs' ty fr hh;have h3:=Option.some.inj h3;refine⟨(Array.getElem?_eq_some_iff.1 hh).1,ty,fr,?_⟩;rw[hh,h3];congr 2;rw[←hc]
theorem rt : (Tryz.prog.cutTypes.find? (·.1 == "internal/reflectlite.rtype")).map (·.2) = some 304 := by kernel_rfl
theorem tsz:Tryz.prog.types.size=371:=by kernel_rfl
theorem oneRow:((List.range 371).filter fun t=>Tryz.prog.rowNamed t [101,114,114,111,114])=[157]:=by kernel_rfl
theorem hdl:typeHandle Tryz.prog 157= .pointer (some ⟨10,157,none⟩):=by kernel_rfl
theorem gE : Tryz.prog.globalNamed "errors.errorType" = some 0 := by kernel_rfl
theorem laid_h : laidL.filter (fun x => x.2.handleName?.isSome) = [("errors.errorType", Rows.laid_errors_errorType)] := by kernel_rfl
theorem laid_d : laidL.filter (fun x => x.2.handleName?.isNone) = ([("math/bits.deBruijn32tab", YtiahilhlpmohoaaGreatDoor.Rows.laid_math_bits_deBruijn32tab), ("math/bits.deBruijn64tab", YtiahilhlpmohoaaGreatDoor.Rows.laid_math_bits_deBruijn64tab), ("internal/strconv.uint64pow10", YtiahilhlpmohoaaGreatDoor.Rows.laid_internal_strconv_uint64pow10), ("unicode/utf8.acceptRanges", YtiahilhlpmohoaaGreatDoor.Rows.laid_unicode_utf8_acceptRanges), ("strconv.ErrRange", YtiahilhlpmohoaaGreatDoor.Rows.laid_strconv_ErrRange), ("strconv.ErrSyntax", YtiahilhlpmohoaaGreatDoor.Rows.laid_strconv_ErrSyntax), ("pliant/picture.punched", YtiahilhlpmohoaaGreatDoor.Rows.laid_pliant_picture_punched), ("unicode/utf8.first", YtiahilhlpmohoaaGreatDoor.Rows.laid_unicode_utf8_first)]) := by kernel_rfl
theorem handle_of_laid {W : World} (h : handlesMet Tryz.prog [("errors.errorType", Rows.laid_errors_errorType)] W) : 0 < W.heap.size ∧ ∃ ty fr, W.heap[0]? = some (.cells #[.iface 304 (.agg #[.pointer (some ⟨10, 157, none⟩)])] ty fr) := by
 obtain⟨name,u,ty,e1,e2,e3,e4,e5⟩:=h _ (List.mem_singleton.2 rfl);have en:name=[101,114,114,111,114]:=(Option.some.inj e1).symm;subst en;obtain rfl:=Option.some.inj (rt.symm.trans e2);have hm:ty∈(List.range 371).filter fun t=>Tryz.prog.rowNamed t [101,114,114,111,114]:=List.mem_filter.2 ⟨List.mem_range.2 (by rw[←tsz];exact e3),e4⟩
 rw[oneRow]at hm;obtain rfl:=List.mem_singleton.1 hm;rw[hdl]at e5;unfold World.var? at e5;rw[gE,Option.bind_some]at e5;split at e5
 case h_2=>cases e5
 rename_i cs' ty fr hh;have e5:=Option.some.inj e5;exact⟨(Array.getElem?_eq_some_iff.1 hh).1,ty,fr,by rw[hh,e5]⟩
set_option maxRecDepth 100000 in
theorem tabs_of_laid{W:World}(h:laidMetH Tryz.prog laidL W):TabsIn W.heap.size W:=by
 obtain⟨hd,hh⟩:=laidMetH_iff.1 h;rw[laid_h]at hh;rw[laid_d]at hd;intro b r hb
 have key:∀b:Nat,jme b=some r→b=3∧r=punchedZ.map (fun n=>Value.int .u8 n)∨b=2∧r=pow10Z.map (fun n=>Value.int .u64 n)∨b=0∧r=[.iface 304 (.agg ⟨[.pointer (some ⟨10,157,none⟩)]⟩)]:=by
  intro b hb;unfold jme at hb;split at hb
  ·cases hb;exact .inl ⟨rfl,rfl⟩
  ·cases hb;exact .inr (.inl ⟨rfl,rfl⟩)
  ·cases hb;exact .inr (.inr ⟨rfl,rfl⟩)
  ·cases hb
 have t5:Tryz.prog.cellsOf 5=1:=by kernel_rfl
 rcases key b hb with⟨rfl,rfl⟩ | ⟨rfl,rfl⟩ | ⟨rfl,rfl⟩
 ·have hr : Lib.VarReads Tryz.prog W "pliant/picture.punched" (Lib.tabData .u8 punchedZ) := Lib.laidMet.reads hd (.tail _ (.tail _ (.tail _ (.tail _ (.tail _ (.tail _ (.head _)))))))
  exact tab_is hr (g:=3) (t:=318) (n:=20) (e:=5) (by kernel_rfl) (by kernel_rfl) (by kernel_rfl) (by kernel_rfl) t5 (by kernel_rfl)
 ·have hr : Lib.VarReads Tryz.prog W "internal/strconv.uint64pow10" (Lib.tabData .u64 pow10Z) := Lib.laidMet.reads hd (.tail _ (.tail _ (.head _)))
  exact tab_is hr (g:=2) (t:=287) (n:=20) (e:=137) (by kernel_rfl) (by kernel_rfl) (by kernel_rfl) (by kernel_rfl) (by kernel_rfl) (by kernel_rfl)
 ·exact handle_of_laid hh
noncomputable def handleWorld (os : Os) : World :=
 let w0:=World.holding Tryz.prog os ⟨#[], #[],[]⟩
 {w0 with heap:=w0.heap.modify 0 fun
   | .cells _ t frozen=> .cells #[.iface 304 (.agg #[.pointer (some ⟨10,157,none⟩)])] t frozen
   | o=>o}
def laidD:List (String×DataW Unit):=laidL.filter fun x=>x.2.handleName?.isNone
noncomputable def laidWorld (os : Os) : World := (handleWorld os).layVars Tryz.prog laidD
theorem laidWorld_os(os:Os):(laidWorld os).os=os:=World.layVars_os _ _ _
theorem laidWorld_met(os:Os)(args:Array Value):laidMetH Tryz.prog laidL ((laidWorld os).forCall (fun _ _=>0) ⟨#[],args,[]⟩).memory:=by
 refine laidMetH_of_parts ?_ (by kernel_rfl);have e1:(laidD.filter fun x=>(laidD.map (·.1)).contains x.1)=laidD:=List.filter_eq_self.2 fun x hx=>List.contains_iff_mem.2 (List.mem_map.2 ⟨x,hx,rfl⟩)
 have e2:(laidD.filter fun x=> !(laidD.map (·.1)).contains x.1)=[]:=List.filter_eq_nil_iff.2 fun x hx=>by rw[List.contains_iff_mem.2 (List.mem_map.2 ⟨x,hx,rfl⟩)];simp
 have h:laidMet Tryz.prog laidD (laidWorld os):=laidMet_layVars (w0:=handleWorld os) (laidD.map (·.1)) [] (by rw[e1];rfl) (by rw[e1];kernel_rfl) (by rw[e1];kernel_rfl) (by rw[e2];exact LaidIn.none);exact h.of_heap (by simp[World.memory,World.forCall,Input.heap])
def jmc(P:Program)(t:TypeId)(α:Type) [Enc α](Q:α→Prop):Prop:=
 ∀{H:Type}{enc:TypeId×Value→H}{w:World}{base:Nat}{spare:Nat→Bool}{held:Bool}{r:Reach}{b0:Nat}{v:Value}{d:DataW H}{p:List MemPlace},Value.okWide P w r b0 t v→DataW.Trod enc P w base spare held t v d p→
  ∃a:α,v=Enc.enc a∧Q a∧p=[]∧ ∀(w':World)(b':Nat)(sp':Nat→Bool)(hd':Bool),DataW.Trod enc P w' b' sp' hd' t v d []
theorem jep{P:Program}{α:Type} [Enc α]{t:TypeId}{fs:Array Field}{Q:α→Prop}(hs:P.underlying t=some (.struct fs))(hl:fs.toList.all (fun f=>jnp P f.type)=true)
  (hc : ∀ cs : Array Value, cs.size = P.cellsOf t → (∀ (i : Nat) (f : Field), fs[i]? = some f → ∃ (H : Type) (enc : TypeId × Value → H) (w : World) (base : Nat) (spare : Nat → Bool) (held : Bool) (n : Nat) (y : DataW H × List MemPlace),
   DataW.trod enc P w base spare held n f.type ((cs.toList.drop f.offset).take (P.cellsOf f.type))=some y)→ ∃a:α,Value.agg cs=Enc.enc a∧Q a):jmc P t α Q:=by
 intro H enc w base spare held r b0 v d p hv h;obtain⟨cs,rfl,hsz⟩:=okWide_struct hs hv;obtain⟨fuel,hf⟩:=h;simp only[Value.cells]at hf;obtain⟨hp,hany⟩:=leaves_any hs hl hf;obtain⟨xs,n,_,_,hlen,hxs,hg⟩:=DataW.trod_struct hs hf
 obtain⟨a,ha,hq⟩:=hc cs hsz fun i f hi=>by
  have hlt:i<xs.length:=by
   have:=(Array.getElem?_eq_some_iff.1 hi).1;omega
  exact⟨H,enc,w,base,spare,held,n,xs[i],by rw[hg i f hi,List.getElem?_eq_getElem hlt]⟩
 simp only at hp;subst hp;exact⟨a,ha,hq,rfl,fun w' b' sp' hd'=>⟨2,by simpa[Value.cells]using hany w' b' sp' hd'⟩⟩
def r64(n:Int):Prop:= -9223372036854775808≤n∧n≤9223372036854775807
def rS(s:Y):Prop:=s.size≤9223372036854775807
theorem r64_wf{n:Int}(h:(Lit.int .i64 n).wf=true):r64 n:=by simpa[Lit.wf,IntKind.min,IntKind.max,IntKind.signed,IntKind.bits,r64]using h
theorem array5{α:Type}{cs:Array α}(h:cs.size=5):∃c0 c1 c2 c3 c4,cs= #[c0,c1,c2,c3,c4]:=by
 obtain⟨l⟩:=cs
 match l,h with
 | [c0,c1,c2,c3,c4],_=>exact⟨c0,c1,c2,c3,c4,rfl⟩
theorem oT:jmc Tryz.prog 45 Fx.Ty fun t=>r64 t.k∧r64 t.p∧r64 t.q∧rS t.s:=by
 refine jep Tryz.underlying45 (by kernel_rfl) fun cs hsz hf=> ?_
 have hc:Tryz.prog.cellsOf 45=5:=by kernel_rfl
 have h3:Tryz.prog.cellsOf 3=1:=by kernel_rfl
 have h4:Tryz.prog.cellsOf 4=1:=by kernel_rfl
 have h9:Tryz.prog.cellsOf 9=1:=by kernel_rfl
 rw[hc]at hsz;obtain⟨c0,c1,c2,c3,c4,rfl⟩:=array5 hsz
 ·obtain ⟨H, enc, w, base, spare, held, n, y, h0⟩ := hf 0 { name := "Kind", type := 3, offset := 0, embedded := false, tag := "", pkgPath := "", byteOffset := 0 } rfl
  obtain ⟨H, enc, w, base, spare, held, n, y, h1⟩ := hf 1 { name := "P", type := 3, offset := 1, embedded := false, tag := "", pkgPath := "", byteOffset := 8 } rfl
  obtain ⟨H, enc, w, base, spare, held, n, y, h2⟩ := hf 2 { name := "Q", type := 3, offset := 2, embedded := false, tag := "", pkgPath := "", byteOffset := 16 } rfl
  obtain ⟨H, enc, w, base, spare, held, n, y, hv⟩ := hf 3 { name := "Vary", type := 4, offset := 3, embedded := false, tag := "", pkgPath := "", byteOffset := 24 } rfl
  obtain ⟨H, enc, w, base, spare, held, n, y, hs⟩ := hf 4 { name := "Pic", type := 9, offset := 4, embedded := false, tag := "", pkgPath := "", byteOffset := 32 } rfl
  obtain⟨k,e0,_,w0⟩:=DataW.trod_int Tryz.underlying3 h0;obtain⟨p,e1,_,w1⟩:=DataW.trod_int Tryz.underlying3 h1;obtain⟨q,e2,_,w2⟩:=DataW.trod_int Tryz.underlying3 h2;obtain⟨v,e3,_⟩:=DataW.trod_bool Tryz.underlying4 hv;obtain⟨s,e4,_,w4⟩:=DataW.trod_string Tryz.underlying9 hs;simp only[h3,h4,h9,List.drop_zero,List.drop_succ_cons,List.take_succ_cons,List.take_zero,List.cons.injEq,and_true]at e0 e1 e2 e3 e4;exact⟨⟨k,p,q,v,s⟩,by rw[e0,e1,e2,e3,e4];rfl,r64_wf w0,r64_wf w1,r64_wf w2,Nat.le_trans w4 (by decide)⟩
theorem array2{α:Type}{cs:Array α}(h:cs.size=2):∃c0 c1,cs= #[c0,c1]:=by
 obtain⟨l⟩:=cs
 match l,h with
 | [c0,c1],_=>exact⟨c0,c1,rfl⟩
theorem oV:jmc Tryz.prog 32 Fx.Vl fun v=>r64 v.n∧rS v.s:=by
 refine jep Tryz.underlying32 (by kernel_rfl) fun cs hsz hf=> ?_
 have hc:Tryz.prog.cellsOf 32=2:=by kernel_rfl
 have h3:Tryz.prog.cellsOf 3=1:=by kernel_rfl
 have h9:Tryz.prog.cellsOf 9=1:=by kernel_rfl
 rw[hc]at hsz;obtain⟨c0,c1,rfl⟩:=array2 hsz
 ·obtain ⟨H, enc, w, base, spare, held, n, y, h0⟩ := hf 0 { name := "N", type := 3, offset := 0, embedded := false, tag := "", pkgPath := "", byteOffset := 0 } rfl
  obtain ⟨H, enc, w, base, spare, held, n, y, h1⟩ := hf 1 { name := "S", type := 9, offset := 1, embedded := false, tag := "", pkgPath := "", byteOffset := 8 } rfl
  obtain⟨k,e0,_,w0⟩:=DataW.trod_int Tryz.underlying3 h0;obtain⟨s,e4,_,w4⟩:=DataW.trod_string Tryz.underlying9 h1;simp only[h3,h9,List.drop_zero,List.drop_succ_cons,List.take_succ_cons,List.take_zero,List.cons.injEq,and_true]at e0 e4;exact⟨⟨k,s⟩,by rw[e0,e4];rfl,r64_wf w0,Nat.le_trans w4 (by decide)⟩
theorem array4{α:Type}{cs:Array α}(h:cs.size=4):∃c0 c1 c2 c3,cs= #[c0,c1,c2,c3]:=by
 obtain⟨l⟩:=cs
 match l,h with
 | [c0,c1,c2,c3],_=>exact⟨c0,c1,c2,c3,rfl⟩
theorem oF:jmc Tryz.prog 48 Go.Ff.Fo fun v=>r64 v.k∧r64 v.w∧r64 v.d∧rS v.s:=by
 refine jep Tryz.underlying48 (by kernel_rfl) fun cs hsz hf=> ?_
 have hc:Tryz.prog.cellsOf 48=4:=by kernel_rfl
 have h3:Tryz.prog.cellsOf 3=1:=by kernel_rfl
 have h9:Tryz.prog.cellsOf 9=1:=by kernel_rfl
 rw[hc]at hsz;obtain⟨c0,c1,c2,c3,rfl⟩:=array4 hsz
 ·obtain ⟨H, enc, w, base, spare, held, n, y, h0⟩ := hf 0 { name := "Kind", type := 3, offset := 0, embedded := false, tag := "", pkgPath := "", byteOffset := 0 } rfl
  obtain ⟨H, enc, w, base, spare, held, n, y, h1⟩ := hf 1 { name := "W", type := 3, offset := 1, embedded := false, tag := "", pkgPath := "", byteOffset := 8 } rfl
  obtain ⟨H, enc, w, base, spare, held, n, y, h2⟩ := hf 2 { name := "D", type := 3, offset := 2, embedded := false, tag := "", pkgPath := "", byteOffset := 16 } rfl
  obtain ⟨H, enc, w, base, spare, held, n, y, hs⟩ := hf 3 { name := "Pic", type := 9, offset := 3, embedded := false, tag := "", pkgPath := "", byteOffset := 24 } rfl
  obtain⟨k,e0,_,w0⟩:=DataW.trod_int Tryz.underlying3 h0;obtain⟨p,e1,_,w1⟩:=DataW.trod_int Tryz.underlying3 h1;obtain⟨q,e2,_,w2⟩:=DataW.trod_int Tryz.underlying3 h2;obtain⟨s,e4,_,w4⟩:=DataW.trod_string Tryz.underlying9 hs;simp only[h3,h9,List.drop_zero,List.drop_succ_cons,List.take_succ_cons,List.take_zero,List.cons.injEq,and_true]at e0 e1 e2 e4;exact⟨⟨k,p,q,s⟩,by rw[e0,e1,e2,e4];rfl,r64_wf w0,r64_wf w1,r64_wf w2,Nat.le_trans w4 (by decide)⟩
noncomputable def hAB (fn : Func) (s : ChangeSpec) (c : OpenClaim) : Bool := c.wf (OpenSpec.ofChange s) && fn.params.all (Tryz.prog.readableRec ·) && namedTie Tryz.prog c.named s.vars && (c.stops == []) && (c.knobs == [])
noncomputable def hRB (fn : Func) (s : ChangeSpec) (c : OpenClaim) : Bool := (c.maps == (fn.params.toList ++ s.plain.varTypes Tryz.prog).any (Tryz.prog.mapsRec ·)) && (c.ifaces == (fn.params.toList ++ s.plain.varTypes Tryz.prog).any (Tryz.prog.ifacesRec ·)) && (c.mapsOut == Tryz.prog.mapsAmong fn.resultTypes.toList) && (c.loops == (fn.params.toList ++ s.plain.varTypes Tryz.prog).any (Tryz.prog.loopsFrom ·))
noncomputable def hSB (fn : Func) (s : ChangeSpec) (c : OpenClaim) : Bool := (c.wideKeys == (fn.params.toList ++ s.plain.varTypes Tryz.prog ++ fn.resultTypes.toList).any (Tryz.prog.wideKeysFrom ·)) && s.vars.all (Tryz.prog.varReadable ·) && fn.resultTypes.all (fun t => Tryz.prog.readableRec t && decide (t<Tryz.prog.types.size)) && (c.ifacesOut == fn.resultTypes.toList.any (Tryz.prog.ifacesRec ·)) && (c.loopsOut == fn.resultTypes.toList.any (Tryz.prog.loopsFrom ·)) && c.shortTexts.isNone
noncomputable def hTB (fn : Func) (s : ChangeSpec) (c : OpenClaim) : Bool := (c.kinds == (if c.domain.isEmpty then [] else fn.params.toList.map fun t => match Tryz.prog.underlying t with | some (.int k) => some k | _ => none)) && (c.pinned == c.pinnedBy) && (c.veiled == (fn.params.toList ++ s.plain.varTypes Tryz.prog ++ fn.resultTypes.toList).any (Tryz.prog.veiledRec ·)) && c.veiledFits Tryz.prog fn.params.toList (fn.params.toList ++ s.plain.varTypes Tryz.prog ++ fn.resultTypes.toList)
set_option maxRecDepth 100000 in
theorem jf_mk{f:FuncId}{fn:Func}{s:ChangeSpec}{c:OpenClaim}(hA:hAB fn s c=true)(h1:(c.inPlace==Tryz.prog.inPlace f)=true)(h2:(c.unfollowed==Tryz.prog.unfollowed f)=true)(h3:(c.recurses==Tryz.prog.recurses f)=true)(h4:(c.named==Tryz.prog.varsNamed f)=true)
  (hR:hRB fn s c=true) (hS:hSB fn s c=true)
  (hk:(c.plainKeys==Tryz.prog.plainKeys)=true) (hl:(c.lifted==Tryz.prog.liftsFinal)=true) (hm:(Tryz.prog.make==some c.make)=true)
  (hT:hTB fn s c=true):joinedFacts Tryz.prog f fn s c=true:=by
 unfold joinedFacts;simp only[hAB,hRB,hSB,hTB,jaf]at hA hR hS hT;obtain⟨⟨⟨⟨a1,a2⟩,a3⟩,a4⟩,a5⟩:=hA;obtain⟨⟨⟨r1,r2⟩,r3⟩,r4⟩:=hR;obtain⟨⟨⟨⟨⟨s1,s2⟩,s3⟩,s4⟩,s5⟩,s6⟩:=hS;obtain⟨⟨⟨t1,t2⟩,t3⟩,t4⟩:=hT;rw[a1,a2,a3,a4,a5,h1,h2,h3,h4,r1,r2,r3,r4,s1,s2,s3,s4,s5,s6,t2,t3,t4,q_laid,q_maps,q_stop,q_knob,q_heard,q_enter,hk,hl,hm];simp only[Bool.true_and,Bool.and_true];exact t1
end Go.Px
end
noncomputable section
set_option maxHeartbeats 3200000
set_option maxRecDepth 100000
namespace Go.Ff
open Go Go.Ab Go.Proofs Go.Shelf Go.Px Go.Cv Go.Cx
open Go.Fx (Ty Vl)
variable [Cs.MaxL] -- 3
/-- The tables and the variable. -/
instance (priority:=5000) tabsR:Tabs:={row:=Cs.rowsC,plain:=Cs.tabsC.plain}
theorem pureR{f:FuncId}{s:Ab.Spec}(h: @jan Cs.tabsC Tryz.prog f s): @jan tabsR Tryz.prog f s:=
 ⟨h.1,fun args v N w0 lk ι w hr hs hv=>h.2 args v N w0 lk ι w (@RelM.mk Cs.tabsC N w0 lk ι w hr.below hr.base hr.blk hr.view hr.inj) hs hv⟩
end Go.Ff
end
noncomputable section
namespace Go.Px
open Go Go.Ab Go.Proofs Go.Shelf Go.ChangeMaps Go.ChangeShapes Go.WideShapes Go.ChangeAt Go.RowKit Go.Joins
open Go.Proofs.YtiahilhlpmohoaaGreatDoor
theorem maxlen_of{W:World}(h:W.ShapedOpen Tryz.prog):1<W.heap.size∧ ∃m ty fr,W.heap[1]?=some (.cells ⟨[.int .i64 m]⟩ ty fr):=by
 have h0:((begin Tryz.prog (fun _ _=>0) default).world.heap[1]?).bind Obj.row?=some (#[.int .i64 0],3):=by kernel_rfl
 have hg:1<Tryz.prog.globals.size:=jag;obtain⟨m,hm⟩:=cell_of_shapedOpen_int h hg h0 rfl (by kernel_rfl) (by kernel_rfl) Tryz.underlying3;obtain⟨cs,hh,hs,_⟩:=h.1 1 _ 3 hg h0;refine⟨(Array.getElem?_eq_some_iff.1 hh).1,m,3,(0,0),?_⟩;have h1:cs.size=1:=hs
 obtain⟨c0,rfl⟩:∃c0,cs= #[c0]:=by
  obtain⟨l⟩:=cs
  match l,h1 with
  | [c0],_=>exact⟨c0,rfl⟩
 rw[World.cell?,hh]at hm;have:c0= .int .i64 m:=by simpa using hm
 rw[hh,this]
theorem tabsR_of [Cs.MaxL]{W:World}{ty:TypeId}{fr:Nat×Nat}(h: @TabsIn tabs W.heap.size W)(h1:1<W.heap.size)(hm:W.heap[1]?=some (.cells ⟨[.int .i64 Cs.MaxL.mx]⟩ ty fr)): @TabsIn Ff.tabsR W.heap.size W:=by
 intro b r hb;have hb:Cs.rowsC b=some r:=hb;unfold Cs.rowsC at hb;split at hb
 ·rename_i q;cases hb;obtain rfl:=jah q;exact⟨h1,ty,fr,hm⟩
 ·exact h b r hb
theorem handed_shaped{H:Type}{enc:TypeId×Value→H}{a:Assume}{C:Checked}{os:Os}{f:FuncId}{fn:Func}{s:ChangeSpec}{conds:List PathCond}{apart fresh handsOn again:Bool}{X:World→Array Value→Prop}
  (hX:∀(w w':World)(args:Array Value),w.heap=w'.heap→X w args→X w' args)
  (own:ownKnob C.prog.godebug=none) (started:os.Started) (noInit:C.prog.inits.idxOf? f=none) (hfn:C.prog.funcs[f]?=some fn)
  (witness : ∃ (w : World) (tape : Tape) (i : Input), w.os = os ∧ (w.forCall tape i).Shaped C.prog ∧ i.vars = [] ∧ Input.okWide C.prog (w.forCall tape i) .any w.heap.size f i ∧
   ((s.pre enc C.prog fn conds apart (w.forCall tape i).memory i.args∧X (w.forCall tape i).memory i.args)∧sizedMet enc C.prog fn (OpenSpec.ofChange s) apart (w.forCall tape i).memory i.args)∧a.holds C.prog (lone (Frame.enter C.prog f i.args .normal) [] (w.forCall tape i)))
  (contract : ∀ (W : World) (base : Nat) (args : Array Value) (ds gs : List (DataW H)) (before : List MemPlace),
   (∀(j:Nat) t v,fn.params[j]?=some t→args[j]?=some v→Value.okWide C.prog W .any base t v)→
   DataW.Whole enc C.prog fn.params.toList s.vars apart W args.toList ds gs before→W.ShapedOpen C.prog→X W args→
   Calls C.prog f args W fun e W'=>∃v,e= .returned v∧s.post enc C.prog fn apart fresh handsOn again W args v W'):
  ReturnsInHanded a C os f .any (fun w args=>(s.pre enc C.prog fn conds apart w args∧X w args)∧sizedMet enc C.prog fn (OpenSpec.ofChange s) apart w args) (s.post enc C.prog fn apart fresh handsOn again):=by
 refine returnsInHanded_of_calls own started noInit witness ?_;intro w tape i _ hsh _ hok hpre _;obtain⟨_,_,_,fn',hfn',_,_,_,_,hval⟩:=hok;have e:fn'=fn:=Option.some.inj (hfn'.symm.trans hfn);subst e;obtain⟨⟨⟨ds,gs,before,hw,_⟩,hx⟩,_⟩:=hpre;have hw':=DataW.Whole.of_heap (w':=w.forCall tape i) (by rfl) hw;refine(contract (w.forCall tape i) w.heap.size i.args ds gs before hval hw' hsh (hX _ _ _ (by rfl) hx)).mono fun e W' ⟨v,he,hp⟩=> ?_
 subst he;exact ChangeSpec.post_blind hp
end Go.Px
end
section

end
