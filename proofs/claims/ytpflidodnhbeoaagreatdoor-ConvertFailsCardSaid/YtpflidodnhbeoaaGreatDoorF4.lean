/-
  The run and the laws that serve these rows (part 4)
-/
import Derived.Test.YtpflidodnhbeoaaGreatDoorF3
set_option linter.unusedVariables false
set_option linter.unusedSimpArgs false
noncomputable section
set_option maxHeartbeats 3200000
namespace Go.Cx
open Go Go.Ab Go.Proofs Go.Shelf Go.Px Go.Cv
open Go.Fx (Ty Vl check jbk most base pw bnd Fit fits tv vv tup V0 T0 jbp jbs jbh jcb str0)
def bpow (b:Int):Nat→Int→Int
 | 0,x=>x
 | n+1,x=>bpow b n (x*b)
theorem bpow_eq (b:Int):∀(n:Nat) (x:Int),bpow b n x=x*b^n
 | 0,x=>by rw[bpow,Int.pow_zero,Int.mul_one]
 | n+1,x=>by rw[bpow,bpow_eq b n,Int.pow_succ,Int.mul_assoc,Int.mul_comm b]
theorem bpow_ge {b:Int}(hb:1≤b):∀(n:Nat) (x:Int),1≤x→x≤bpow b n x
 | 0,x,h=>Int.le_refl _
 | n+1,x,h=>by
  rw[bpow];have h1:x*1≤x*b:=Int.mul_le_mul_of_nonneg_left hb (by omega);rw[Int.mul_one]at h1;exact Int.le_trans h1 (bpow_ge hb n (x*b) (by omega))
def V26_0:Bool×ByteArray×Int×Int×ByteArray×Int×Int×ByteArray×Int×Int×Int×Int×Int×Int→List Value:=fun(g,d0,c,zn,zs,r5,r6,s,b,o,k,x,P,i)=> [.pointer (some ⟨0,0,some 0⟩),.pointer (some ⟨2,0,some 0⟩),I r5,I r6,S s,I b,I o,I k,I x,I P,I i]
def B26_0:Bool×ByteArray×Int×Int×ByteArray×Int×Int×ByteArray×Int×Int×Int×Int×Int×Int→List (Option Blk):=fun(g,d0,c,zn,zs,r5,r6,s,b,o,k,x,P,i)=> [some ⟨[B g,S d0,I c],33,true⟩,some ⟨[I zn,S zs],25,true⟩]
def S26_0:LSpec (Bool×ByteArray×Int×Int×ByteArray×Int×Int×ByteArray×Int×Int×Int×Int×Int×Int) where
 live:=[2,4,5,6,7,8,9,10,11,29,30]
 mid:=[0,2]
 n:=60
 dec vs bs:=match vs,bs with | [.pointer (some ⟨0,0,some 0⟩),.pointer (some ⟨2,0,some 0⟩),.int .i64 r5,.int .i64 r6,.string s,.int .i64 b,.int .i64 o,.int .i64 k,.int .i64 x,.int .i64 P,.int .i64 i],[some ⟨[.bool g,.string d0,.int .i64 c],33,true⟩,some ⟨[.int .i64 zn,.string zs],25,true⟩]=>some (g,d0,c,zn,zs,r5,r6,s,b,o,k,x,P,i) | _,_=>none
 pre:=fun(g,d0,c,zn,zs,r5,r6,s,b,o,k,x,P,i)=>decide (0≤i∧i≤P∧P≤100∧1≤b∧1≤x∧bpow b (P - i).toNat x≤2147483648)
 fin:=fun(g,d0,c,zn,zs,r5,r6,s,b,o,k,x,P,i) Z=>Z (.exit 0) [.pointer (some ⟨0,0,some 0⟩),.pointer (some ⟨2,0,some 0⟩),I r5,I r6,S s,I b,I o,I k,I (bpow b (P - i).toNat x),I P,I P] [some ⟨[B g,S d0,I c],33,true⟩,some ⟨[I zn,S zs],25,true⟩]
theorem r26_0 (g:Bool)(d0:ByteArray)(c:Int)(zn:Int)(zs:ByteArray)(r5:Int)(r6:Int)(s:ByteArray)(b:Int)(o:Int)(k:Int)(x:Int)(P:Int)(i:Int)(jk:Tmps)(R:Exit→List Value→List (Option Blk)→Prop):(jbr Tryz.prog H5 noL Tryz.f26.ntmps (ja6 Tryz.f26 0) (tl S26_0.live (V26_0 (g,d0,c,zn,zs,r5,r6,s,b,o,k,x,P,i)) jk) (ml S26_0.mid (B26_0 (g,d0,c,zn,zs,r5,r6,s,b,o,k,x,P,i))) S26_0.n fun e t' m' _=>R e (List.map t' S26_0.live) (List.map m' S26_0.mid))=(qes R i P r5 [qam g d0 c,some (.mk [qb8 zn,S zs] 25 true)] (qb8 r6::qg4 s (qb8 o::qb8 k::I (qge x b)::qb8 P::qcs i) (qb8 b)) (qb8 r5::qb8 r6::qg4 s (qb8 o::qb8 k::qb8 x::qb7 P i) (qb8 b)) 0 (qag 0) (qag 2) (qag 2)):=by kernel_rfl
theorem l26_0:∀t m n K,S26_0.h t m n K→Ab.Sem Tryz.prog Tryz.f26.ntmps (.loop (ja6 Tryz.f26 0)) t m n K:=by
 refine jbg ok_H5 hmix (by kernel_rfl) (ja5 _) S26_0 V26_0 B26_0 (fun(g,d0,c,zn,zs,r5,r6,s,b,o,k,x,P,i)=>(P - i).toNat) ?_ ?_ ?_
 ·intro vs bs s h;simp only[S26_0]at h;split at h
  all_goals first | (cases h;exact⟨rfl,rfl⟩) | cases h | (split at h<;>first | (rename_i hq;cases h;have hq:=jah hq;subst hq;exact⟨rfl,rfl⟩) | cases h)
 ·exact fun _ _ _ h=>h
 ·intro⟨g,d0,c,zn,zs,r5,r6,s,b,o,k,x,P,i⟩ jk Z hp hf;rw[r26_0];delta qb8 qgr qes qag qg4 qb7 qaf qcs qge qam;simp only[S26_0]at hp hf;obtain⟨h0,hP,h100,hb,hx,hm⟩:=jab hp;refine cond_intro (fun h=> ?_) (fun h=> ?_)
  ·have h:=jab h;have e:(P - i).toNat=(P - (i+1)).toNat+1:=by omega
   rw[e,bpow]at hm hf;have h1:x*1≤x*b:=Int.mul_le_mul_of_nonneg_left hb (by omega);rw[Int.mul_one]at h1;have h2:=bpow_ge hb (P - (i+1)).toNat (x*b) (by omega);rw[w64 (n:=x*b) (by omega),w64 (n:=i+1) (by omega)];exact⟨(g,d0,c,zn,zs,r5,r6,s,b,o,k,x*b,P,i+1),rfl,rfl,by simp only[S26_0,jae];omega,by simp only;omega,hf⟩
  ·have h:=jac h;obtain rfl:i=P:=by omega
   rw[Int.sub_self]at hf;exact hf
def V26_2:Bool×ByteArray×Int×Int×ByteArray×Int×Int×ByteArray×Int×Int×Int×Int×Int→List Value:=fun(g,d0,c,zn,zs,r5,r6,s,x,k,b,L,i)=> [.pointer (some ⟨0,0,some 0⟩),.pointer (some ⟨2,0,some 0⟩),I r5,I r6,S s,I x,I k,I b,I L,I i]
def B26_2:Bool×ByteArray×Int×Int×ByteArray×Int×Int×ByteArray×Int×Int×Int×Int×Int→List (Option Blk):=fun(g,d0,c,zn,zs,r5,r6,s,x,k,b,L,i)=> [some ⟨[B g,S d0,I c],33,true⟩,some ⟨[I zn,S zs],25,true⟩]
def S26_2:LSpec (Bool×ByteArray×Int×Int×ByteArray×Int×Int×ByteArray×Int×Int×Int×Int×Int) where
 live:=[2,4,5,6,7,9,10,11,37,38]
 mid:=[0,2]
 n:=120
 dec vs bs:=match vs,bs with | [.pointer (some ⟨0,0,some 0⟩),.pointer (some ⟨2,0,some 0⟩),.int .i64 r5,.int .i64 r6,.string s,.int .i64 x,.int .i64 k,.int .i64 b,.int .i64 L,.int .i64 i],[some ⟨[.bool g,.string d0,.int .i64 c],33,true⟩,some ⟨[.int .i64 zn,.string zs],25,true⟩]=>some (g,d0,c,zn,zs,r5,r6,s,x,k,b,L,i) | _,_=>none
 pre:=fun(g,d0,c,zn,zs,r5,r6,s,x,k,b,L,i)=>decide (0≤i∧i≤L∧L=s.size∧s.size≤100000∧0≤x∧x<b∧b≤2147483648) &&jck (bz s)
 fin:=fun(g,d0,c,zn,zs,r5,r6,s,x,k,b,L,i) Z=>Z (.exit 2) [.pointer (some ⟨0,0,some 0⟩),.pointer (some ⟨2,0,some 0⟩),I r5,I r6,S s,I (tkGo b ((bz s).drop i.toNat) x k).1,I (tkGo b ((bz s).drop i.toNat) x k).2,I b,I L,I L] [some ⟨[B g,S d0,I c],33,true⟩,some ⟨[I zn,S zs],25,true⟩]
def z26_2a (r5:Int)(r6:Int)(s:ByteArray)(b:Int)(L:Int)(x0:Int)(x1:Int)(x2:Int):List Value:=[.pointer (some (.mk 0 0 (some 0))),.pointer (some (.mk 2 0 (some 0))),I r5,I r6,S s,I x0,I x1,I b,I L,I x2]
theorem r26_2 (g:Bool)(d0:ByteArray)(c:Int)(zn:Int)(zs:ByteArray)(r5:Int)(r6:Int)(s:ByteArray)(x:Int)(k:Int)(b:Int)(L:Int)(i:Int)(jk:Tmps)(R:Exit→List Value→List (Option Blk)→Prop):(jbr Tryz.prog H5 noL Tryz.f26.ntmps (ja6 Tryz.f26 2) (tl S26_2.live (V26_2 (g,d0,c,zn,zs,r5,r6,s,x,k,b,L,i)) jk) (ml S26_2.mid (B26_2 (g,d0,c,zn,zs,r5,r6,s,x,k,b,L,i))) S26_2.n fun e t' m' _=>R e (List.map t' S26_2.live) (List.map m' S26_2.mid))=(qei (decide (qcb 10 x (qdp s i) .u8≥b)) s R i L [qam g d0 c,some (.mk [qb8 zn,S zs] 25 true)] (z26_2a r5 r6 s b L x k i) 2 (qbl (decide (b≠0)) R [qam g d0 c,some (.mk [qb8 zn,S zs] 25 true)] (z26_2a r5 r6 s b L ((qcb 10 x (qdp s i) .u8).tmod b) 1 (qaf i))) (R .normal (z26_2a r5 r6 s b L (qcb 10 x (qdp s i) .u8) k (qaf i)) [qam g d0 c,some (.mk [qb8 zn,S zs] 25 true)])):=by kernel_rfl
theorem l26_2:∀t m n K,S26_2.h t m n K→Ab.Sem Tryz.prog Tryz.f26.ntmps (.loop (ja6 Tryz.f26 2)) t m n K:=by
 refine jbg ok_H5 hmix (by kernel_rfl) (ja5 _) S26_2 V26_2 B26_2 (fun(g,d0,c,zn,zs,r5,r6,s,x,k,b,L,i)=>(s.size - i).toNat) ?_ ?_ ?_
 ·intro vs bs s h;simp only[S26_2]at h;split at h
  all_goals first | (cases h;exact⟨rfl,rfl⟩) | cases h | (split at h<;>first | (rename_i hq;cases h;have hq:=jah hq;subst hq;exact⟨rfl,rfl⟩) | cases h)
 ·exact fun _ _ _ h=>h
 ·intro⟨g,d0,c,zn,zs,r5,r6,s,x,k,b,L,i⟩ jk Z hp hf;rw[r26_2];delta qg5 qce qai qc1 qgr qei qb8 qg4 qam qaf qge qcb qdp qbl;delta z26_2a;simp only[S26_2]at hp hf;simp only[jaf,jae]at hp;obtain⟨⟨h0,hi,hL,hs,hx0,hxb,hb⟩,hd⟩:=hp;refine cond_intro (fun h=> ?_) (fun h=> ?_)
  ·have h:=jab h;rw[jb5 h0 (by omega),tkGo]at hf;have hc:=dig_cases (s:=s) (i:=i.toNat) (by omega) hd;refine c_t (jaa (by omega)) ?_;rw[w64 (n:=i+1) (by omega),w8s (by omega),w64 (n:=jaj s i.toNat - 48) (by omega),w64 (n:=10*x) (by omega),w64 (n:=10*x+(jaj s i.toNat - 48)) (by omega)];refine cond_intro (fun q=> ?_) (fun q=> ?_)
   ·have q:b≤10*x+(jaj s i.toNat - 48):=jab q;rw[if_pos q]at hf;have hm:=tm_rng (a:=10*x+(jaj s i.toNat - 48)) (b:=b) (by omega) (by omega);exact c_t (jaa (by omega)) ⟨(g,d0,c,zn,zs,r5,r6,s,(10*x+(jaj s i.toNat - 48)).tmod b,1,b,L,i+1),rfl,rfl,by simp only[S26_2,jaf,jae];exact⟨by omega,hd⟩,by simp only;omega,hf⟩
   ·have q:¬b≤10*x+(jaj s i.toNat - 48):=jac q;rw[if_neg q]at hf;exact⟨(g,d0,c,zn,zs,r5,r6,s,10*x+(jaj s i.toNat - 48),k,b,L,i+1),rfl,rfl,by simp only[S26_2,jaf,jae];exact⟨by omega,hd⟩,by simp only;omega,hf⟩
  ·have h:=jac h;rw[jcn (by omega)]at hf;obtain rfl:i=L:=by omega
   exact hf
theorem lok26:LOKf Tryz.prog (twoL 0 S26_0.h 2 S26_2.h) Tryz.f26:=jf1 (by kernel_rfl) (by kernel_rfl) l26_0 l26_2
def s26 (n:Nu)(t:Ty):Bool×Value:=(decide (n.d.size≤9223372036854775807),.tuple ⟨[vlv (tkV n.g (bz n.d) n.c t).1,I (tkV n.g (bz n.d) n.c t).2.1,I (tkV n.g (bz n.d) n.c t).2.2]⟩)
theorem fn26:Fn1 Tryz.prog 26 Tryz.f26:= .m Tryz.func26 (by kernel_rfl)
def qbi (a b c:Int):List Value:= .agg ⟨[qb8 a,qe2]⟩::qb7 b c
def qeq (c:ByteArray)(b:Fx.Ty)(a:Int):Prod Int Int:=tkGo (bpow a (Int.toNat (Fx.Ty.p b - 0)) 1) (qal c 0) 0 0
def qbr (b:ByteArray)(a:Cx.Nu)(f:Fx.Ty)(e:Int)(h:Value→Prop):Prop:=bif S26_0.pre (Nu.g a,(Nu.d a,(Nu.c a,((0:Int),(qfi,((0:Int),((0:Int),(b,(e,((0:Int),((0:Int),((1:Int),(Fx.Ty.p f,(0:Int))))))))))))))then qgz (S26_2.pre (Nu.g a,(Nu.d a,(Nu.c a,((0:Int),(qfi,((0:Int),((0:Int),(b,((0:Int),((0:Int),(bpow e (Int.toNat (Fx.Ty.p f - 0)) 1,(qce b,(0:Int)))))))))))))) (Tmps→(bif Nu.g a then h (qgh (qbi (qfl 0 (qeq b f e).fst) (qeq b f e).snd 0))else h (qgh (qbi (qeq b f e).fst (qeq b f e).snd 0)))) False else False
theorem v26 (n:Nu)(t:Ty)(R:Value→Prop):ja2 Tryz.prog H5 (twoL 0 S26_0.h 2 S26_2.h) Tryz.f26 [Enc.enc n,Enc.enc t] (fun _=>none) 0 (fun v _ _=>R v)=(qeb (!jgm (Nu.g n) (bz (Nu.d n)) (Nu.c n)) (Nu.d n) (R (qgh (qbi 0 0 1))) (bif !decide (Fx.jbk t)then R (qgh (qbi 0 0 5))else bif jgm (Nu.g n) (bz (Nu.d n)) (Nu.c n) &&qb3 0 (Fx.Ty.q t) 100 then∀a:ByteArray,szO (plcR (bz (Nu.d n)) (Nu.c n) (Fx.Ty.q t))=a→(bif qdo t 2 then qbr a n t 2 R else qbr a n t 10 R)else False)):=by kernel_rfl
theorem ok26:jap Tryz.prog 26 (sp2 s26):=by
 refine jc1 ok_H5 hmix fn26 lok26 (jag (by kernel_rfl)) fun n t hc=> ?_
 rw[ja3,v26];delta qg5 qax qeb qgz qgh qb8 qb7 qfi qe2 qbi qal qeq qfl qce qbr qdo qb3;have hc:(n.d.size≤9223372036854775807):=jab hc
 try dsimp only[s26]
 have hz0:Int.toNat 0=0:=rfl;refine c_t (jaa hc) (cond_intro (fun h=> ?_) (fun h=> ?_))
 ·rw[tkV,if_pos (by simpa using h)]
 have hn:jgm n.g (bz n.d) n.c=true:=by simpa using h
 rw[hn];refine cond_intro (fun q=> ?_) (fun q=> ?_)
 ·have q:¬jbk t:=by simpa using q
  rw[tkV,if_neg (by rw[hn];decide),if_pos q]
 have hv:jbk t:=by simpa using q
 obtain⟨f1,f2,f3,f4,f5⟩:=isNum_facts hn;obtain⟨v1,v2,v3,v4,v5⟩:=valid_facts hv;refine c_t (by rw[jaa v4];rfl) fun s' hs'=> ?_
 have hbz:bz s'=plcR (bz n.d) n.c t.q:=by rw[←hs',jdk (digs_isB (jfy f2))]
 have hsz:s'.size≤1500:=by rw[←jao,hbz];exact plc_len f1 f4 v4
 have hr:=jgp (b:=bnd t) (by omega) (plcR (bz n.d) n.c t.q) 0 0 (jfy f2) (by omega);rw[tkV,if_neg (by rw[hn];decide),if_neg (fun z=>z hv)];have hp2:2≤bnd t:=(Fx.bnd_range hv).1
 have key:∀b:Int,base t.k=b→bpow b (t.p - 0).toNat 1=bnd t:=fun b hb=>by
  rw[bpow_eq,Int.one_mul,Int.sub_zero,bnd,pw,hb]
 refine cond_intro (fun hk=> ?_) (fun hk=> ?_)
 ·have hk2:base t.k=2:=by
   have:t.k=2:=by simpa using hk
   rw[this];rfl
  have hb:=key _ hk2;refine c_t (by simp only[S26_0,jae];rw[hb];refine⟨?_,?_,?_,?_,?_,?_⟩ <;>first | omega | trivial) fun x=> ?_
  rw[hb];refine c_t (by simp only[S26_2,jaf,jae];exact⟨by refine⟨?_,?_,?_,?_,?_,?_,?_⟩ <;>first | omega | trivial,by rw[hbz];exact jfy f2⟩) fun y=> ?_
  rw[hz0,List.drop_zero,hbz,w64 (n:=0 - (tkGo (bnd t) (plcR (bz n.d) n.c t.q) 0 0).1) (by omega),tkR];refine cond_intro (fun h=> ?_) (fun h=> ?_)
  ·rw[if_pos h,Int.zero_sub]
  ·rw[if_neg (by rw[h];decide)]
 ·have hk2:base t.k=10:=by
   have:¬t.k=2:=by simpa using hk
   rw[v5.resolve_right this];rfl
  have hb:=key _ hk2;refine c_t (by simp only[S26_0,jae];rw[hb];refine⟨?_,?_,?_,?_,?_,?_⟩ <;>first | omega | trivial) fun x=> ?_
  rw[hb];refine c_t (by simp only[S26_2,jaf,jae];exact⟨by refine⟨?_,?_,?_,?_,?_,?_,?_⟩ <;>first | omega | trivial,by rw[hbz];exact jfy f2⟩) fun y=> ?_
  rw[hz0,List.drop_zero,hbz,w64 (n:=0 - (tkGo (bnd t) (plcR (bz n.d) n.c t.q) 0 0).1) (by omega),tkR];refine cond_intro (fun h=> ?_) (fun h=> ?_)
  ·rw[if_pos h,Int.zero_sub]
  ·rw[if_neg (by rw[h];decide)]
structure Wh where
 n:Int
 t:Ty
instance:Enc Wh where
 enc x:= .agg ⟨[.int .i64 x.n,.int .i64 x.t.k,.int .i64 x.t.p,.int .i64 x.t.q,.bool x.t.v,.string x.t.s]⟩
 dec | .agg ⟨[.int .i64 n,.int .i64 k,.int .i64 p,.int .i64 q,.bool v,.string s]⟩=>some ⟨n,⟨k,p,q,v,s⟩⟩ | _=>none
 dec_some:=by
  intro v a h;split at h
  ·cases h;rfl
  ·cases h
 plain_enc _:=rfl
def wid (t:Ty):Int:=if t.k=2 then 1+(100*t.p+331)/332+3 else t.p+3
def fixU (n q:Int):List Int:=rep48 (q+1 - (itoZ n).length).toNat++itoZ n
def fixD (n q:Int):List Int:=if q> 0 then(fixU n q).take ((fixU n q).length - q.toNat)++46::(fixU n q).drop ((fixU n q).length - q.toNat)else itoZ n
def fixS (n q:Int):List Int:=if n<0 then 45::fixD (-n) q else fixD n q
def txtZ (n:Int)(t:Ty):List Int:=List.replicate (wid t - (fixS n t.q).length).toNat 32++fixS n t.q
def K5:Env:=Env.nil
theorem ok_K5:jax Tryz.prog K5:=jan
def s112 (t:Ty):Bool×Value:=(decide (0≤t.p∧t.p≤1000),I (wid t))
theorem fn112:Fn1 Tryz.prog 112 Tryz.f112:= .m Tryz.func112 (by kernel_rfl)
theorem v112 (t:Ty)(R:Value→Prop):ja2 Tryz.prog K5 noL Tryz.f112 [Enc.enc t] (fun _=>none) 0 (fun v _ _=>R v)=(bif qdo t 2 then qer (qgi 1 (IntKind.i64.wrap ((IntKind.i64.wrap (qge 100 (Fx.Ty.p t)+331)).tdiv 332))+3) R else qer (Fx.Ty.p t+3) R):=by kernel_rfl
theorem ok112:jap Tryz.prog 112 (sp1 s112):=by
 refine jca ok_K5 hmix fn112 jai (jag (by kernel_rfl)) fun t hc=> ?_
 rw[ja3,v112];delta qer qgi qge qdo;have hc:(0≤t.p∧t.p≤1000):=jab hc
 try dsimp only[s112]
 unfold wid;refine cond_intro (fun h=> ?_) (fun h=> ?_)
 ·have h:t.k=2:=eq_of_beq h;have hd:(100*t.p+331).tdiv 332=(100*t.p+331)/332:=Int.tdiv_eq_ediv_of_nonneg (by omega);rw[if_pos h,w64 (n:=100*t.p) (by omega),w64 (n:=100*t.p+331) (by omega),hd,w64 (n:=(100*t.p+331)/332) (by omega),w64 (n:=1+(100*t.p+331)/332) (by omega),w64 (by omega)]
 ·have h:¬t.k=2:=by simpa using h
  rw[if_neg h,w64 (by omega)]
def K6:Env:=((Env.nil.addG 29 (hideS (sp1 s29))).addG 30 (hideS (sp2 s30))).add 112 (sp1 s112)
theorem ok_K6:jax Tryz.prog K6:=jak (jam (jam jan (je1 ok29)) (je1 ok30)) ok112
def s321 (x:Wh):Bool×Value:=(decide (jbk x.t∧ -2147483648≤x.n∧x.n≤2147483648),S (szO (txtZ x.n x.t)))
theorem fn321:Fn1 Tryz.prog 321 Tryz.f321:= .m Tryz.func321 (by kernel_rfl)
def k321 (sg s':ByteArray)(x:Wh)(R:Value→Prop):Prop:=bif decide ((Wh.t x).q> 0)then bif decide (0≤imax (IntKind.wrap .i64 (IntKind.wrap .i64 ((Wh.t x).q+1) - (s'.size:Int))) 0∧imax (IntKind.wrap .i64 (IntKind.wrap .i64 ((Wh.t x).q+1) - (s'.size:Int))) (0:Int)≤1000∧(ByteArray.mk #[48]).size≤1000)then∀(s'_1:ByteArray),szO (repZ (bz (ByteArray.mk #[48])) (Int.toNat (imax (IntKind.wrap .i64 (IntKind.wrap .i64 ((Wh.t x).q+1) - (s'.size:Int))) 0)))=s'_1→bif jby (s'_1.size+s'.size)then bif decide ((0:Int)≤0∧0≤IntKind.wrap .i64 ((((s'_1++s').size):Int) - (Wh.t x).q)∧IntKind.wrap .i64 ((((s'_1++s').size):Int) - (Wh.t x).q)≤(((s'_1++s').size):Int))then bif jby ((ByteArray.extract (s'_1++s') 0 (IntKind.wrap .i64 ((((s'_1++s').size):Int) - (Wh.t x).q)).toNat).size+(ByteArray.mk #[46]).size)then bif decide (0≤IntKind.wrap .i64 ((((s'_1++s').size):Int) - (Wh.t x).q)∧IntKind.wrap .i64 ((((s'_1++s').size):Int) - (Wh.t x).q)≤(((s'_1++s').size):Int)∧(((s'_1++s').size):Int)≤(((s'_1++s').size):Int))then bif jby ((ByteArray.extract (s'_1++s') 0 (IntKind.wrap .i64 ((((s'_1++s').size):Int) - (Wh.t x).q)).toNat++ByteArray.mk #[46]).size+(ByteArray.extract (s'_1++s') (IntKind.wrap .i64 ((((s'_1++s').size):Int) - (Wh.t x).q)).toNat (s'_1++s').size).size)then bif jby (sg.size+(ByteArray.extract (s'_1++s') 0 (IntKind.wrap .i64 ((((s'_1++s').size):Int) - (Wh.t x).q)).toNat++ByteArray.mk #[46]++ByteArray.extract (s'_1++s') (IntKind.wrap .i64 ((((s'_1++s').size):Int) - (Wh.t x).q)).toNat (s'_1++s').size).size)then bif decide (0≤(Wh.t x).p∧(Wh.t x).p≤1000)then bif decide (0≤imax (IntKind.wrap .i64 (wid (Wh.t x) - (↑((sg++(ByteArray.extract (s'_1++s') 0 (IntKind.wrap .i64 ((((s'_1++s').size):Int) - (Wh.t x).q)).toNat++ByteArray.mk #[46]++ByteArray.extract (s'_1++s') (IntKind.wrap .i64 ((((s'_1++s').size):Int) - (Wh.t x).q)).toNat (s'_1++s').size)).size):Int))) 0∧imax (IntKind.wrap .i64 (wid (Wh.t x) - (↑((sg++(ByteArray.extract (s'_1++s') 0 (IntKind.wrap .i64 ((((s'_1++s').size):Int) - (Wh.t x).q)).toNat++ByteArray.mk #[46]++ByteArray.extract (s'_1++s') (IntKind.wrap .i64 ((((s'_1++s').size):Int) - (Wh.t x).q)).toNat (s'_1++s').size)).size):Int))) 0≤1000∧(ByteArray.mk #[32]).size≤1000)then∀(s'_2:ByteArray),szO (repZ (bz (ByteArray.mk #[32])) (Int.toNat (imax (IntKind.wrap .i64 (wid (Wh.t x) - (↑((sg++(ByteArray.extract (s'_1++s') 0 (IntKind.wrap .i64 ((((s'_1++s').size):Int) - (Wh.t x).q)).toNat++ByteArray.mk #[46]++ByteArray.extract (s'_1++s') (IntKind.wrap .i64 ((((s'_1++s').size):Int) - (Wh.t x).q)).toNat (s'_1++s').size)).size):Int))) 0)))=s'_2→bif jby (s'_2.size+(sg++(ByteArray.extract (s'_1++s') 0 (IntKind.wrap .i64 ((((s'_1++s').size):Int) - (Wh.t x).q)).toNat++ByteArray.mk #[46]++ByteArray.extract (s'_1++s') (IntKind.wrap .i64 ((((s'_1++s').size):Int) - (Wh.t x).q)).toNat (s'_1++s').size)).size)then R (S (s'_2++(sg++(ByteArray.extract (s'_1++s') 0 (IntKind.wrap .i64 ((((s'_1++s').size):Int) - (Wh.t x).q)).toNat++ByteArray.mk #[46]++ByteArray.extract (s'_1++s') (IntKind.wrap .i64 ((((s'_1++s').size):Int) - (Wh.t x).q)).toNat (s'_1++s').size))))else False else False else False else False else False else False else False else False else False else False else bif jby (sg.size+s'.size)then bif decide (0≤(Wh.t x).p∧(Wh.t x).p≤1000)then bif decide (0≤imax (IntKind.wrap .i64 (wid (Wh.t x) - (((sg++s').size):Int))) 0∧imax (IntKind.wrap .i64 (wid (Wh.t x) - (((sg++s').size):Int))) (0:Int)≤1000∧(ByteArray.mk #[32]).size≤1000)then∀(s'_1:ByteArray),szO (repZ (bz (ByteArray.mk #[32])) (Int.toNat (imax (IntKind.wrap .i64 (wid (Wh.t x) - (((sg++s').size):Int))) 0)))=s'_1→bif jby (s'_1.size+(sg++s').size)then R (S (s'_1++(sg++s')))else False else False else False else False
theorem jhe {m:Int}(h:0≤m∧m≤2147483648):(itoZ m).length≤10:=by
 obtain⟨k,rfl⟩:∃k:Nat,m=(k:Int):=⟨m.toNat,by omega⟩
 rw[itoZ,Lib.itoa_nonneg,zl,List.length_map];exact jiu 9 k (by omega)
theorem ito_isB (n:Int):IsB (itoZ n):=zl_isB _
theorem rep32_isB (k:Nat):IsB (List.replicate k 32):=fun c hc=>by rw[List.eq_of_mem_replicate hc];omega
theorem rep48_isB (k:Nat):IsB (rep48 k):=fun c hc=>by rw[List.eq_of_mem_replicate hc];omega
theorem jg6 (c:Int):∀n,repZ [c] n=List.replicate n c
 | 0=>rfl
 | n+1=>by rw[repZ,jg6 c n];rfl
theorem fitN {n:Nat}(h:n≤100000):jby n=true:=by simp only[jby,Nat.ble_eq];omega
theorem imax_eq (a b:Int):imax a b=max a b:=by unfold imax;split<;>omega
theorem k321f (sg D X:ByteArray)(t:Ty)(hp:0≤t.p∧t.p≤31)(hw:0≤wid t∧wid t≤100)(hs:sg.size≤1)(hD:D.size≤100)(hX:bz X=List.replicate (wid t - (bz sg++bz D).length).toNat 32++(bz sg++bz D)):
  bif jby (ByteArray.size sg+ByteArray.size D)then bif decide (0≤Ty.p t∧Ty.p t≤1000)then
   bif decide (0≤imax (IntKind.wrap IntKind.i64 (wid t - (↑(ByteArray.size (sg++D)):Int))) 0∧imax (IntKind.wrap IntKind.i64 (wid t - (↑(ByteArray.size (sg++D)):Int))) (0:Int)≤1000∧ByteArray.size (ByteArray.mk #[32])≤1000)then
    ∀s2:ByteArray,szO (repZ (bz (ByteArray.mk #[32])) (Int.toNat (imax (IntKind.wrap IntKind.i64 (wid t - (↑(ByteArray.size (sg++D)):Int))) 0)))=s2→
     bif jby (ByteArray.size s2+ByteArray.size (sg++D))then Value.string (s2++(sg++D))=Value.string X else False
   else False else False else False:=by
 have hz:(sg++D).size=sg.size+D.size:=ByteArray.size_append;rw[w64 (n:=wid t - ((sg++D).size:Int)) (by omega),imax_eq];refine c_t (fitN (by omega)) (c_t (jaa (by omega)) (c_t (jaa ⟨by omega,by omega,by decide⟩) fun s2 e2=> ?_))
 have b2:bz s2=List.replicate (wid t - (bz sg++bz D).length).toNat 32:=by
  rw[←e2,show bz (ByteArray.mk #[32])=[32]from rfl,jg6,jdk (rep32_isB _),List.length_append,jao,jao];congr 1;omega
 have z2:s2.size≤100:=by rw[←jao,b2,List.length_replicate];omega
 refine c_t (fitN (by omega)) ?_;congr 1;rw[←jg2 (s2++(sg++D)),←jg2 X,jcr,jcr,b2,hX]
theorem k321_ok (sg s':ByteArray)(x:Wh)(m:Int)(h:szO (itoZ m)=s')(hm:0≤m∧m≤2147483648)(hv:jbk x.t)(hs:sg.size≤1)(hg:IsB (bz sg)):
  k321 sg s' x (fun v=>v= .string (szO (List.replicate (wid x.t - (bz sg++fixD m x.t.q).length).toNat 32++(bz sg++fixD m x.t.q)))):=by
 unfold k321;obtain⟨n,t⟩:=x;simp only at hv ⊢;obtain⟨v1,v2,v3,v4,v5⟩:=Fx.valid_r hv;have hw:0≤wid t∧wid t≤100:=by unfold wid;split<;>omega
 have b1:bz s'=itoZ m:=by rw[←h,jdk (ito_isB _)]
 have z1:s'.size≤10:=by rw[←jao,b1];exact jhe hm
 have hX:∀l,IsB l→bz (szO (List.replicate (wid t - (bz sg++l).length).toNat 32++(bz sg++l)))=List.replicate (wid t - (bz sg++l).length).toNat 32++(bz sg++l):=fun l hl=>jdk ((rep32_isB _).append (hg.append hl))
 refine cond_intro (fun hq=> ?_) (fun hq=> ?_)
 ·have hq:t.q> 0:=jab hq;rw[w64 (n:=t.q+1) (by omega),w64 (n:=t.q+1 - (s'.size:Int)) (by omega),imax_eq];refine c_t (jaa ⟨by omega,by omega,by decide⟩) fun s1 e1=> ?_
  have c1:bz s1=rep48 (t.q+1 - (itoZ m).length).toNat:=by
   rw[←e1,show bz (ByteArray.mk #[48])=[48]from rfl,jg6,jdk (l:=List.replicate _ 48) (rep48_isB _),←b1,jao];rw[rep48];congr 1;omega
  have y1:(s1.size:Int)=max (t.q+1 - (s'.size:Int)) 0:=by rw[←jao,c1,rep48,List.length_replicate,←b1,jao];omega
  have hu:bz (s1++s')=fixU m t.q:=by rw[jcr,c1,b1];rfl
  have zu:(s1++s').size=s1.size+s'.size:=ByteArray.size_append;generalize s1++s'=u at*;rw[w64 (n:=(u.size:Int) - t.q) (by omega)]
  have e3:bz (u.extract 0 ((u.size:Int) - t.q).toNat)=(fixU m t.q).take ((fixU m t.q).length - t.q.toNat):=by
   rw[jix,hu,←hu,jao];congr 1;omega
  have e4:bz (u.extract ((u.size:Int) - t.q).toNat u.size)=(fixU m t.q).drop ((fixU m t.q).length - t.q.toNat):=by
   rw[bz_dropE,hu,←hu,jao];congr 1;omega
  have z3:(u.extract 0 ((u.size:Int) - t.q).toNat).size=u.size - t.q.toNat:=by rw[ex_size];omega
  have z4:(u.extract ((u.size:Int) - t.q).toNat u.size).size=t.q.toNat:=by rw[ex_size];omega
  generalize u.extract 0 ((u.size:Int) - t.q).toNat=a at*;generalize u.extract ((u.size:Int) - t.q).toNat u.size=b at*;have n46:(ByteArray.mk #[46]).size=1:=rfl
  have hD:bz (a++ByteArray.mk #[46]++b)=fixD m t.q:=by
   rw[jcr,jcr,e3,e4,fixD,if_pos hq,show bz (ByteArray.mk #[46])=[46]from rfl,List.append_assoc];rfl
  have zD:(a++ByteArray.mk #[46]++b).size=a.size+1+b.size:=by rw[ByteArray.size_append,ByteArray.size_append,n46]
  refine c_t (fitN (by omega)) (c_t (jaa (by omega)) (c_t (fitN (by rw[n46];omega)) (c_t (jaa (by omega)) (c_t (fitN (by rw[ByteArray.size_append,n46];omega)) ?_))));rw[←hD];exact k321f sg _ _ t (by omega) hw hs (by omega) (hX _ (jdm _))
 ·have hq:¬t.q> 0:=jac hq;have hD:bz s'=fixD m t.q:=by rw[b1,fixD,if_neg hq]
  rw[←hD];exact k321f sg _ _ t (by omega) hw hs (by omega) (hX _ (jdm _))
theorem v321 (x:Wh)(R:Value→Prop):ja2 Tryz.prog K6 noL Tryz.f321 [Enc.enc x] (fun _=>none) 0 (fun v _ _=>R v)=(qec (decide (Wh.n x<0)) (qb3 (-9223372036854775808) (qcy 0 (Wh.n x)) 9223372036854775807) (qb3 (-9223372036854775808) (Wh.n x) 9223372036854775807) (∀a:ByteArray,szO (itoZ (qcy 0 (Wh.n x)))=a→k321 ⟨#[45]⟩ a x R) (∀a:ByteArray,szO (itoZ (Wh.n x))=a→k321 qfi a x R)):=by kernel_rfl
theorem ok321:jap Tryz.prog 321 (sp1 s321):=by
 refine jca ok_K6 hmix fn321 jai (jag (by kernel_rfl)) fun x hc=> ?_
 rw[ja3,v321];delta qgn qec qfi qcy qb3;have hc:(jbk x.t∧ -2147483648≤x.n∧x.n≤2147483648):=jab hc
 try dsimp only[s321]
 obtain⟨hv,h1,h2⟩:=hc;refine cond_intro (fun h=> ?_) (fun h=> ?_)
 ·have h:x.n<0:=jab h;rw[w64 (n:=0 - x.n) (by omega)];refine c_t (jaa (by omega)) fun s' e=> ?_
  have:=k321_ok ⟨#[45]⟩ s' x (0 - x.n) e (by omega) hv (by decide) (jdm _);rw[txtZ,fixS,if_pos h,show -x.n=0 - x.n by omega];exact this
 ·have h:¬x.n<0:=jac h;refine c_t (jaa (by omega)) fun s' e=> ?_
  have:=k321_ok ⟨#[]⟩ s' x x.n e (by omega) hv (by decide) (jdm _);rw[txtZ,fixS,if_neg h];exact this
end Go.Cx
end
section
namespace Go.Cx
open Go Go.Proofs Go.RowKit Go.Extern.Stop Go.Stop Go.Extern
theorem as_nil (t:Value)(w:World):
  Calls Tryz.prog 100 #[.nilIface,t] w fun e w'=>e= .returned (.bool false)∧w'=w:=by
 go_enter Tryz.func100,Tryz.ntmps100
 go_wp2
 go_ret
 exact⟨rfl,rfl⟩
theorem a_valueOf121 (t:Addr)(w:World):(ReflectliteValue.unpack (.iface 121 (.pointer (some t)))).run Tryz.prog w
  = .ok (.agg #[.pointer (some ⟨10,121,none⟩),.pointer (some ⟨w.heap.size,0,none⟩),.int .u64 150]) (w.alloc (.cells #[.pointer (some t)] 121)):=by kernel_rfl
theorem a_type121 (a : Addr) (w : World) : (ReflectliteValue.methodAny (ReflectliteValue.valueError "reflectlite.Value.Type" 0) (fun t _ _ _ => ReflectliteType.toType t) #[.agg #[.pointer (some ⟨10, 121, none⟩), .pointer (some a), .int .u64 150]]).run Tryz.prog w
  = .ok (.iface 229 (.agg #[.pointer (some ⟨10,121,none⟩)])) w:=by kernel_rfl
theorem a_kind121 (w:World):((ReflectliteType.abiMethod fun t=>(fun a:Nat=>Value.int IntKind.u8 (a:Int)) <$> Rtype.kind t) #[.pointer (some ⟨10,121,none⟩)]).run Tryz.prog w= .ok (.int .u8 22) w:=by kernel_rfl
theorem a_kind119 (w:World):((ReflectliteType.abiMethod fun t=>(fun a:Nat=>Value.int IntKind.u8 (a:Int)) <$> Rtype.kind t) #[.pointer (some ⟨10,119,none⟩)]).run Tryz.prog w= .ok (.int .u8 25) w:=by kernel_rfl
theorem a_rlm (z:Sem Value)(f:TypeId→Addr→Nat→Nat→Sem Value)(v:Value):
  ReflectliteValue.method z f #[v]=(do match←ReflectliteValue.parts v with | none=>z | some (t,a,fl)=>f t a fl (fl%32)):=rfl
theorem a_parts121 (a:Addr)(w:World):(ReflectliteValue.parts (.agg #[.pointer (some ⟨10,121,none⟩),.pointer (some a),.int .u64 150])).run Tryz.prog w= .ok (some (121,a,150)) w:=by kernel_rfl
theorem a_isNil121 (a p:Addr)(W:World)(ha:W.cell? a=some (.pointer (some p))):
  (ReflectliteValue.method (ReflectliteValue.valueError "reflectlite.Value.IsNil" 0) ReflectliteValue.isNil #[.agg #[.pointer (some ⟨10, 121, none⟩), .pointer (some a), .int .u64 150]]).run Tryz.prog W = .ok (.bool false) W := by
 rw[a_rlm];simp only[Sem.run_bind,a_parts121,Result.andThen];simp[ReflectliteValue.isNil,loadVar,isAgg,underlying,Tryz.underlying121,ha,Result.andThen]
theorem a_methodKind (h : Value) (w : World) : (Go.method 421 229 (.agg #[h]) "Kind").run Tryz.prog w = .ok (316, h) w := by kernel_rfl
theorem a_methodElem (h : Value) (w : World) : (Go.method 421 229 (.agg #[h]) "Elem").run Tryz.prog w = .ok (331, .agg #[h]) w := by kernel_rfl
theorem a_methodImplements (h : Value) (w : World) : (Go.method 421 229 (.agg #[h]) "Implements").run Tryz.prog w = .ok (332, .agg #[h]) w := by kernel_rfl
theorem a_methodAssignableTo (h : Value) (w : World) : (Go.method 421 229 (.agg #[h]) "AssignableTo").run Tryz.prog w = .ok (329, .agg #[h]) w := by kernel_rfl
theorem a_elem121 (w:World):(ReflectliteType.method ReflectliteType.elem #[.agg #[.pointer (some ⟨10,121,none⟩)]]).run Tryz.prog w= .ok (.iface 229 (.agg #[.pointer (some ⟨10,119,none⟩)])) w:=by kernel_rfl
theorem a_implements119 (w : World) : (ReflectliteType.relation "Implements" ReflectliteType.implements_ #[.agg #[.pointer (some ⟨10, 119, none⟩)], .iface 229 (.agg #[.pointer (some ⟨10, 105, none⟩)])]).run Tryz.prog w = .ok (.bool true) w := by kernel_rfl
theorem a_typeOf119 (v:Value)(w:World):(ReflectliteType.typeOf #[.iface 119 v]).run Tryz.prog w= .ok (.iface 229 (.agg #[.pointer (some ⟨10,119,none⟩)])) w:=by kernel_rfl
theorem a_assignable119 (w : World) : (ReflectliteType.relation "AssignableTo" ReflectliteType.assignableTo #[.agg #[.pointer (some ⟨10, 119, none⟩)], .iface 229 (.agg #[.pointer (some ⟨10, 119, none⟩)])]).run Tryz.prog w = .ok (.bool true) w := by kernel_rfl
theorem a_valueOf119 (s:ByteArray)(w:World):(ReflectliteValue.unpack (.iface 119 (.agg #[.string s]))).run Tryz.prog w
  = .ok (.agg #[.pointer (some ⟨10,119,none⟩),.pointer (some ⟨w.heap.size,0,none⟩),.int .u64 153]) (w.alloc (.cells #[.string s] 119)):=by kernel_rfl
theorem a_elemOf121 (w:World):(Rtype.elem? 121).run Tryz.prog w= .ok (some 119) w:=by kernel_rfl
theorem a_mk119 (p:Addr)(w:World):(ReflectliteValue.mk 119 p ReflectliteValue.flagAddr).run Tryz.prog w= .ok (.agg #[.pointer (some ⟨10,119,none⟩),.pointer (some p),.int .u64 409]) w:=by kernel_rfl
theorem a_elemV121 (a p:Addr)(W:World)(ha:W.cell? a=some (.pointer (some p))):
  (ReflectliteValue.method (ReflectliteValue.valueError "reflectlite.Value.Elem" 0) ReflectliteValue.elem #[.agg #[.pointer (some ⟨10, 121, none⟩), .pointer (some a), .int .u64 150]]).run Tryz.prog W
   = .ok (.agg #[.pointer (some ⟨10,119,none⟩),.pointer (some p),.int .u64 409]) W:=by
 rw[a_rlm];simp only[Sem.run_bind,a_parts121,Result.andThen];simp[ReflectliteValue.elem,loadVar,isAgg,underlying,Tryz.underlying121,ha,Result.andThen,a_elemOf121,a_mk119]
theorem a_rls (v x:Value):ReflectliteValue.set #[v,x]=(do
  let (some (dst,a,fl),some (src,b,_)):=(←ReflectliteValue.parts v,←ReflectliteValue.parts x)
   | unsupported (.noEntry "extern/(internal/reflectlite.Value).Set.zeroValue")
  if fl / ReflectliteValue.flagAddr % 2 == 0 then unsupported (.noEntry "extern/(internal/reflectlite.Value).Set.unaddressable")
  let val←loadVar src b
  if←Rtype.directlyAssignable dst src then storeVar dst a val
  else if←Rtype.implements dst src then
   if(←Rtype.kind src)==20 then
    match val with
    | .nilIface => unsupported (.noEntry "extern/reflectlite: a nil value of one interface type handed on as a value of another")
    | _=>storeVar dst a val
   else storeVar dst a (.iface src val)
  else panicString ("reflectlite.Set: value of type " ++ (← Rtype.spelt src) ++ " is not assignable to type " ++ (← Rtype.spelt dst))
  pure (.tuple #[])):=rfl
theorem a_parts119a (a:Addr)(w:World):(ReflectliteValue.parts (.agg #[.pointer (some ⟨10,119,none⟩),.pointer (some a),.int .u64 409])).run Tryz.prog w= .ok (some (119,a,409)) w:=by kernel_rfl
theorem a_parts119 (a:Addr)(w:World):(ReflectliteValue.parts (.agg #[.pointer (some ⟨10,119,none⟩),.pointer (some a),.int .u64 153])).run Tryz.prog w= .ok (some (119,a,153)) w:=by kernel_rfl
theorem a_direct119 (w:World):(Rtype.directlyAssignable 119 119).run Tryz.prog w= .ok true w:=by kernel_rfl
theorem a_size119 (w:World):(sizeOf 119).run Tryz.prog w= .ok 1 w:=by kernel_rfl
theorem a_load119 (b:Addr)(s:ByteArray)(W:World)(hb:W.cell? b=some (.string s))(hs:b.spot=none):(loadVar 119 b).run Tryz.prog W= .ok (.agg #[.string s]) W:=by
 obtain⟨bb,bo,bs⟩:=b;subst hs;simp[loadVar,isAgg,underlying,Tryz.underlying119,a_size119,loadCells,loadCellsFrom,Addr.add,hb,Result.andThen]
theorem a_set119 (ta b:Addr)(s:ByteArray)(old:Value)(W:World)(hb:W.cell? b=some (.string s))(hs:b.spot=none)(ht:W.cell? ta=some old)(hts:ta.spot=none)(hf:W.frozen? ta=false):
  (ReflectliteValue.set #[.agg #[.pointer (some ⟨10, 119, none⟩), .pointer (some ta), .int .u64 409], .agg #[.pointer (some ⟨10, 119, none⟩), .pointer (some b), .int .u64 153]]).run Tryz.prog W
   = .ok (.tuple #[]) (W.setCell ta (.string s)):=by
 obtain⟨tb,tq,ts⟩:=ta;subst hts;rw[a_rls];simp only[Sem.run_bind,a_parts119a,a_parts119,Result.andThen];have hl:=a_load119 b s W hb hs;have hd:=a_direct119 W;simp[ReflectliteValue.flagAddr,hl,hd,storeVar,Value.cells,storeCells,Addr.add,a_size119,Result.andThen];rw[run_store Tryz.prog W ⟨tb,tq,none⟩ _ _ (by rfl)];simp[ht,hf]
end Go.Cx
end
section
namespace Go.Cx
open Go Go.Proofs Go.RowKit Go.Extern.Stop Go.Stop Go.Extern Go.Shelf
set_option maxRecDepth 100000 in
set_option maxHeartbeats 4000000 in
theorem as_hit (s:ByteArray)(t:Addr)(old:Value)(w:World)(hg:w.cell? ⟨0,0,none⟩=some (.iface 229 (.agg #[.pointer (some ⟨10,105,none⟩)])))(hts:t.spot=none)(ht0:w.cell? t=some old)(hf0:w.frozen? t=false):
  Calls Tryz.prog 100 #[.iface 119 (.agg #[.string s]),.iface 121 (.pointer (some t))] w fun ev w'=>ev= .returned (.bool true)∧w'=((((w.alloc (.cells #[.pointer (some t)] 121)).alloc (.cells #[.pointer (some ⟨10,121,none⟩),.pointer (some ⟨w.heap.size,0,none⟩),.int .u64 150] 187)).alloc (.cells #[.pointer (some ⟨10,121,none⟩),.pointer (some ⟨w.heap.size,0,none⟩),.int .u64 150] 187)).alloc (.cells #[.string s] 119)).setCell t (.string s):=by
 have h6:= @run_callFunc_extern Tryz.prog 172 _ (fun args=>ReflectliteValue.unpack (args.getD 0 (.tuple #[]))) Tryz.func172 (by kernel_rfl) (by kernel_rfl) (by kernel_rfl) (by kernel_rfl)
 have h7 := @run_callFunc_extern Tryz.prog 173 _ (ReflectliteValue.methodAny (ReflectliteValue.valueError "reflectlite.Value.Type" 0) (fun t _ _ _ => ReflectliteType.toType t)) Tryz.func173 (by kernel_rfl) (by kernel_rfl) (by kernel_rfl) (by kernel_rfl)
 have h8 := @run_callFunc_extern Tryz.prog 174 _ (ReflectliteValue.method (ReflectliteValue.valueError "reflectlite.Value.IsNil" 0) ReflectliteValue.isNil) Tryz.func174 (by kernel_rfl) (by kernel_rfl) (by kernel_rfl) (by kernel_rfl)
 have h27:= @run_callFunc_extern Tryz.prog 316 _ (ReflectliteType.abiMethod fun t=>do pure (.int .u8 (←Rtype.kind t))) Tryz.func316 (by kernel_rfl) (by kernel_rfl) (by kernel_rfl) (by kernel_rfl);have h37:= @run_callFunc_extern Tryz.prog 331 _ (ReflectliteType.method ReflectliteType.elem) Tryz.func331 (by kernel_rfl) (by kernel_rfl) (by kernel_rfl) (by kernel_rfl)
 have h38 := @run_callFunc_extern Tryz.prog 332 _ (ReflectliteType.relation "Implements" ReflectliteType.implements_) Tryz.func332 (by kernel_rfl) (by kernel_rfl) (by kernel_rfl) (by kernel_rfl)
 have h10:= @run_callFunc_extern Tryz.prog 226 _ ReflectliteType.typeOf Tryz.func226 (by kernel_rfl) (by kernel_rfl) (by kernel_rfl) (by kernel_rfl)
 have h35 := @run_callFunc_extern Tryz.prog 329 _ (ReflectliteType.relation "AssignableTo" ReflectliteType.assignableTo) Tryz.func329 (by kernel_rfl) (by kernel_rfl) (by kernel_rfl) (by kernel_rfl)
 have h11 := @run_callFunc_extern Tryz.prog 227 _ (ReflectliteValue.method (ReflectliteValue.valueError "reflectlite.Value.Elem" 0) ReflectliteValue.elem) Tryz.func227 (by kernel_rfl) (by kernel_rfl) (by kernel_rfl) (by kernel_rfl)
 have h12:= @run_callFunc_extern Tryz.prog 228 _ ReflectliteValue.set Tryz.func228 (by kernel_rfl) (by kernel_rfl) (by kernel_rfl) (by kernel_rfl);have tO:=a_typeOf119;have mA:=a_methodAssignableTo;have a25:=a_assignable119;have v25:=a_valueOf119;have f6:=a_valueOf121;have f7:=a_type121;have mK:=a_methodKind;have mE:=a_methodElem;have mI:=a_methodImplements;have k27:=a_kind121;have k25:=a_kind119;have e27:=a_elem121;have i25:=a_implements119;have n8:=a_isNil121 ⟨w.heap.size,0,none⟩ t ((w.alloc (.cells #[.pointer (some t)] 121)).alloc (.cells #[.pointer (some ⟨10,121,none⟩),.pointer (some ⟨w.heap.size,0,none⟩),.int .u64 150] 187)) (by simp)
 have hlt:0<w.heap.size:=by
  rcases Nat.eq_zero_or_pos w.heap.size with h0 | h
  ·simp[World.cell?,h0]at hg
  ·exact h
 have hg2:((w.alloc (.cells #[.pointer (some t)] 121)).alloc (.cells #[.pointer (some ⟨10,121,none⟩),.pointer (some ⟨w.heap.size,0,none⟩),.int .u64 150] 187)).cell? ⟨0,0,none⟩=some (.iface 229 (.agg #[.pointer (some ⟨10,105,none⟩)])):=by
  rw[World.cell?_alloc_lt _ _ ⟨0,0,none⟩ (by simp),World.cell?_alloc_lt _ _ ⟨0,0,none⟩ hlt];exact hg
 have htl:t.block<w.heap.size:=by
  rcases Nat.lt_or_ge t.block w.heap.size with h | h
  ·exact h
  ·simp[World.cell?,Array.getElem?_eq_none h]at ht0
 have el:=a_elemV121 ⟨w.heap.size,0,none⟩ t (((w.alloc (.cells #[.pointer (some t)] 121)).alloc (.cells #[.pointer (some ⟨10,121,none⟩),.pointer (some ⟨w.heap.size,0,none⟩),.int .u64 150] 187)).alloc (.cells #[.pointer (some ⟨10,121,none⟩),.pointer (some ⟨w.heap.size,0,none⟩),.int .u64 150] 187)) (by rw[World.cell?_alloc_lt _ _ ⟨w.heap.size,0,none⟩ (by simp;omega)];simp)
 have st:=a_set119 t ⟨w.heap.size+1+1+1,0,none⟩ s old ((((w.alloc (.cells #[.pointer (some t)] 121)).alloc (.cells #[.pointer (some ⟨10,121,none⟩),.pointer (some ⟨w.heap.size,0,none⟩),.int .u64 150] 187)).alloc (.cells #[.pointer (some ⟨10,121,none⟩),.pointer (some ⟨w.heap.size,0,none⟩),.int .u64 150] 187)).alloc (.cells #[.string s] 119))
  (by rw[World.cell?_alloc_at _ _ _ _ (by simp)];rfl) rfl
  (by rw[World.cell?_alloc_lt _ _ t (by simp;omega),World.cell?_alloc_lt _ _ t (by simp;omega),World.cell?_alloc_lt _ _ t (by simp;omega),World.cell?_alloc_lt _ _ t htl];exact ht0) hts
  (by rw[World.frozen?_alloc_old _ _ t (by simp;omega),World.frozen?_alloc_old _ _ t (by simp;omega),World.frozen?_alloc_old _ _ t (by simp;omega),World.frozen?_alloc_old _ _ t (Nat.ne_of_lt htl)];exact hf0)
 have e175:∀args w,(callFunc 175 args).run Tryz.prog w= .ok (.enter 175 args) w:=enters_of Tryz.func175 (by kernel_rfl) rfl
 go_enter Tryz.func100,Tryz.ntmps100
 go_wp2
 refine wp_loop_rounds 1 ?_;rw[rounds_succ]
 go_wp2
 go_ret
 exact⟨rfl,rfl⟩
end Go.Cx
end
noncomputable section
namespace Go.Cx
open Go Go.Ab Go.Proofs Go.RowKit
def h100:List Value→Lk→Nat→(Value→Lk→Nat→Prop)→Prop:=fun args m n K=>match args with
 | [.nilIface,_]=>K (.bool false) m n
 | [.iface t (.agg ⟨[.string s]⟩),.iface t' (.pointer (some ⟨k,0,some _⟩))]=>match Nat.beq t 119,Nat.beq t' 121,m k with
  | true,true,some ⟨[.string _],ty,true⟩=>match Nat.ble itTy ty with
   | false=>K (.bool true) (m.upd k ⟨[.string s],ty,true⟩) n
   | true=>False
  | _,_,_=>False
 | _=>False
theorem c100:jbt Tryz.prog 100:=⟨_,Tryz.func100,by kernel_rfl,rfl⟩
theorem tab_as {w:World}(h:TabsIn w.heap.size w):w.cell? ⟨0,0,none⟩=some (.iface 229 (.agg #[.pointer (some ⟨10,105,none⟩)])):=
 h.cell (b:=0) rfl (i:=0) rfl
theorem gen100:jcw Tryz.prog 100 h100:=by
 refine⟨c100,fun args m n K hh N w0 ι w hrel hwf hargs=> ?_⟩;unfold h100 at hh;split at hh
 ·rename_i t;refine(as_nil (ren ι t) w).mono fun e w' ⟨h1,h2⟩=> ?_
  subst h2;exact⟨.bool false,m,n,ι,by rw[h1];rfl,hh,Nat.le_refl _,fun _ _=>rfl,hrel,hwf,by simp[ids]⟩
 ·rename_i t s t' k sp;split at hh
  case h_2=>exact hh.elim
  rename_i old ty ht ht' hk;split at hh
  case h_2=>exact hh.elim
  rename_i hty;have ht:=jah ht;have ht':=jah ht';subst ht ht';obtain⟨h1,h2,h3⟩:=hrel.blk k _ hk rfl;rw[objOf_cells hty]at h3
  have e1:([.iface 119 (.agg ⟨[.string s]⟩),.iface 121 (.pointer (some ⟨k,0,some sp⟩))]:List Value).map (ren ι)=[.iface 119 (.agg ⟨[.string s]⟩),.iface 121 (.pointer (some ⟨(ι k).1,0,none⟩))]:=by
   simp[ren,renL,ren1,h1]
  rw[e1]
  have hc:w.cell? ⟨(ι k).1,0,none⟩=some (.string old):=by
   simp only[World.cell?,h3];rfl
  have hf:w.frozen? ⟨(ι k).1,0,none⟩=false:=by
   simp[World.frozen?,h3]
  refine(as_hit s ⟨(ι k).1,0,none⟩ (.string old) w (tab_as hrel.tabs) rfl hc hf).mono fun e w' ⟨g1,g2⟩=> ?_
  have hb:Below w.heap.size w ((((w.alloc (.cells #[.pointer (some ⟨(ι k).1,0,none⟩)] 121)).alloc (.cells #[.pointer (some ⟨10,121,none⟩),.pointer (some ⟨w.heap.size,0,none⟩),.int .u64 150] 187)).alloc (.cells #[.pointer (some ⟨10,121,none⟩),.pointer (some ⟨w.heap.size,0,none⟩),.int .u64 150] 187)).alloc (.cells #[.string s] 119)):=
   ((((Below.refl _ _).alloc (Nat.le_refl _) _).alloc (by simp) _).alloc (by simp;omega) _).alloc (by simp;omega) _
  have hr:=hrel.grow hb;obtain⟨_,_,h4⟩:=hr.blk k _ hk rfl;rw[objOf_cells hty]at h4;have hw:=hr.write hk rfl (b':=⟨[.string s],ty,true⟩) rfl rfl rfl (it_ble hty);refine⟨.bool true,_,n,ι,by rw[g1];rfl,hh,Nat.le_refl _,fun _ _=>rfl,?_,fun j b hj=> ?_,by simp[ids]⟩
  ·rw[g2,setCell_eq_setRow _ _ _ _ _ _ _ h4];exact hw
  ·by_cases e:j=k
   ·subst e;rw[Lk.upd_same]at hj;cases hj;exact⟨(hwf j _ hk).1,by simp[idsL,ids]⟩
   ·rw[Lk.upd_other _ _ e]at hj;exact hwf j b hj
 ·exact hh.elim
end Go.Cx
end
noncomputable section
namespace Go.Cx
open Go Go.Ab Go.Proofs Go.Shelf Go.Px Go.Cv
def RdN (s:ByteArray)(b g:Bool)(d:ByteArray)(c:Int):Prop:=rdN (bz s)=none∧b=false∧g=false∧d=⟨#[]⟩∧c=0∨ ∃l,rdN (bz s)=some (g,l,c)∧d=szO l∧b=true
def hidN:List Value→Lk→Nat→(Value→Lk→Nat→Prop)→Prop:=fun args m n K=>match args with
 | [.string s]=>match cnd (decide (s.size≤9223372036854775807))with
  | true=>∀(b g:Bool) (d:ByteArray) (c:Int),RdN s b g d c→K (.tuple ⟨[.agg ⟨[.bool g,.string d,.int .i64 c]⟩,.bool b]⟩) m n
  | false=>False
 | _=>False
theorem gen_hidN:jcw Tryz.prog 24 hidN:=by
 obtain⟨hc,hp⟩:=ok24;refine⟨hc,fun args m n K hh N w0 ι w hrel hwf hargs=> ?_⟩;unfold hidN at hh;split at hh
 case h_2=>exact hh.elim
 rename_i s;split at hh
 case h_2=>exact hh.elim
 rename_i hcc;have hs:(sp1 s24) [.string s] ([Value.string s].map (blkOf m))=some (true,onV (rdN (bz s))):=congrArg some (Prod.ext (show(s24 s).1=true from hcc) rfl);refine(hp [.string s] _ N w0 m ι w hrel hs rfl).mono fun e' w' ⟨h1,h2⟩=> ?_
 refine⟨onV (rdN (bz s)),m,n,ι,by rw[h1];rfl,?_,Nat.le_refl _,fun _ _=>rfl,hrel.grow h2,hwf,by simp[ids,idsL,onV]⟩;cases hr:rdN (bz s)with
 | none=>
  have:=hh false false ⟨#[]⟩ 0 (.inl ⟨hr,rfl,rfl,rfl,rfl⟩);rw[←jf5]at this;exact this
 | some x=>exact hh true x.1 (szO x.2.1) x.2.2 (.inr ⟨x.2.1,by rw[hr],rfl,rfl⟩)
end Go.Cx
end
noncomputable section
set_option maxHeartbeats 3200000
namespace Go.Cx
open Go Go.Ab Go.Proofs Go.Shelf Go.Px Go.Cv
open Go.Fx (Ty Vl check jbk most base pw bnd Fit fits tv vv tup V0 T0 jbp jbs jbh jcb str0)
def s322 (s:ByteArray):Bool×Value:=(true,S s)
theorem fn322:Fn1 Tryz.prog 322 Tryz.f322:= .m Tryz.func322 (by kernel_rfl)
theorem v322 (s:ByteArray)(R:Value→Prop):ja2 Tryz.prog K6 noL Tryz.f322 [Enc.enc s] (fun _=>none) 0 (fun v _ _=>R v)=(R (S s)):=by kernel_rfl
theorem ok322:jap Tryz.prog 322 (sp1 s322):=by
 refine jca ok_K6 hmix fn322 jai (jag (by kernel_rfl)) fun s hc=> ?_
 rw[ja3,v322]
 try dsimp only[s322]
def s324 (s:ByteArray):Bool×Value:=(true,S s)
theorem fn324:Fn1 Tryz.prog 324 Tryz.f324:= .m Tryz.func324 (by kernel_rfl)
theorem v324 (s:ByteArray)(R:Value→Prop):ja2 Tryz.prog K6 noL Tryz.f324 [Enc.enc s] (fun _=>none) 0 (fun v _ _=>R v)=(R (S s)):=by kernel_rfl
theorem ok324:jap Tryz.prog 324 (sp1 s324):=by
 refine jca ok_K6 hmix fn324 jai (jag (by kernel_rfl)) fun s hc=> ?_
 rw[ja3,v324]
 try dsimp only[s324]
def K7:Env:=Env.nil
theorem ok_K7:jax Tryz.prog K7:=jan
def s115 (t:Ty):Bool×Value:=(decide (t.q≤t.p∧t.p≤1000∧0≤t.q),I (if t.k=2 then t.p else(332*(t.p - t.q)+99)/100))
theorem fn115:Fn1 Tryz.prog 115 Tryz.f115:= .m Tryz.func115 (by kernel_rfl)
theorem v115 (t:Ty)(R:Value→Prop):ja2 Tryz.prog K7 noL Tryz.f115 [Enc.enc t] (fun _=>none) 0 (fun v _ _=>R v)=(bif qdo t 2 then R (I (Fx.Ty.p t))else qer ((qgi (qge 332 (qcy (Fx.Ty.p t) (Fx.Ty.q t))) 99).tdiv 100) R):=by kernel_rfl
theorem ok115:jap Tryz.prog 115 (sp1 s115):=by
 refine jca ok_K7 hmix fn115 jai (jag (by kernel_rfl)) fun t hc=> ?_
 rw[ja3,v115];delta qer qgi qge qcy qdo;have hc:(t.q≤t.p∧t.p≤1000∧0≤t.q):=jab hc
 try dsimp only[s115]
 refine cond_intro (fun h=> ?_) (fun h=> ?_)
 ·have h:t.k=2:=eq_of_beq h;rw[if_pos h]
 ·have h:¬t.k=2:=by simpa using h
  rw[if_neg h,w64 (n:=t.p - t.q) (by omega),w64 (n:=332*(t.p - t.q)) (by omega),w64 (n:=332*(t.p - t.q)+99) (by omega)];by_cases hn:0≤332*(t.p - t.q)+99
  ·rw[Int.tdiv_eq_ediv_of_nonneg hn,w64 (by omega)]
  ·exfalso;omega
def K8:Env:=Env.nil
theorem ok_K8:jax Tryz.prog K8:=jan
def inB:Nat→Int→List Int
 | 0,_=> []
 | k+1,n=>inB k (n/2)++ [48+n%2]
theorem zrow8 (k:Nat):zrow (.int .u8 0) k=cz (List.replicate k 0):=by
 rw[cz,List.map_replicate];refine List.eq_replicate_iff.2 ⟨by rw[zrow_len];simp[Value.cells],fun v hv=> ?_⟩;have:=zrow_mem hv;simpa[Value.cells]using this
theorem row_zero (k:Nat)(hk:k≤1000):RowP (zrow (.int .u8 0) k) k k:=by
 rw[zrow8];have:=(ji3 (List.replicate k 0) (tail:=[]) (cap:=k) rfl (by simp) (by omega)).1;rw[List.append_nil,List.length_replicate]at this;exact this
theorem row_set {d:List Value} {n cap:Nat}(h:RowP d n cap) {k:Nat}(hk:k<n)(x:Int):RowP (setL d (0+k*1) [.int .u8 x]) n cap∧zc (setL d (0+k*1) [.int .u8 x]) n=(zc d n).set k x:=by
 have e:setL d (0+k*1) [.int .u8 x]=d.set k (.int .u8 x):=by rw[Nat.zero_add,Nat.mul_one];rfl
 have ht:(d.set k (.int .u8 x)).take n=cz ((zc d n).set k x):=by
  rw[List.take_set,h.take,cz,cz,List.map_set]
 rw[e];refine⟨⟨by rw[ht];exact jee _,?_,by rw[List.length_set];exact h.len,h.le,h.cap⟩,?_⟩
 ·refine jba.2 fun v hv=> ?_
  rcases List.mem_or_eq_of_mem_set hv with hv | hv
  ·exact jba.1 h.plain v hv
  ·rw[hv];rfl
 ·show List.map iv ((d.set k (.int .u8 x)).take n)=_;rw[ht];simp[cz,Function.comp_def,iv]
def V223_0:Int×Int×ByteArray×Nat×Nat×Int×Int×List Value→List Value:=fun(n,m,r,a,b,L,i,d)=> [I n,I m,S r,.slice (some ⟨200,0,some 1⟩) a b,I L,I i]
def B223_0:Int×Int×ByteArray×Nat×Nat×Int×Int×List Value→List (Option Blk):=fun(n,m,r,a,b,L,i,d)=> [some ⟨d,5,true⟩]
def S223_0:LSpecA (Int×Int×ByteArray×Nat×Nat×Int×Int×List Value) where
 live:=[0,1,4,5,10,11]
 mid:=[200]
 n:=210
 ap:=[(.tmp 5,200)]
 dec vs bs:=match vs,bs with
  | [.int .i64 n,.int .i64 m,.string r,.slice (some ⟨200,0,some 1⟩) a b,.int .i64 L,.int .i64 i],[some ⟨d,5,true⟩]=>some (n,m,r,a,b,L,i,d)
  | _,_=>none
 pre:=fun(n,m,r,a,b,L,i,d)=>jcg d a b&&decide (0≤n∧n≤2147483648∧0≤i∧i≤L∧L=m∧m≤1000∧(a:Int)=m)
 fin:=fun(n,m,r,a,b,L,i,d) Z=>∀(n':Int) (d':List Value),jcg d' a b=true→zc d' a=inB (m - i).toNat n++(zc d a).drop (m - i).toNat→Z (.exit 0) [I n',I m,S r,.slice (some ⟨200,0,some 1⟩) a b,I L,I L] [some ⟨d',5,true⟩]
theorem r223_0 (n:Int)(m:Int)(r:ByteArray)(a:Nat)(b:Nat)(L:Int)(i:Int)(d:List Value)(jk:Tmps)(R:Exit→List Value→List (Option Blk)→Prop):(jbr Tryz.prog K8 noL Tryz.f223.ntmps (ja6 Tryz.f223 0) (tl S223_0.live (V223_0 (n,m,r,a,b,L,i,d)) jk) (ml S223_0.mid (B223_0 (n,m,r,a,b,L,i,d))) S223_0.n fun e t' m' _=>S223_0.out R e t' m')=(qaz (Nat.ble (0+qbo (qcy m 1 - i)*1+1) d.length) (qca qd7 (setL d (0+qbo (qcy m 1 - i)*1) [qc7 n 2 .i64])) (jav qd7 d&&true) R i L (qcy (qfl m 1) i) [qaq d 200 200] (qb8 n::qb8 m::qg4 r (qb7 L i) (qcd 200 a b)) a 0 (R .normal (I (IntKind.i64.wrap (n.tdiv 2))::qb8 m::qg4 r (qb8 L::qcs i) (qcd 200 a b)) [qaq (setL d (0+qbo (qcy m 1 - i)*1) [qc7 n 2 .i64]) 200 200]) False):=by kernel_rfl
theorem l223_0:LOKf Tryz.prog (oneL 0 S223_0.hA) Tryz.f223:=by
 refine jbl (h:=S223_0.hA) (by kernel_rfl) (jbo ok_K8 hmix (by kernel_rfl) (ja5 _) S223_0 V223_0 B223_0 (fun(n,m,r,a,b,L,i,d)=>(L - i).toNat) ?_ ?_ ?_)
 ·intro vs bs s h;simp only[S223_0]at h;split at h
  all_goals first | (cases h;exact⟨rfl,rfl⟩) | cases h | (split at h<;>first | (rename_i hq;cases h;have hq:=jah hq;subst hq;exact⟨rfl,rfl⟩) | cases h)
 ·exact fun⟨n,m,r,a,b,L,i,d⟩ hp=>by
   simp only[S223_0,jaf]at hp;simp[V223_0,B223_0,S223_0,ja0,jbw,idsL,ids,jaq (jat.1 hp.1).plain]
 ·intro⟨n,m,r,a,b,L,i,d⟩ jk Z hp hf;rw[r223_0];delta qg5 qbm qgr qaz qaq qc7 qbo qcy qg4 qcd qaf qcs qb8 qb7 qfl qd7 qca;simp only[S223_0]at hp hf;simp only[jaf,jae]at hp;obtain⟨hr,hn0,hn1,hi0,hiL,hLm,hm,ham⟩:=hp;have hr:=jat.1 hr;have hzl:=ja7 hr;refine cond_intro (fun h=> ?_) (fun h=> ?_)
  ·have h:=jab h
   have hk:(IntKind.wrap .i64 (IntKind.wrap .i64 (m - 1) - i))=((m - i).toNat - 1:Nat):=by
    rw[w64 (n:=m - 1) (by omega),w64 (by omega)];omega
   rw[hk,Int.toNat_natCast];generalize hkk:(m - i).toNat - 1=k;have hka:k<a:=by omega
   obtain⟨g1,g2⟩:=row_set hr hka (48+n%2)
   have hw:IntKind.u8.wrap (IntKind.i64.wrap (48+n.tmod 2))=48+n%2:=by
    rw[Int.tmod_eq_emod_of_nonneg hn0,w64 (by omega),w8 (by omega)]
   have hq:IntKind.i64.wrap (n.tdiv 2)=n/2:=by rw[Int.tdiv_eq_ediv_of_nonneg hn0,w64 (by omega)]
   rw[hw,hq,w64 (n:=i+1) (by omega),g1.good,g1.rlb];have hl:=hr.len;have hle:=hr.le;refine c_t (jaa (by omega)) (c_t (by rw[Nat.ble_eq];omega) (c_t rfl ⟨(n/2,m,r,a,b,L,i+1,_),rfl,rfl,?_,by simp only;omega,fun n' d' h1 h2=>hf n' d' h1 ?_⟩))
   ·simp only[S223_0,jaf,jae];exact⟨jat.2 g1,by omega⟩
   ·have e1:(m - i).toNat=k+1:=by omega
    have e2:(m - (i+1)).toNat=k:=by omega
    rw[h2,e1,e2,g2,inB,List.append_assoc];congr 1;rw[List.drop_set,if_neg (by omega),Nat.sub_self];have:(zc d a).drop k=(zc d a)[k]'(by omega)::(zc d a).drop (k+1):=List.drop_eq_getElem_cons (by omega);rw[this];rfl
  ·have h:=jac h;rw[hr.good,hr.rlb];obtain rfl:i=L:=by omega
   refine c_t rfl (hf n d (jat.2 hr) ?_);rw[show(m - i).toNat=0 by omega];rfl
def s223 (n:Int)(m:Int):Bool×Value:=(decide (0≤n∧n≤2147483648∧0≤m∧m≤1000),S (szO (inB m.toNat n)))
theorem fn223:Fn1 Tryz.prog 223 Tryz.f223:= .m Tryz.func223 (by kernel_rfl)
theorem v223 (n:Int)(m:Int)(R:Value→Prop):ja2 Tryz.prog K8 (oneL 0 S223_0.hA) Tryz.f223 [Enc.enc n,Enc.enc m] (fun _=>none) 0 (fun v _ _=>R v)=(qev (S223_0.toLSpec.pre (n,(m,(qfi,(m.toNat,(m.toNat,(natO m.toNat,((0:Int),qfa m 2)))))))) m 2 (Int→(∀a:List Value,qbz true (inB (Int.toNat (m - 0)) n) ((zc (qfa m 2) m.toNat).drop (Int.toNat (m - 0))) a a m.toNat m.toNat 210 R))):=by kernel_rfl
theorem ok223:jap Tryz.prog 223 (sp2 s223):=by
 refine jc1 ok_K8 hmix fn223 l223_0 (jag (by kernel_rfl)) fun n m hc=> ?_
 rw[ja3,v223];delta qgn qgm qca qcz qf3 qb3 qev qdm qff qbz qfa qfi;have hc:(0≤n∧n≤2147483648∧0≤m∧m≤1000):=jab hc
 try dsimp only[s223]
 obtain⟨h1,h2,h3,h4⟩:=hc;have hr:=row_zero m.toNat (by omega);rw[hr.good,hr.rlb];refine c_t (by rw[jaa (show 0≤m∧m≤m by omega)];simp only[Bool.true_and,jbu,jaf,Nat.ble_eq];omega) (c_t (by rw[jbd hr.plain];rfl) (c_t ?_ fun n' d' g1 g2=> ?_))
 ·simp only[S223_0,jaf,jae];rw[jb4];exact⟨jat.2 hr,by omega⟩
 ·have g1:=jat.1 g1;rw[Int.sub_zero]at g2;have hzl:=ja7 hr;rw[List.drop_eq_nil_of_le (by omega),List.append_nil]at g2;refine c_t (by rw[jbd g1.plain];rfl) fun _=>c_t g1.str.1 ?_
  rw[g1.str.2,g2,jcx]
end Go.Cx
end
noncomputable section
namespace Go.Cx
open Go Go.Ab Go.Px Go.Cv
theorem jgt {p:Int→Bool}:∀{l r:List Int},l.all p=true→(l++r).dropWhile p=r.dropWhile p
 | [],_,_=>rfl
 | c::l,r,h=>by
  simp only[List.all_cons,jaf]at h;rw[List.cons_append,List.dropWhile_cons_of_pos h.1,jgt h.2]
theorem drop_nil {p:Int→Bool}:∀{l:List Int},l.dropWhile p=[]→ ∀a∈l,p a=true
 | [],_,_,ha=>by cases ha
 | c::l,h,a,ha=>by
  cases hc:p c with
  | false=>rw[List.dropWhile_cons_of_neg (by simp[hc])]at h;cases h
  | true=>
   rw[List.dropWhile_cons_of_pos hc]at h;rcases List.mem_cons.1 ha with rfl | ha
   ·exact hc
   ·exact drop_nil h a ha
end Go.Cx
end
noncomputable section
namespace Go.Cx
open Go Go.Ab Go.Px Go.Cv
open Go.Fx (Ty Vl check jbk most base pw bnd Fit fits)
def numA (n q:Int):Num:=ja9 (decide (n<0)) (itoZ (if n<0 then -n else n)) q
end Go.Cx
end
noncomputable section
namespace Go.Ab
open Go Go.RowKit
def eqI (a b:Int):Bool:=match a,b with
 | .ofNat m,.ofNat n=>Nat.beq m n
 | .negSucc m,.negSucc n=>Nat.beq m n
 | _,_=>false
def eqU:List UInt8→List UInt8→Bool
 | [],[]=>true
 | a::l,b::r=>match Nat.beq a.toNat b.toNat with | true=>eqU l r | false=>false
 | _,_=>false
def eqK (a b:IntKind):Bool:=match decEq a b with | .isTrue _=>true | .isFalse _=>false
mutual
def eqV:Value→Value→Bool
 | .int k a,.int k' b=>match eqK k k' with | true=>eqI a b | false=>false
 | .bool a,.bool b=>match a,b with | true,true=>true | false,false=>true | _,_=>false
 | .string ⟨⟨a⟩⟩,.string ⟨⟨b⟩⟩=>eqU a b
 | .agg ⟨l⟩,.agg ⟨r⟩=>eqVL l r
 | .iface t a,.iface t' b=>match Nat.beq t t' with | true=>eqV a b | false=>false
 | .nilIface,.nilIface=>true
 | _,_=>false
def eqVL:List Value→List Value→Bool
 | [],[]=>true
 | a::l,b::r=>match eqV a b with | true=>eqVL l r | false=>false
 | _,_=>false
end
theorem eqI_spec {a b:Int}(h:eqI a b=true):a=b:=by
 unfold eqI at h;split at h
 ·rw[jah h]
 ·rw[jah h]
 ·cases h
theorem eqU_spec:∀{a b:List UInt8},eqU a b=true→a=b
 | [],[],_=>rfl
 | a::l,b::r,h=>by
  simp only[eqU]at h;split at h
  ·rename_i hb;rw[UInt8.toNat_inj.1 (jah hb),eqU_spec h]
  ·cases h
 | [],_::_,h=>by cases h
 | _::_,[],h=>by cases h
theorem eqK_spec {a b:IntKind}(h:eqK a b=true):a=b:=by
 unfold eqK at h;split at h
 ·assumption
 ·cases h
mutual
theorem eqV_spec:∀{a b:Value},eqV a b=true→a=b
 | .int k a,.int k' b,h=>by
  simp only[eqV]at h;split at h
  ·rename_i hk;rw[eqK_spec hk,eqI_spec h]
  ·cases h
 | .bool a,.bool b,h=>by cases a<;>cases b<;>first | rfl | cases h
 | .string ⟨⟨a⟩⟩,.string ⟨⟨b⟩⟩,h=>by
  simp only[eqV]at h;rw[eqU_spec h]
 | .agg ⟨l⟩,.agg ⟨r⟩,h=>by
  simp only[eqV]at h;rw[je2 h]
 | .iface t a,.iface t' b,h=>by
  simp only[eqV]at h;split at h
  ·rename_i ht;rw[jah ht,eqV_spec h]
  ·cases h
 | .nilIface,.nilIface,_=>rfl
theorem je2:∀{a b:List Value},eqVL a b=true→a=b
 | [],[],_=>rfl
 | a::l,b::r,h=>by
  simp only[eqVL]at h;split at h
  ·rename_i hb;rw[eqV_spec hb,je2 h]
  ·cases h
 | [],_::_,h=>by cases h
 | _::_,[],h=>by cases h
end
def memo:List (List Value×Value)→Spec
 | []=>fun _ _=>none
 | (a,v)::r=>fun args bs=>match eqVL args a with | true=>some (true,v) | false=>memo r args bs
theorem jha {args:List Value} {bs:List (Option Blk)} {b:Bool} {v:Value}:∀{l:List (List Value×Value)},memo l args bs=some (b,v)→b=true∧(args,v)∈l
 | [],h=>by cases h
 | (a,u)::r,h=>by
  simp only[memo]at h;split at h
  ·rename_i ha;simp only[Option.some.injEq,Prod.mk.injEq]at h;exact⟨h.1.symm,by rw[je2 ha,h.2];exact List.mem_cons_self ..⟩
  ·obtain⟨h1,h2⟩:=jha h;exact⟨h1,List.mem_cons_of_mem _ h2⟩
variable [Tabs]
def AllD (P:Program)(G:Env)(L:Nat→Option jb2)(fn:Func):List (List Value×Value)→Prop
 | []=>True
 | (a,v)::r=>ja3 P G L fn a v∧AllD P G L fn r
theorem AllD_mem {P:Program} {G:Env} {L:Nat→Option jb2} {fn:Func} {a:List Value} {v:Value}:∀{l:List (List Value×Value)},AllD P G L fn l→(a,v)∈l→ja3 P G L fn a v
 | (a',v')::r,h,hm=>by
  rcases List.mem_cons.1 hm with e | hm
  ·cases e;exact h.1
  ·exact AllD_mem h.2 hm
theorem jd7 {P:Program} {G:Env} {L:Nat→Option jb2} {f:FuncId} {fn:Func}(hG:jax P G)(hm:P.follows .mixedOrders=true)(hf:Fn1 P f fn)(hL:LOKf P L fn) {l:List (List Value×Value)}
  (hp:(l.all fun x=>ja4 x.1&&Nat.ble x.1.length fn.ntmps)=true) (h:AllD P G L fn l):jap P f (memo l):=by
 refine jct hG hm hf hL fun args bs v hs=> ?_
 obtain⟨_,hmem⟩:=jha hs;have:=List.all_eq_true.1 hp _ hmem;simp only[jaf]at this;exact⟨this.1,jag this.2,AllD_mem h hmem⟩
end Go.Ab
end
noncomputable section
set_option maxHeartbeats 3200000
namespace Go.Cx
open Go Go.Ab Go.Proofs Go.Shelf Go.Px Go.Cv
open Go.Fx (Ty Vl check jbk most base pw bnd Fit fits tv vv tup V0 T0 jbp jbs jbh jcb str0)
def K9p:Env:=((((((((((Env.nil.add 71 (sp1 s71)).addG 30 (hideS (sp2 s30))).add 322 (sp1 s322)).add 324 (sp1 s324)).addG 24 hidN).add 77 (sp3 s77)).add 115 (sp1 s115)).add 29 (sp1 s29)).add 321 (sp1 s321)).add 78 (sp1 s78)).add 223 (sp2 s223)
theorem ok_K9p:jax Tryz.prog K9p:=jak (jak (jak (jak (jak (jak (jam (jak (jak (jam (jak jan ok71) (je1 ok30)) ok322) ok324) gen_hidN) ok77) ok115) ok29) ok321) ok78) ok223
theorem fn222:Fn1 Tryz.prog 222 Tryz.f222:= .m Tryz.func222 (by kernel_rfl)
theorem fn170:Fn1 Tryz.prog 170 Tryz.f170:= .m Tryz.func170 (by kernel_rfl)
theorem fn97:Fn1 Tryz.prog 97 Tryz.f97:= .m Tryz.func97 (by kernel_rfl)
theorem fn169:Fn1 Tryz.prog 169 Tryz.f169:= .m Tryz.func169 (by kernel_rfl)
theorem fn101:Fn1 Tryz.prog 101 Tryz.f101:= .m Tryz.func101 (by kernel_rfl)
theorem fn168:Fn1 Tryz.prog 168 Tryz.f168:= .m Tryz.func168 (by kernel_rfl)
theorem fn99:Fn1 Tryz.prog 99 Tryz.f99:= .m Tryz.func99 (by kernel_rfl)
theorem fn34:Fn1 Tryz.prog 34 Tryz.f34:= .m Tryz.func34 (by kernel_rfl)
def qdz (c:Bool)(b:Int)(a:List Int)(d:Value→Prop):Prop:=qbh (qcr (szO a) (-100000) b 100000 100000) [Value.nilIface] (.agg ⟨qaj (ja9 c (bz (szO a)) b)⟩) d
theorem x222w (n:Int)(k:Int)(p:Int)(q:Int)(w:Bool)(u:ByteArray)(R:Value→Prop):(ja2 Tryz.prog K9p noL Tryz.f222 [.iface 174 (.agg ⟨[I n,I k,I p,I q,B w,S u]⟩)] (fun _=>none) 0 (fun v _ _=>R v))=(qec (qgl n) (qb3 (-9223372036854775808) (qcy 0 n) 9223372036854775807) (qb3 (-9223372036854775808) n 9223372036854775807) (qdz (qgl n) q (itoZ (qcy 0 n)) R) (qdz (qgl n) q (itoZ n) R)):=by kernel_rfl
theorem x222b (s:ByteArray)(R:Value→Prop):(ja2 Tryz.prog K9p noL Tryz.f222 [.iface 175 (S s)] (fun _=>none) 0 (fun v _ _=>R v))=(bif jb8 (bz s) &&decide (s.size≤64)then qdz false 0 (dz (binG (bz s) 0)) R else False):=by kernel_rfl
theorem x222c (s:ByteArray)(R:Value→Prop):(ja2 Tryz.prog K9p noL Tryz.f222 [.iface 178 (S s)] (fun _=>none) 0 (fun v _ _=>R v))=(bif qax s then∀a:Bool,∀b:Bool,∀c:ByteArray,∀d:Int,RdN s a b c d→(bif !a then R (qgh [qeg,.iface 119 (.agg ⟨[S s]⟩)])else R (qgh [.agg ⟨B b::qg4 c [] (qb8 d)⟩,Value.nilIface]))else False):=by kernel_rfl
theorem x169 (s:ByteArray)(n:Int)(c:ByteArray)(R:Value→Prop):(ja2 Tryz.prog K9p noL Tryz.f169 [S s,I n,S c] (fun _=>none) 0 (fun v _ _=>R v))=(bif decide ((s.size:Int)≥n)then bif decide ((0:Int)≤0∧0≤n∧n≤(s.size:Int))then R (S (ByteArray.extract s 0 n.toNat))else False else bif decide (0≤IntKind.wrap .i64 (n - (s.size:Int))∧IntKind.wrap .i64 (n - (s.size:Int))≤1000∧c.size≤1000)then∀(s':ByteArray),szO (repZ (bz c) (IntKind.wrap .i64 (n - (s.size:Int))).toNat)=s'→bif jby (s.size+s'.size)then R (S (s++s'))else False else False):=by kernel_rfl
def divT:Nat→Int→Int
 | 0,n=>n
 | k+1,n=>divT k (n/10)
theorem divT_rng:∀(k:Nat) (n:Int),0≤n→0≤divT k n∧divT k n≤n
 | 0,n,h=>⟨h,Int.le_refl _⟩
 | k+1,n,h=>by
  have:=divT_rng k (n/10) (by omega);rw[divT];omega
def V170_1:Int×Int×Int×Int×Bool×ByteArray×Int×Int×Int→List Value:=fun(m,k,p,q,w,u,n,Q,i)=> [.pointer (some ⟨6,0,some 0⟩),I n,I Q,I i]
def B170_1:Int×Int×Int×Int×Bool×ByteArray×Int×Int×Int→List (Option Blk):=fun(m,k,p,q,w,u,n,Q,i)=> [some ⟨[I m,I k,I p,I q,B w,S u],174,true⟩]
def S170_1:LSpec (Int×Int×Int×Int×Bool×ByteArray×Int×Int×Int) where
 live:=[4,5,21,22]
 mid:=[6]
 n:=60
 dec vs bs:=match vs,bs with | [.pointer (some ⟨6,0,some 0⟩),.int .i64 n,.int .i64 Q,.int .i64 i],[some ⟨[.int .i64 m,.int .i64 k,.int .i64 p,.int .i64 q,.bool w,.string u],174,true⟩]=>some (m,k,p,q,w,u,n,Q,i) | _,_=>none
 pre:=fun(m,k,p,q,w,u,n,Q,i)=>decide (0≤n∧n≤2147483648∧0≤i∧i≤Q∧Q≤1000)
 fin:=fun(m,k,p,q,w,u,n,Q,i) Z=>Z (.exit 1) [.pointer (some ⟨6,0,some 0⟩),I (divT (Q - i).toNat n),I Q,I Q] [some ⟨[I m,I k,I p,I q,B w,S u],174,true⟩]
theorem r170_1 (m:Int)(k:Int)(p:Int)(q:Int)(w:Bool)(u:ByteArray)(n:Int)(Q:Int)(i:Int)(jk:Tmps)(R:Exit→List Value→List (Option Blk)→Prop):(jbr Tryz.prog K9p noL Tryz.f170.ntmps (ja6 Tryz.f170 1) (tl S170_1.live (V170_1 (m,k,p,q,w,u,n,Q,i)) jk) (ml S170_1.mid (B170_1 (m,k,p,q,w,u,n,Q,i))) S170_1.n fun e t' m' _=>R e (List.map t' S170_1.live) (List.map m' S170_1.mid))=(qes R i Q Q [some (.mk [qb8 m,qb8 k,qb8 p,qb8 q,B w,S u] 174 true)] (qcs i) (qb7 Q i) 1 (qag 6) (I (IntKind.i64.wrap (n.tdiv 10))) (qb8 n)):=by kernel_rfl
theorem l170_1:LOKf Tryz.prog (oneL 1 S170_1.h) Tryz.f170:=by
 refine jbl (h:=S170_1.h) (by kernel_rfl) (jbg ok_K9p hmix (by kernel_rfl) (ja5 _) S170_1 V170_1 B170_1 (fun(m,k,p,q,w,u,n,Q,i)=>(Q - i).toNat) ?_ ?_ ?_)
 ·intro vs bs s h;simp only[S170_1]at h;split at h
  all_goals first | (cases h;exact⟨rfl,rfl⟩) | cases h | (split at h<;>first | (rename_i hq;cases h;have hq:=jah hq;subst hq;exact⟨rfl,rfl⟩) | cases h)
 ·exact fun _ _ _ h=>h
 ·intro⟨m,k,p,q,w,u,n,Q,i⟩ jk Z hp hf;rw[r170_1];delta qb8 qgr qes qag qb7 qaf qcs;simp only[S170_1]at hp hf;have hp:=jab hp;refine cond_intro (fun h=> ?_) (fun h=> ?_)
  ·have h:=jab h;rw[show(Q - i).toNat=(Q - (i+1)).toNat+1 by omega,divT]at hf;rw[Int.tdiv_eq_ediv_of_nonneg hp.1,w64 (n:=n/10) (by omega),w64 (n:=i+1) (by omega)];exact⟨(m,k,p,q,w,u,n/10,Q,i+1),rfl,rfl,by simp only[S170_1,jae];omega,by simp only;omega,hf⟩
  ·have h:=jac h;obtain rfl:i=Q:=by omega
   rw[Int.sub_self]at hf;exact hf
def qby (e:Bool)(f:ByteArray)(a b c d g:Int)(h:Value→Prop):Prop:=bif S170_1.pre (a,(b,(c,(d,(e,(f,(g,(d,(0:Int)))))))))then qgz (qbe d c 1000 0 d) (qbh (qc9 0 (divT (Int.toNat (d - 0)) g) 2147483648 0 (if b=2 then c else(332*(c - d)+99)/100) 1000) [Value.nilIface] (S (szO (inB (if b=2 then c else(332*(c - d)+99)/100).toNat (divT (Int.toNat (d - 0)) g)))) h) False else False
theorem x170w (n:Int)(k:Int)(p:Int)(q:Int)(w:Bool)(u:ByteArray)(R:Value→Prop):(ja2 Tryz.prog K9p (oneL 1 S170_1.h) Tryz.f170 [.iface 174 (.agg ⟨[I n,I k,I p,I q,B w,S u]⟩)] (fun _=>none) 0 (fun v _ _=>R v))=(bif qgl n then qby w u n k p q (qcy 0 n) R else qby w u n k p q n R):=by kernel_rfl
theorem x170b (s:ByteArray)(R:Value→Prop):(ja2 Tryz.prog K9p (oneL 1 S170_1.h) Tryz.f170 [.iface 175 (S s)] (fun _=>none) 0 (fun v _ _=>R v))=(R (.tuple (.mk [S s,Value.nilIface]))):=by kernel_rfl
theorem x170c (s:ByteArray)(R:Value→Prop):(ja2 Tryz.prog K9p (oneL 1 S170_1.h) Tryz.f170 [.iface 178 (S s)] (fun _=>none) 0 (fun v _ _=>R v))=(qeb (jb8 (bz s)) s (R (qgh (qg4 s [] Value.nilIface))) (R (qgh [qe2,.iface 119 (.agg ⟨[S s]⟩)]))):=by kernel_rfl
def jdj (l:List Int)(n:Nat)(c:Int):List Int:=l.take n++List.replicate (n - l.length) c
def jft (t:Ty):Int:=if t.k=2 then t.p else(332*(t.p - t.q)+99)/100
def absI (n:Int):Int:=if n<0 then -n else n
def s222:Ab.Spec:=fun args _=>match args with
 | [.iface 174 (.agg ⟨[.int .i64 n,.int .i64 _,.int .i64 _,.int .i64 q,.bool _,.string _]⟩)]=>some (decide (-2147483648≤n∧n≤2147483648∧0≤q∧q≤9),.tuple ⟨[numV (numA n q),.nilIface]⟩)
 | [.iface 175 (.string s)]=>some (jb8 (bz s) &&decide (s.size≤64),.tuple ⟨[numV (ja9 false (binD (bz s)) 0),.nilIface]⟩)
 | [.iface 178 (.string s)]=>some (decide (s.size≤9223372036854775807),.tuple ⟨[numV ((rdN (bz s)).getD num0),if(rdN (bz s)).isSome=true then .nilIface else .iface 119 (.agg ⟨[.string s]⟩)]⟩)
 | _=>none
def s170:Ab.Spec:=fun args _=>match args with
 | [.iface 174 (.agg ⟨[.int .i64 n,.int .i64 k,.int .i64 p,.int .i64 q,.bool w,.string u]⟩)]=>some (decide (jbk ⟨k,p,q,w,u⟩∧ -2147483648≤n∧n≤2147483648),.tuple ⟨[S (szO (inB (jft ⟨k,p,q,w,u⟩).toNat (divT q.toNat (absI n)))),.nilIface]⟩)
 | [.iface 175 (.string s)]=>some (true,.tuple ⟨[S s,.nilIface]⟩)
 | [.iface 178 (.string s)]=>some (decide (s.size≤9223372036854775807),.tuple ⟨[if jb8 (bz s)=true then S s else S ⟨#[]⟩,if jb8 (bz s)=true then .nilIface else .iface 119 (.agg ⟨[.string s]⟩)]⟩)
 | _=>none
def s97:Ab.Spec:=fun args _=>match args with
 | [.agg ⟨[.int .i64 n,.string s]⟩,.agg ⟨[.int .i64 k,.int .i64 p,.int .i64 q,.bool w,.string u]⟩]=>match eqI k 1,eqI k 2,eqI k 3,eqI k 4 with
  | true,_,_,_=>some (true,.iface 174 (.agg ⟨[.int .i64 n,.int .i64 1,.int .i64 p,.int .i64 q,.bool w,.string u]⟩))
  | _,true,_,_=>some (true,.iface 174 (.agg ⟨[.int .i64 n,.int .i64 2,.int .i64 p,.int .i64 q,.bool w,.string u]⟩))
  | _,_,true,_=>some (true,.iface 178 (.string s))
  | _,_,_,true=>some (true,.iface 175 (.string s))
  | _,_,_,_=>none
 | _=>none
def s169 (s:ByteArray)(n:Int)(c:ByteArray):Bool×Value:=(decide (0≤n∧n≤1000) &&oneB c,S (szO (jdj (bz s) n.toNat ((bz c).getD 0 0))))
theorem num_abs {n q:Int}(h: -2147483648≤n∧n≤2147483648)(hq:0≤q∧q≤9) {x:Value} {m:Int}(hm:(if n<0 then -n else n)=m)
  (hx:x= .tuple ⟨[numV (ja9 (decide (n<0)) (bz (szO (itoZ m))) q),.nilIface]⟩):x= .tuple ⟨[numV (numA n q),.nilIface]⟩:=by
 rw[hx,jdk (ito_isB _),numA,hm]
theorem ok222:jap Tryz.prog 222 s222:=by
 refine jct ok_K9p hmix fn222 jai fun args bs v hs=> ?_
 unfold s222 at hs;split at hs
 ·rename_i n k p q w u;simp only[Option.some.injEq,Prod.mk.injEq,jae]at hs;obtain⟨⟨h1,h2,h3,h4⟩,rfl⟩:=hs;refine⟨rfl,jag (by kernel_rfl),?_⟩;rw[ja3,x222w];delta qgn qec qgh qbh qg4 qaj qcr qdz qgl qcy qb3;refine cond_intro (fun h=> ?_) (fun h=> ?_)
  ·have h:=jab h;have hl:=jhe (m:=0 - n) (by omega);rw[w64 (n:=0 - n) (by omega)];refine c_t (jaa (by omega)) (c_t (jaa ⟨by rw[jc3];omega,by omega,by omega⟩) ?_);exact num_abs ⟨h1,h2⟩ ⟨h3,h4⟩ (by rw[if_pos h];omega) rfl
  ·have h:=jac h;have hl:=jhe (m:=n) (by omega);refine c_t (jaa (by omega)) (c_t (jaa ⟨by rw[jc3];omega,by omega,by omega⟩) ?_);exact num_abs ⟨h1,h2⟩ ⟨h3,h4⟩ (by rw[if_neg h]) rfl
 ·rename_i s;simp only[Option.some.injEq,Prod.mk.injEq,jaf,jae]at hs;obtain⟨⟨h1,h2⟩,rfl⟩:=hs;refine⟨rfl,jag (by kernel_rfl),?_⟩;rw[ja3,x222b];delta qgh qbh qg4 qaj qcr qdz;have hb:=jkg h1 (by rw[jao];exact h2);have hd:=jkc 20 (binG (bz s) 0) hb.1 (Int.lt_of_lt_of_le hb.2 (by decide));refine c_t (by rw[h1,jaa h2];rfl) (c_t (jaa ⟨by rw[jc3];omega,by omega,by omega⟩) ?_);rw[jdk (dz_isB _),jjl]
 ·rename_i s;simp only[Option.some.injEq,Prod.mk.injEq,jae]at hs;obtain⟨h1,rfl⟩:=hs;refine⟨rfl,jag (by kernel_rfl),?_⟩;rw[ja3,x222c];delta qgh qg4 qb8 qfi qe2 qeg qax;refine c_t (jaa h1) fun b g d c hR=> ?_
  rcases hR with⟨r,rfl,rfl,rfl,rfl⟩ | ⟨l,r,rfl,rfl⟩
  ·refine c_t rfl ?_;rw[r];show _=Value.tuple ⟨[.agg ⟨[.bool false,.string (szO []),.int .i64 0]⟩,.iface 119 (.agg ⟨[.string s]⟩)]⟩;rw[jf5]
  ·refine c_f rfl ?_;rw[r];rfl
 ·cases hs
theorem ok170:jap Tryz.prog 170 s170:=by
 refine jct ok_K9p hmix fn170 l170_1 fun args bs v hs=> ?_
 unfold s170 at hs;split at hs
 ·rename_i n k p q w u;simp only[Option.some.injEq,Prod.mk.injEq,jae]at hs;obtain⟨⟨hv,h1,h2⟩,rfl⟩:=hs;obtain⟨v1,v2,v3,v4,v5⟩:=Fx.valid_r hv;simp only at v1 v2 v3 v4 v5;refine⟨rfl,jag (by kernel_rfl),?_⟩;rw[ja3,x170w];delta qg5 qgz qgh qbh qc9 qbe qby qcy qgl;have hbw:0≤jft ⟨k,p,q,w,u⟩∧jft ⟨k,p,q,w,u⟩≤200:=by unfold jft;simp only;split<;>omega
  have key:∀m:Int,absI n=m→0≤m∧m≤2147483648→LSpec.pre S170_1 (n,k,p,q,w,u,m,q,0)=true∧0≤divT (q - 0).toNat m∧divT (q - 0).toNat m≤2147483648∧divT (q - 0).toNat m=divT q.toNat (absI n):=fun m hm hr=>by
   have:=divT_rng (q - 0).toNat m hr.1;refine⟨by simp only[S170_1,jae];omega,by omega,by omega,by rw[hm,Int.sub_zero]⟩
  refine cond_intro (fun h=> ?_) (fun h=> ?_)
  ·have h:=jab h;rw[w64 (n:=0 - n) (by omega)];obtain⟨k1,k2,k3,k4⟩:=key (0 - n) (by unfold absI;rw[if_pos h];omega) (by omega);refine c_t k1 fun x=>c_t (jaa ⟨v4,by omega,v3⟩) (c_t (jaa ⟨k2,k3,hbw.1,by have:=hbw.2;show jft ⟨k,p,q,w,u⟩≤1000;omega⟩) ?_)
   rw[k4];rfl
  ·have h:=jac h;obtain⟨k1,k2,k3,k4⟩:=key n (by unfold absI;rw[if_neg h]) (by omega);refine c_t k1 fun x=>c_t (jaa ⟨v4,by omega,v3⟩) (c_t (jaa ⟨k2,k3,hbw.1,by have:=hbw.2;show jft ⟨k,p,q,w,u⟩≤1000;omega⟩) ?_)
   rw[k4];rfl
 ·rename_i s;simp only[Option.some.injEq,Prod.mk.injEq]at hs;obtain⟨-,rfl⟩:=hs;refine⟨rfl,jag (by kernel_rfl),?_⟩;rw[ja3,x170b]
 ·rename_i s;simp only[Option.some.injEq,Prod.mk.injEq,jae]at hs;obtain⟨h1,rfl⟩:=hs;refine⟨rfl,jag (by kernel_rfl),?_⟩;rw[ja3,x170c];delta qg5 qax qeb qgh qfi qe2 qg4;refine c_t (jaa h1) (cond_intro (fun h=> ?_) (fun h=> ?_))
  ·rw[if_pos h,if_pos h]
  ·rw[if_neg (by rw[h];decide),if_neg (by rw[h];decide)]
 ·cases hs
theorem ok169:jap Tryz.prog 169 (sp3 s169):=by
 refine ji4 ok_K9p hmix fn169 jai (jag (by kernel_rfl)) fun s n c hc=> ?_
 have hc:(decide (0≤n∧n≤1000) &&oneB c)=true:=hc;simp only[jaf,jae]at hc;obtain⟨⟨h0,h1⟩,ho⟩:=hc;obtain⟨ch,hc1,hc2⟩:=jd9 ho;rw[ja3];have hx:=x169 s n c (fun v=>v=(s169 s n c).2);rw[show(Enc.enc s:Value)= .string s from rfl,show(Enc.enc n:Value)= .int .i64 n from rfl,show(Enc.enc c:Value)= .string c from rfl,hx]
 have hb:bz c=[(bz c).getD 0 0]:=by
  have:c.size=1:=by rw[hc1];rfl
  have hl:(bz c).length=1:=by rw[jao];exact this
  match hq:bz c,hl with
  | [a],_=>rfl
 generalize hd:(bz c).getD 0 0=d at hb;have hcs:c.size=1:=by rw[←jao,hb];rfl
 show _;unfold s169;rw[hd];refine cond_intro (fun h=> ?_) (fun h=> ?_)
 ·have h:=jab h;refine c_t (jaa (by omega)) ?_;rw[jdj,show n.toNat - (bz s).length=0 by rw[jao];omega,List.replicate_zero,List.append_nil,←jix,jcx,jg2]
 ·have h:=jac h;rw[w64 (n:=n - (s.size:Int)) (by omega)];refine c_t (jaa ⟨by omega,by omega,by omega⟩) fun s' e=> ?_
  rw[hb,jg6]at e;have hdB:IsB [d]:=by rw[←hb];exact jdm c
  have hrB:IsB (List.replicate (n - (s.size:Int)).toNat d):=fun x hx=>by rw[List.eq_of_mem_replicate hx];exact hdB d (List.mem_singleton.2 rfl)
  have b':bz s'=List.replicate (n - (s.size:Int)).toNat d:=by rw[←e,jdk hrB]
  have z':s'.size=(n - (s.size:Int)).toNat:=by rw[←jao,b',List.length_replicate]
  refine c_t (fitN (by omega)) ?_;rw[jdj,List.take_of_length_le (by rw[jao];omega),show n.toNat - (bz s).length=(n - (s.size:Int)).toNat by rw[jao];omega,←b',←jcr,jcx,jg2]
structure NumIs (x y:Num):Prop where
 h:x=y
structure RdIs (s:ByteArray)(x:Option Num):Prop where
 h:rdN (bz s)=x
structure StrIs (x:List Int)(s:ByteArray):Prop where
 h:szO x=s
structure BitsIs (s:ByteArray)(b:Bool):Prop where
 h:jb8 (bz s)=b
theorem jde {P:Program} {f:FuncId} {s:Ab.Spec}(h:jap P f s) {H:List Value→Lk→Nat→(Value→Lk→Nat→Prop)→Prop}
  (hH:∀args m n K,H args m n K→ ∃v,s args (args.map (blkOf m))=some (true,v)∧plain v=true∧K v m n):jcw P f H:=by
 obtain⟨hc,hp⟩:=h;refine⟨hc,fun args m n K hh N w0 ι w hrel hwf hargs=> ?_⟩;obtain⟨v,hs,hv,hk⟩:=hH args m n K hh;refine(hp args v N w0 m ι w hrel hs hv).mono fun e' w' ⟨h1,h2⟩=> ?_
 exact⟨v,m,n,ι,by rw[h1,jbc _ hv],hk,Nat.le_refl _,fun _ _=>rfl,hrel.grow h2,hwf,by simp[jbj hv]⟩
def jj7:List Value→Lk→Nat→(Value→Lk→Nat→Prop)→Prop:=fun args m n K=>match args with
 | [.iface 174 (.agg ⟨[.int .i64 a,.int .i64 _,.int .i64 _,.int .i64 q,.bool _,.string _]⟩)]=>match cnd (decide (-2147483648≤a∧a≤2147483648∧0≤q∧q≤9))with
  | true=>∀x:Num,NumIs (numA a q) x→K (.tuple ⟨[numV x,.nilIface]⟩) m n
  | false=>False
 | [.iface 175 (.string s)]=>match cnd (jb8 (bz s) &&decide (s.size≤64))with
  | true=>∀x:Num,NumIs (ja9 false (binD (bz s)) 0) x→K (.tuple ⟨[numV x,.nilIface]⟩) m n
  | false=>False
 | [.iface 178 (.string s)]=>match cnd (decide (s.size≤9223372036854775807))with
  | true=>(∀x:Num,RdIs s (some x)→K (.tuple ⟨[numV x,.nilIface]⟩) m n)∧(RdIs s none→K (.tuple ⟨[.agg ⟨[.bool false,.string ⟨#[]⟩,.int .i64 0]⟩,.iface 119 (.agg ⟨[.string s]⟩)]⟩) m n)
  | false=>False
 | _=>False
theorem gen_hid222:jcw Tryz.prog 222 jj7:=by
 refine jde ok222 fun args m n K hh=> ?_
 unfold jj7 at hh;split at hh
 ·split at hh
  case h_2=>exact hh.elim
  rename_i hcc;exact⟨_,congrArg some (Prod.ext hcc rfl),rfl,hh _ ⟨rfl⟩⟩
 ·split at hh
  case h_2=>exact hh.elim
  rename_i hcc;exact⟨_,congrArg some (Prod.ext hcc rfl),rfl,hh _ ⟨rfl⟩⟩
 ·split at hh
  case h_2=>exact hh.elim
  rename_i s _ hcc;cases hr:rdN (bz s)with
  | some x=>
   refine⟨_,congrArg some (Prod.ext hcc rfl),?_,?_⟩
   ·rw[hr];rfl
   ·rw[hr];exact hh.1 x ⟨hr⟩
  | none=>
   refine⟨_,congrArg some (Prod.ext hcc rfl),?_,?_⟩
   ·rw[hr];rfl
   ·rw[hr];have:=hh.2 ⟨hr⟩;rw[←jf5]at this;exact this
 ·exact hh.elim
def jj8:List Value→Lk→Nat→(Value→Lk→Nat→Prop)→Prop:=fun args m n K=>match args with
 | [.iface 174 (.agg ⟨[.int .i64 a,.int .i64 k,.int .i64 p,.int .i64 q,.bool w,.string u]⟩)]=>match cnd (decide (jbk ⟨k,p,q,w,u⟩∧ -2147483648≤a∧a≤2147483648))with
  | true=>∀s:ByteArray,StrIs (inB (jft ⟨k,p,q,w,u⟩).toNat (divT q.toNat (absI a))) s→K (.tuple ⟨[S s,.nilIface]⟩) m n
  | false=>False
 | [.iface 175 (.string s)]=>K (.tuple ⟨[S s,.nilIface]⟩) m n
 | [.iface 178 (.string s)]=>match cnd (decide (s.size≤9223372036854775807))with
  | true=>(BitsIs s true→K (.tuple ⟨[S s,.nilIface]⟩) m n)∧(BitsIs s false→K (.tuple ⟨[S ⟨#[]⟩,.iface 119 (.agg ⟨[.string s]⟩)]⟩) m n)
  | false=>False
 | _=>False
theorem gen_hid170:jcw Tryz.prog 170 jj8:=by
 refine jde ok170 fun args m n K hh=> ?_
 unfold jj8 at hh;split at hh
 ·split at hh
  case h_2=>exact hh.elim
  rename_i hcc;exact⟨_,congrArg some (Prod.ext hcc rfl),rfl,hh _ ⟨rfl⟩⟩
 ·exact⟨_,rfl,rfl,hh⟩
 ·split at hh
  case h_2=>exact hh.elim
  rename_i s _ hcc;cases hr:jb8 (bz s)with
  | true=>
   refine⟨_,congrArg some (Prod.ext hcc rfl),?_,?_⟩
   ·rw[hr];rfl
   ·rw[hr];exact hh.1 ⟨hr⟩
  | false=>
   refine⟨_,congrArg some (Prod.ext hcc rfl),?_,?_⟩
   ·rw[hr];rfl
   ·rw[hr];exact hh.2 ⟨hr⟩
 ·exact hh.elim
instance tabsU:Tabs:=tabs
def Ua:Env:=(Env.nil.add 146 (sp2 Px.s22)).add 61 (sp1 Px.s46)
def Ub:Env:=((Env.nil.addG 222 jj7).addG 170 jj8).addG 224 (inlQ Tryz.prog Ua noL Tryz.f224)
theorem fn224:Fn1 Tryz.prog 224 Tryz.f224:= .m Tryz.func224 (by kernel_rfl)
theorem ok_Ua:jax Tryz.prog Ua:=jak (jak jan Px.ok22) Px.ok46
theorem ok_Ub:jax Tryz.prog Ub:=jam (jam (jam jan gen_hid222) gen_hid170) (jar ok_Ua hmix fn224 jai)
def qfe (a b:ByteArray):Int:=(rdV (bz a) (bz b)).fst
theorem u222 (s:ByteArray)(p:ByteArray)(R:Value→Prop):(ja2 Tryz.prog Ub noL Tryz.f222 [.iface 177 (.agg ⟨[.string s,.string p]⟩)] (fun _=>none) 0 (fun v _ _=>R v))=(bif qg3 s p then qeb (qc9 (-2147483648) (qfe p s) 2147483648 0 (pQ (bz p)) 9) p (∀a:Cv.Num,NumIs (numA (qfe p s) (pQ (bz p))) a→R (qgh [.agg ⟨qaj a⟩,Value.nilIface])) False else False):=by kernel_rfl
def qf8 (d:Bool)(e:ByteArray)(a b c f:Int):Bool:=decide (Fx.jbk (Fx.Ty.mk a b c d e)∧ -(2147483648:Int)≤f∧f≤2147483648)
theorem u170 (s:ByteArray)(p:ByteArray)(R:Value→Prop):(ja2 Tryz.prog Ub noL Tryz.f170 [.iface 177 (.agg ⟨[.string s,.string p]⟩)] (fun _=>none) 0 (fun v _ _=>R v))=(bif qg3 s p then qeb (qf8 false qfi (tyK (bz p)) (tyP (bz p)) (pQ (bz p)) (qfe p s)) p (∀a:ByteArray,StrIs (inB (jft (Fx.Ty.mk (tyK (bz p)) (tyP (bz p)) (pQ (bz p)) false qfi)).toNat (divT (pQ (bz p)).toNat (absI (qfe p s)))) a→R (qgh (qg4 a [] Value.nilIface))) False else False):=by kernel_rfl
theorem rdV_r {s t:ByteArray}(h:pN (bz s)=true): -1000000000< (rdV (bz s) (bz t)).1∧(rdV (bz s) (bz t)).1<1000000000:=by
 have hp:=jfz h;have hv:=jkl (jgh s) h (rdA (bz s) (bz t));obtain⟨g1,g2,g3,g4,g5,g6⟩:=hv;have hr:0≤rdA (bz s) (bz t)∧rdA (bz s) (bz t) <1000000000:=jfx _ _ 0 0 (by omega) (by decide) (by omega);unfold rdV;rw[if_pos h]
 repeat' split
 all_goals (simp only;omega)
abbrev pT (p:ByteArray):Ty:=⟨tyK (bz p),tyP (bz p),pQ (bz p),false,⟨#[]⟩⟩
theorem pT_v {p:ByteArray}(h:pN (bz p)=true):jbk (pT p)∧0≤pQ (bz p)∧pQ (bz p)≤9:=by
 obtain⟨h1,h2,h3,h4⟩:=jfz h;have hv:=jdt h
 have e:tyK (bz p)=1∧tyP (bz p)=pD (bz p):=by
  unfold tyK tyP;rw[if_pos hv,if_pos hv,if_pos h,if_pos h];exact⟨rfl,rfl⟩
 refine⟨⟨.inl e.1,?_,?_,h3,?_,?_,rfl,by rw[ByteArray.toList_eq]⟩,h3,by omega⟩
 ·show 1≤tyP (bz p);omega
 ·show tyP (bz p)≤most (tyK (bz p));rw[e.1];unfold most;rw[if_pos rfl];omega
 ·show pQ (bz p)≤tyP (bz p);omega
 ·show tyK (bz p)=2→_;omega
def s222s:Ab.Spec:=fun args _=>match args with
 | [.iface 177 (.agg ⟨[.string s,.string p]⟩)]=>some (pN (bz p) &&decide (s.size≤9223372036854775807∧p.size≤9223372036854775807),.tuple ⟨[numV (numA (rdV (bz p) (bz s)).1 (pQ (bz p))),.nilIface]⟩)
 | _=>none
theorem ok222s:jap Tryz.prog 222 s222s:=by
 refine jct ok_Ub hmix fn222 jai fun args bs v hs=> ?_
 unfold s222s at hs;split at hs
 case h_2=>cases hs
 rename_i s p;simp only[Option.some.injEq,Prod.mk.injEq,jaf,jae]at hs;obtain⟨⟨hn,h1,h2⟩,rfl⟩:=hs;refine⟨rfl,jag (by kernel_rfl),?_⟩;rw[ja3,u222];delta qg5 qax qeb qgh qg4 qaj qfe qc9 qb5 qg3;have hr:=rdV_r (t:=s) hn;have hp:=pT_v hn;exact c_t (jaa ⟨h2,h1⟩) (c_t (jaa h2) (c_t (jaa (by omega)) fun x hx=>by rw[←hx.h]))
def s170s:Ab.Spec:=fun args _=>match args with
 | [.iface 177 (.agg ⟨[.string s,.string p]⟩)]=>some (pN (bz p) &&decide (s.size≤9223372036854775807∧p.size≤9223372036854775807),.tuple ⟨[S (szO (inB (jft (pT p)).toNat (divT (pQ (bz p)).toNat (absI (rdV (bz p) (bz s)).1)))),.nilIface]⟩)
 | _=>none
theorem ok170s:jap Tryz.prog 170 s170s:=by
 refine jct ok_Ub hmix fn170 jai fun args bs v hs=> ?_
 unfold s170s at hs;split at hs
 case h_2=>cases hs
 rename_i s p;simp only[Option.some.injEq,Prod.mk.injEq,jaf,jae]at hs;obtain⟨⟨hn,h1,h2⟩,rfl⟩:=hs;refine⟨rfl,jag (by kernel_rfl),?_⟩;rw[ja3,u170];delta qg5 qax qeb qgh qg4 qfe qfi qf8 qb5 qg3;have hr:=rdV_r (t:=s) hn;have hp:=pT_v hn;exact c_t (jaa ⟨h2,h1⟩) (c_t (jaa h2) (c_t (jaa ⟨hp.1,by omega,by omega⟩) fun x hx=>by rw[←hx.h]))
def hu222:List Value→Lk→Nat→(Value→Lk→Nat→Prop)→Prop:=fun args m n K=>match args with
 | [.iface 177 (.agg ⟨[.string s,.string p]⟩)]=>match cnd (pN (bz p) &&decide (s.size≤9223372036854775807∧p.size≤9223372036854775807))with
  | true=>∀x:Num,NumIs (numA (rdV (bz p) (bz s)).1 (pQ (bz p))) x→K (.tuple ⟨[numV x,.nilIface]⟩) m n
  | false=>False
 | _=>jj7 args m n K
def hu170:List Value→Lk→Nat→(Value→Lk→Nat→Prop)→Prop:=fun args m n K=>match args with
 | [.iface 177 (.agg ⟨[.string s,.string p]⟩)]=>match cnd (pN (bz p) &&decide (s.size≤9223372036854775807∧p.size≤9223372036854775807))with
  | true=>∀b:ByteArray,StrIs (inB (jft (pT p)).toNat (divT (pQ (bz p)).toNat (absI (rdV (bz p) (bz s)).1))) b→K (.tuple ⟨[S b,.nilIface]⟩) m n
  | false=>False
 | _=>jj8 args m n K
theorem gen_two {f:FuncId} {H1 H2 H:List Value→Lk→Nat→(Value→Lk→Nat→Prop)→Prop}(h1:jcw Tryz.prog f H1)(h2:jcw Tryz.prog f H2)(h:∀args m n K,H args m n K→H1 args m n K∨H2 args m n K):jcw Tryz.prog f H:=
 ⟨h1.1,fun args m n K hh=>(h args m n K hh).elim (fun q=>h1.2 args m n K q) (fun q=>h2.2 args m n K q)⟩
def hs222:List Value→Lk→Nat→(Value→Lk→Nat→Prop)→Prop:=fun args m n K=>match args with
 | [.iface 177 (.agg ⟨[.string s,.string p]⟩)]=>match cnd (pN (bz p) &&decide (s.size≤9223372036854775807∧p.size≤9223372036854775807))with
  | true=>∀x:Num,NumIs (numA (rdV (bz p) (bz s)).1 (pQ (bz p))) x→K (.tuple ⟨[numV x,.nilIface]⟩) m n
  | false=>False
 | _=>False
theorem gen_hs222:jcw Tryz.prog 222 hs222:=by
 refine jde ok222s fun args m n K hh=> ?_
 unfold hs222 at hh;split at hh
 case h_2=>exact hh.elim
 split at hh
 case h_2=>exact hh.elim
 rename_i hcc;exact⟨_,congrArg some (Prod.ext hcc rfl),rfl,hh _ ⟨rfl⟩⟩
theorem gen_hu222:jcw Tryz.prog 222 hu222:=gen_two gen_hs222 gen_hid222 fun args m n K hh=>by
 unfold hu222 at hh;split at hh
 ·exact .inl hh
 ·exact .inr hh
def hs170:List Value→Lk→Nat→(Value→Lk→Nat→Prop)→Prop:=fun args m n K=>match args with
 | [.iface 177 (.agg ⟨[.string s,.string p]⟩)]=>match cnd (pN (bz p) &&decide (s.size≤9223372036854775807∧p.size≤9223372036854775807))with
  | true=>∀b:ByteArray,StrIs (inB (jft (pT p)).toNat (divT (pQ (bz p)).toNat (absI (rdV (bz p) (bz s)).1))) b→K (.tuple ⟨[S b,.nilIface]⟩) m n
  | false=>False
 | _=>False
theorem gen_hs170:jcw Tryz.prog 170 hs170:=by
 refine jde ok170s fun args m n K hh=> ?_
 unfold hs170 at hh;split at hh
 case h_2=>exact hh.elim
 split at hh
 case h_2=>exact hh.elim
 rename_i hcc;exact⟨_,congrArg some (Prod.ext hcc rfl),rfl,hh _ ⟨rfl⟩⟩
theorem gen_hu170:jcw Tryz.prog 170 hu170:=gen_two gen_hs170 gen_hid170 fun args m n K hh=>by
 unfold hu170 at hh;split at hh
 ·exact .inl hh
 ·exact .inr hh
structure EdIs (p:ByteArray)(n q:Int)(x:ByteArray×Bool×Int):Prop where
 h:(sz (edS (bz p) n q),edF (bz p) n q,edE (bz p) q)=x
def hu171:List Value→Lk→Nat→(Value→Lk→Nat→Prop)→Prop:=fun args m n K=>match args with
 | [.int .i64 a,.int .i64 q,.string p]=>match cnd (decide (p.size≤9223372036854775807∧ -9223372036854775808≤a∧a≤9223372036854775807))with
  | true=>∀(s:ByteArray) (b:Bool) (e:Int),EdIs p a q (s,b,e)→K (.tuple ⟨[S s,B b,I e]⟩) m n
  | false=>False
 | _=>False
theorem gen_hu171:jcw Tryz.prog 171 hu171:=by
 refine jde Px.ok20 fun args m n K hh=> ?_
 unfold hu171 at hh;split at hh
 case h_2=>exact hh.elim
 split at hh
 case h_2=>exact hh.elim
 rename_i hcc;exact⟨_,congrArg some (Prod.ext hcc rfl),rfl,hh _ _ _ ⟨rfl⟩⟩
structure HoIs (p s:ByteArray)(b:Bool):Prop where
 h:hoZ (bz p) (bz s)=b
def hu72:List Value→Lk→Nat→(Value→Lk→Nat→Prop)→Prop:=fun args m n K=>match args with
 | [.string p,.string s]=>match cnd (decide (p.size≤9223372036854775807∧s.size≤9223372036854775807))with
  | true=>∀b:Bool,HoIs p s b→K (B b) m n
  | false=>False
 | _=>False
theorem gen_hu72:jcw Tryz.prog 72 hu72:=by
 refine jde Px.ok24 fun args m n K hh=> ?_
 unfold hu72 at hh;split at hh
 case h_2=>exact hh.elim
 split at hh
 case h_2=>exact hh.elim
 rename_i hcc;exact⟨_,congrArg some (Prod.ext hcc rfl),rfl,hh _ ⟨rfl⟩⟩
instance tabsU4:Tabs:=tabs
def s323u:Ab.Spec:=fun args _=>match args with
 | [.agg ⟨[.string s,.string _]⟩]=>some (true,.string s)
 | _=>none
def U0:Env:=(Env.nil.add 26 (sp2 s26)).addG 222 hu222
def U1:Env:=((((((((((Env.nil.add 321 (sp1 s321)).addG 170 hu170).addG 169 (hideS (sp3 s169))).addG 171 hu171).addG 72 hu72).add 59 (sp1 Px.s31)).add 61 (sp1 Px.s46)).add 322 (sp1 s322)).add 323 s323u).add 324 (sp1 s324)).addG 168 (inlQ Tryz.prog U0 noL Tryz.f168)
theorem fn323u:Fn1 Tryz.prog 323 Tryz.f323:= .m Tryz.func323 (by kernel_rfl)
theorem u323 (s p:ByteArray)(R:Value→Prop):ja2 Tryz.prog Env.nil noL Tryz.f323 [.agg ⟨[.string s,.string p]⟩] (fun _=>none) 0 (fun v _ _=>R v)=R (Value.string s):=by kernel_rfl
theorem ok323u:jap Tryz.prog 323 s323u:=by
 refine jct jan hmix fn323u jai fun args bs v hs=> ?_
 unfold s323u at hs;split at hs
 case h_2=>cases hs
 cases hs;refine⟨rfl,jag (by kernel_rfl),?_⟩;rw[ja3,u323]
theorem ok_U0:jax Tryz.prog U0:=jam (jak jan ok26) gen_hu222
theorem ok_U1:jax Tryz.prog U1:=jam (jak (jak (jak (jak (jak (jam (jam (jam (jam (jak jan ok321) gen_hu170) (je1 ok169)) gen_hu171) gen_hu72) Px.ok31) Px.ok46) ok322) ok323u) ok324) (jar ok_U0 hmix fn168 jai)
abbrev tp3 (a:Int)(s:ByteArray)(c:Int)(e:Value):Value:= .tuple ⟨[.agg ⟨[I a,S s]⟩,I c,e]⟩
abbrev er (s:ByteArray):Value:= .iface 119 (.agg ⟨[.string s]⟩)
def tlA (R:Value→Prop)(t:Ty)(x:Num):Prop:=bif decide (ByteArray.size (szO x.2.1)≤9223372036854775807)then R (tp3 (tkV x.1 (bz (szO x.2.1)) x.2.2 t).1 ⟨#[]⟩ (tkV x.1 (bz (szO x.2.1)) x.2.2 t).2.1 .nilIface)else False
def tlC (R:Value→Prop)(t:Ty)(s:ByteArray):Prop:=bif !t.v || true then bif !t.v || decide ((↑(ByteArray.size s):Int)> t.p)then bif decide (0≤t.p∧t.p≤1000) &&true then
  ∀s':ByteArray,szO (jdj (bz s) (Int.toNat t.p) (List.getD (bz (ByteArray.mk #[32])) 0 0))=s'→R (tp3 0 s' 0 .nilIface)else False else R (tp3 0 s 0 .nilIface)else False
def tlB (R:Value→Prop)(t:Ty)(e:Value)(s:ByteArray):Prop:=bif decide (0≤t.p∧t.p≤1000) &&true then
  ∀s':ByteArray,szO (jdj (bz s) (Int.toNat t.p) (List.getD (bz (ByteArray.mk #[48])) 0 0))=s'→R (tp3 0 s' 0 e)else False
def tlX (R:Value→Prop)(t:Ty)(s:ByteArray):Prop:=bif decide (0≤tyP (bz t.s)∧tyP (bz t.s)≤1000) &&true then
  ∀s':ByteArray,szO (jdj (bz s) (Int.toNat (tyP (bz t.s))) (List.getD (bz (ByteArray.mk #[32])) 0 0))=s'→bif decide (ByteArray.size t.s≤9223372036854775807∧ByteArray.size s'≤9223372036854775807)then
   ∀b:Bool,HoIs t.s s' b→bif !b then R (tp3 0 ⟨#[]⟩ 0 (er s'))else R (tp3 0 s' 0 .nilIface)else False else False
def tlE (R:Value→Prop)(t:Ty)(x:Num):Prop:=bif decide (ByteArray.size (szO x.2.1)≤9223372036854775807)then bif decide (ByteArray.size t.s≤9223372036854775807∧ -9223372036854775808≤(tkV x.1 (bz (szO x.2.1)) x.2.2 (pT t.s)).1∧(tkV x.1 (bz (szO x.2.1)) x.2.2 (pT t.s)).1≤9223372036854775807)then
  ∀(s:ByteArray) (b:Bool) (e:Int),EdIs t.s (tkV x.1 (bz (szO x.2.1)) x.2.2 (pT t.s)).1 (pQ (bz t.s)) (s,b,e)→bif !b then R (tp3 0 s 1 .nilIface)else R (tp3 0 s (tkV x.1 (bz (szO x.2.1)) x.2.2 (pT t.s)).2.1 .nilIface)else False else False
def skU (R:Value→Prop)(t:Ty)(nm:(Num→Prop)→Prop)(tx:(ByteArray→Prop)→Prop)(bt:Prop):Prop:=
 bif t.k==1 then nm (tlA R t)else bif t.k==2 then nm (tlA R t)else bif t.k==3 then tx (tlC R t)else bif t.k==4 then bt else
 bif decide (ByteArray.size t.s≤9223372036854775807)then bif decide (ByteArray.size t.s≤9223372036854775807)then bif !pN (bz t.s)then tx (tlX R t)∧tx (tlX R t)∧tx (tlX R t)else nm (tlE R t)else False else False
theorem u99_w (n k p q:Int)(w:Bool)(u:ByteArray)(t:Ty)(R:Value→Prop):ja2 Tryz.prog U1 noL Tryz.f99 [.iface 174 (.agg ⟨[.int .i64 n,.int .i64 k,.int .i64 p,.int .i64 q,.bool w,.string u]⟩),Enc.enc t] (fun _=>none) 0 (fun v _ _=>R v)=(skU R t (fun a=>bif qc9 (-2147483648) n 2147483648 0 q 9 then∀b:Cv.Num,NumIs (numA n q) b→a b else False) (fun a=>bif qf8 w u k p q n then a (szO (txtZ n (Fx.Ty.mk k p q w u)))else False) (bif qf8 w u k p q n then∀a:ByteArray,StrIs (inB (jft (Fx.Ty.mk k p q w u)).toNat (divT q.toNat (absI n))) a→tlB R t Value.nilIface a else False)):=by kernel_rfl
theorem u99_b (s:ByteArray)(t:Ty)(R:Value→Prop):ja2 Tryz.prog U1 noL Tryz.f99 [.iface 175 (.string s),Enc.enc t] (fun _=>none) 0 (fun v _ _=>R v)=(skU R t (fun a=>bif jb8 (bz s) &&decide (s.size≤64)then∀b:Cv.Num,NumIs (ja9 false (binD (bz s)) 0) b→a b else False) (fun a=>a s) (tlB R t Value.nilIface s)):=by kernel_rfl
def qdr (a:ByteArray):Bool:=decide (a.size≤9223372036854775807)
theorem u99_c (s:ByteArray)(t:Ty)(R:Value→Prop):ja2 Tryz.prog U1 noL Tryz.f99 [.iface 178 (.string s),Enc.enc t] (fun _=>none) 0 (fun v _ _=>R v)=(skU R t (fun a=>bif qdr s then(∀b:Cv.Num,RdIs s (some b)→a b)∧(RdIs s none→R (tp3 0 qfi 0 (er s)))else False) (fun a=>a s) (bif qdr s then(BitsIs s true→tlB R t Value.nilIface s)∧(BitsIs s false→tlB R t (er s) qfi)else False)):=by kernel_rfl
theorem u99_p (s pc:ByteArray)(t:Ty)(R:Value→Prop):ja2 Tryz.prog U1 noL Tryz.f99 [.iface 177 (.agg ⟨[.string s,.string pc]⟩),Enc.enc t] (fun _=>none) 0 (fun v _ _=>R v)=(skU R t (fun a=>bif pN (bz pc) &&qg3 pc s then∀b:Cv.Num,NumIs (numA (qfe pc s) (pQ (bz pc))) b→a b else False) (fun a=>a s) (bif pN (bz pc) &&qg3 pc s then∀a:ByteArray,StrIs (inB (jft (pT pc)).toNat (divT (pQ (bz pc)).toNat (absI (qfe pc s)))) a→tlB R t Value.nilIface a else False)):=by kernel_rfl
end Go.Cx
end
noncomputable section
namespace Go.Cx
open Go Go.Ab Go.Proofs Go.Shelf Go.Px Go.Cv
theorem nz_len (l:List Int):(nz l).length≤l.length:=Nat.le_trans (jkr _ _) (jkt _ _)
theorem jf0 (g:Bool)(l:List Int)(q:Int):(ja9 g l q).2.1.length≤l.length:=by
 unfold ja9;split
 ·simp
 ·exact nz_len l
theorem decR_len {g:Bool} {l:List Int} {x:Num}(h:decR ja9 g l=some x):x.2.1.length≤l.length+l.length:=by
 rw[decR_eq]at h;cases hd:decE l with
 | none=>rw[hd]at h;cases h
 | some e=>
  rw[hd]at h;have h:decB g (Cv.ahead 69 l) e=some x:=h;unfold decB at h;split at h
  ·cases h;refine Nat.le_trans (jf0 _ _ _) ?_;have h1:=ahead_le 69 l;have h2:=ahead_le 46 (Cv.ahead 69 l)
   have h3:((past 46 (Cv.ahead 69 l)).getD []).length≤l.length:=by
    rw[past_drop];split
    ·rw[Option.getD_some,List.length_drop];omega
    ·simp
   rw[List.length_append];omega
  ·cases h
theorem jiz {g:Bool} {l:List Int} {x:Num}(hl:l.length≤255)(h:bodR ja9 binD g l=some x):x.2.1.length≤600:=by
 unfold bodR at h;split at h
 ·split at h
  ·rename_i q;cases h;refine Nat.le_trans (jf0 _ _ _) ?_;have hr:=bin_31 q.2 (by rw[List.length_dropLast];exact q.1);rw[binD,decZ,zl,List.length_map];have:=jiu 9 (binG l.dropLast 0).toNat (by omega);omega
  ·cases h
 ·have:=decR_len h;omega
theorem rdN_len (l:List Int):((rdN l).getD num0).2.1.length≤600:=by
 cases h:rdN l with
 | none=>simp[num0]
 | some x=>
  rw[Option.getD_some];unfold rdN at h;split at h
  ·cases h
  rename_i hl;have h1:=jkr (tlZ l 32) 32;have h2:=jkt l 32;unfold numR at h;rw[trL_eq,trR_eq]at h;generalize trZ (tlZ l 32) 32=u at h h1;unfold sgnR at h;split at h
  ·cases h;simp
  ·rename_i r _;exact jiz (by simp at h1;omega) h
  ·rename_i r _;exact jiz (by simp at h1;omega) h
  ·exact jiz (by omega) h
end Go.Cx
end
noncomputable section
namespace Go.Cx
open Go Go.Ab Go.Px Go.Cv
open Go.Fx (Ty Vl check jbk most base pw bnd Fit fits scl cutN cutC InB)
end Go.Cx
end
noncomputable section
set_option maxHeartbeats 3200000
namespace Go.Cx
open Go Go.Ab Go.Proofs Go.Shelf Go.Px Go.Cv
open Go.Fx (Ty Vl check jbk most base pw bnd Fit fits tv vv tup V0 T0 jbp jbs jbh jcb str0)
inductive Fu where
 | w (n:Int) (t:Ty)
 | b (s:ByteArray)
 | c (s:ByteArray)
 | p (s pc:ByteArray)
def numU:Fu→Option Num
 | .w n t=>some (numA n t.q)
 | .b s=>some (ja9 false (binD (bz s)) 0)
 | .c s=>rdN (bz s)
 | .p s pc=>some (numA (rdV (bz pc) (bz s)).1 (pQ (bz pc)))
def txtU:Fu→ByteArray
 | .w n t=>szO (txtZ n t)
 | .b s=>s
 | .c s=>s
 | .p s _=>s
def bitU:Fu→Option ByteArray
 | .w n t=>some (szO (inB (jft t).toNat (divT t.q.toNat (absI n))))
 | .b s=>some s
 | .c s=>if jb8 (bz s)=true then some s else none
 | .p s pc=>some (szO (inB (jft (pT pc)).toNat (divT (pQ (bz pc)).toNat (absI (rdV (bz pc) (bz s)).1))))
abbrev Cu:=Int×ByteArray×Int×Option ByteArray
def tkU (x:Num)(t:Ty):Int×Int×Int:=tkV x.1 (bz (szO x.2.1)) x.2.2 t
def fiU (s:ByteArray)(n c:Int):ByteArray:=szO (jdj (bz s) n.toNat c)
def cuN (f:Fu)(C:Num→Cu):Cu:=match numU f with
 | some x=>C x
 | none=>(0,⟨#[]⟩,0,some (txtU f))
def cuV (f:Fu)(t:Ty):Cu:=
 if t.k=1∨t.k=2 then cuN f fun x=>((tkU x t).1,⟨#[]⟩,(tkU x t).2.1,none)
 else if t.k=3 then(0,if t.v=true∧ ¬((txtU f).size:Int)> t.p then txtU f else fiU (txtU f) t.p 32,0,none)
 else if t.k=4 then(0,fiU ((bitU f).getD ⟨#[]⟩) t.p 48,0,if(bitU f).isSome then none else some (txtU f))
 else if pN (bz t.s)=true then cuN f fun x=>(0,sz (edS (bz t.s) (tkU x (pT t.s)).1 (pQ (bz t.s))),if edF (bz t.s) (tkU x (pT t.s)).1 (pQ (bz t.s))=true then(tkU x (pT t.s)).2.1 else 1,none)
 else if hoZ (bz t.s) (bz (fiU (txtU f) (tyP (bz t.s)) 32))=true then(0,fiU (txtU f) (tyP (bz t.s)) 32,0,none)else(0,⟨#[]⟩,0,some (fiU (txtU f) (tyP (bz t.s)) 32))
def cuF:Fu→Prop
 | .w n u=>jbk u∧ -2147483648≤n∧n≤2147483648
 | .b s=>jb8 (bz s)=true∧s.size≤64
 | .c s=>s.size≤9223372036854775807
 | .p s pc=>pN (bz pc)=true∧s.size≤9223372036854775807∧pc.size≤9223372036854775807
def cuA (f:Fu)(t:Ty):Prop:=cuF f∧chk4 t=0∧t.k≠6∧t.s.size≤9223372036854775807
def eV:Option ByteArray→Value
 | none=> .nilIface
 | some s=>er s
abbrev cuR (x:Cu):Value:=tp3 x.1 x.2.1 x.2.2.1 (eV x.2.2.2)
theorem numU_len {f:Fu}(h:cuF f) {x:Num}(hx:numU f=some x):x.2.1.length≤600:=by
 cases f with
 | w n u=>
  obtain⟨hv,h1,h2⟩:=h;cases hx;show(numA n u.q).2.1.length≤600;refine Nat.le_trans (jf0 _ _ _) ?_;have:=jhe (m:=if n<0 then -n else n) (by split<;>omega);omega
 | b s=>
  cases hx;have hb:=jkg h.1 (by rw[jao];exact h.2);have hd:=jkc 20 (binG (bz s) 0) hb.1 (Int.lt_of_lt_of_le hb.2 (by decide));show(ja9 false (binD (bz s)) 0).2.1.length≤600;rw[←jjl];exact Nat.le_trans (jf0 _ _ _) (by omega)
 | c s=>
  have:=rdN_len (bz s);rw[show rdN (bz s)=some x from hx]at this;exact this
 | p s pc=>
  cases hx;have hr:=rdV_r (t:=s) h.1;show(numA (rdV (bz pc) (bz s)).1 (pQ (bz pc))).2.1.length≤600;refine Nat.le_trans (jf0 _ _ _) ?_;have:=jhe (m:=if(rdV (bz pc) (bz s)).1<0 then -(rdV (bz pc) (bz s)).1 else(rdV (bz pc) (bz s)).1) (by split<;>omega);omega
theorem tkV_rng (g:Bool)(l:List Int)(c:Int)(t:Ty): -2147483648≤(tkV g l c t).1∧(tkV g l c t).1≤2147483648:=by
 unfold tkV;split
 ·simp
 rename_i hn;split
 ·simp
 rename_i hv;have hv:jbk t:=Classical.not_not.1 hv;have hb:=Fx.bnd_range hv
 have hd:jck l=true:=by
  unfold jgm at hn;split at hn
  ·rename_i e;rw[e];rfl
  ·simp at hn;exact hn.2.1
 have hr:=jgp (b:=bnd t) (by omega) (plcR l c t.q) 0 0 (jfy hd) (by omega);unfold tkR;simp only;split<;>omega
theorem k5_of {t:Ty}(h:chk4 t=0)(h6:t.k≠6)(h1:¬(t.k=1∨t.k=2))(h3:t.k≠3)(h4:t.k≠4):t.k=5∧vOK (bz t.s)=true:=by
 unfold chk4 at h;have hv:jbk t→t.k=1∨t.k=2:=fun h=>h.1
 rw[if_neg (fun q=>h1 (hv q)),if_neg (fun q=>h3 q.1),if_neg (fun q=>h4 q.1)]at h;split at h
 ·rename_i q;refine⟨q.1,?_⟩;have:=q.2.2.2.2;unfold pE at this;split at this
  ·assumption
  ·cases this
 ·rw[if_neg (fun q=>h6 q.1)]at h;cases h
theorem p1000 {t:Ty}(h:chk4 t=0)(h3:t.k=3∨t.k=4):0≤t.p∧t.p≤1000:=by
 unfold chk4 at h;have hv:jbk t→t.k=1∨t.k=2:=fun h=>h.1
 grind
theorem jll {f:Fu} {t:Ty}(h:cuA f t) {nm:(Num→Prop)→Prop} {tx:(ByteArray→Prop)→Prop} {bt:Prop}
  (hN:∀C:Num→Prop,(∀x,numU f=some x→C x)→(numU f=none→tp3 0 ⟨#[]⟩ 0 (er (txtU f))=cuR (cuV f t))→nm C)
  (hX:∀C:ByteArray→Prop,C (txtU f)→tx C)
  (hB:(∀s,bitU f=some s→tlB (fun v=>v=cuR (cuV f t)) t .nilIface s)→(bitU f=none→tlB (fun v=>v=cuR (cuV f t)) t (er (txtU f)) ⟨#[]⟩)→bt):skU (fun v=>v=cuR (cuV f t)) t nm tx bt:=by
 obtain⟨hF,hk,h6,hs⟩:=h;unfold skU
 have hA:(t.k=1∨t.k=2)→nm (tlA (fun v=>v=cuR (cuV f t)) t):=fun hk12=>by
  have e:cuV f t=cuN f fun x=>((tkU x t).1,⟨#[]⟩,(tkU x t).2.1,none):=if_pos hk12
  refine hN _ (fun x hx=> ?_) (fun hx=> ?_)
  ·rw[e,cuN,hx];exact c_t (jaa (by rw[jc3];exact Nat.le_trans (numU_len hF hx) (by decide))) rfl
  ·rw[e,cuN,hx];rfl
 refine cond_intro (fun h1=>hA (.inl (by simpa using h1))) (fun h1=>cond_intro (fun h2=>hA (.inr (by simpa using h2))) (fun h2=> ?_));have n12:¬(t.k=1∨t.k=2):=by simp at h1 h2;omega
 refine cond_intro (fun h3=> ?_) (fun h3=>cond_intro (fun h4=> ?_) (fun h4=> ?_))
 ·have h3:t.k=3:=by simpa using h3
  have e:cuV f t=(0,if t.v=true∧ ¬((txtU f).size:Int)> t.p then txtU f else fiU (txtU f) t.p 32,0,none):=by unfold cuV;rw[if_neg n12,if_pos h3]
  rw[e];refine hX _ (c_t (Bool.or_true _) (cond_intro (fun h=> ?_) (fun h=> ?_)))
  ·refine c_t (by rw[jaa (p1000 hk (.inl h3))];rfl) fun s' hs=> ?_
   rw[if_neg,←hs]
   ·rfl
   ·rintro ⟨h1,h2⟩;rw[h1,jad h2]at h;cases h
  ·rw[if_pos]
   ·rfl
   ·cases hw:t.v<;>simp[hw]at h ⊢;omega
 ·have h4:t.k=4:=by simpa using h4
  have e:cuV f t=(0,fiU ((bitU f).getD ⟨#[]⟩) t.p 48,0,if(bitU f).isSome then none else some (txtU f)):=by unfold cuV;rw[if_neg n12,if_neg (by omega),if_pos h4]
  rw[e]at hB;refine hB (fun s hs'=> ?_) (fun hs'=> ?_)
  ·rw[hs'];refine c_t (by rw[jaa (p1000 hk (.inr h4))];rfl) fun s' hs=> ?_
   rw[←hs];rfl
  ·rw[hs'];refine c_t (by rw[jaa (p1000 hk (.inr h4))];rfl) fun s' hs=> ?_
   rw[←hs];rfl
 ·have n3:t.k≠3:=by simpa using h3
  have n4:t.k≠4:=by simpa using h4
  have h5:=k5_of hk h6 n12 n3 n4;refine c_t (jaa hs) (c_t (jaa hs) (cond_intro (fun hp=> ?_) (fun hp=> ?_)))
  ·have hp:¬pN (bz t.s)=true:=by simpa using hp
   have e:cuV f t=if hoZ (bz t.s) (bz (fiU (txtU f) (tyP (bz t.s)) 32))=true then(0,fiU (txtU f) (tyP (bz t.s)) 32,0,none)else(0,⟨#[]⟩,0,some (fiU (txtU f) (tyP (bz t.s)) 32)):=by unfold cuV;rw[if_neg n12,if_neg n3,if_neg n4,if_neg hp]
   have hw:0≤tyP (bz t.s)∧tyP (bz t.s)≤1000:=by
    have:= @pW_rng t.s;unfold tyP;rw[if_pos h5.2,if_neg hp];omega
   have hT:tlX (fun v=>v=cuR (cuV f t)) t (txtU f):=by
    rw[e];refine c_t (by rw[jaa hw];rfl) fun s' hs'=> ?_
    have es:fiU (txtU f) (tyP (bz t.s)) 32=s':=hs'
    have hl:s'.size≤9223372036854775807:=by
     rw[←es,fiU,jc3,jdj,List.length_append,List.length_take,List.length_replicate];omega
    rw[es];refine c_t (jaa ⟨hs,hl⟩) fun b hb=> ?_
    rw[hb.h];cases b
    ·rfl
    ·rfl
   exact⟨hX _ hT,hX _ hT,hX _ hT⟩
  ·have hp:pN (bz t.s)=true:=by simpa using hp
   have e:cuV f t=cuN f fun x=>(0,sz (edS (bz t.s) (tkU x (pT t.s)).1 (pQ (bz t.s))),if edF (bz t.s) (tkU x (pT t.s)).1 (pQ (bz t.s))=true then(tkU x (pT t.s)).2.1 else 1,none):=by unfold cuV;rw[if_neg n12,if_neg n3,if_neg n4,if_pos hp]
   refine hN _ (fun x hx=> ?_) (fun hx=> ?_)
   ·rw[e,cuN,hx];refine c_t (jaa (by rw[jc3];exact Nat.le_trans (numU_len hF hx) (by decide))) ?_;have hr:=tkV_rng x.1 (bz (szO x.2.1)) x.2.2 (pT t.s);refine c_t (jaa ⟨hs,by omega,by omega⟩) fun s b c hc=> ?_
    have hc:=hc.h;simp only[Prod.mk.injEq]at hc;obtain⟨c1,c2,c3⟩:=hc;simp only[tkU];rw[c1];simp only[c2];cases b<;>rfl
   ·rw[e,cuN,hx];rfl
def decU:Value→Option Fu
 | .iface 174 (.agg ⟨[.int .i64 n,.int .i64 k,.int .i64 p,.int .i64 q,.bool w,.string u]⟩)=>some (.w n ⟨k,p,q,w,u⟩)
 | .iface 175 (.string s)=>some (.b s)
 | .iface 178 (.string s)=>some (.c s)
 | .iface 177 (.agg ⟨[.string s,.string p]⟩)=>some (.p s p)
 | _=>none
open Classical in
theorem cuD_ex:∃d:Fu→Ty→Bool,∀f t,d f t=true↔cuA f t:=⟨fun f t=>decide (cuA f t),fun f t=>by simp⟩
def cuD:Fu→Ty→Bool:=Classical.choose cuD_ex
theorem jjv {f:Fu} {t:Ty}:cuD f t=true↔cuA f t:=Classical.choose_spec cuD_ex f t
def s99u:Ab.Spec:=fun args _=>match args with
 | [a,.agg ⟨[.int .i64 k,.int .i64 p,.int .i64 q,.bool w,.string u]⟩]=>match decU a with
  | some f=>some (cuD f ⟨k,p,q,w,u⟩,cuR (cuV f ⟨k,p,q,w,u⟩))
  | none=>none
 | _=>none
theorem ok99u:jap Tryz.prog 99 s99u:=by
 refine jct ok_U1 hmix fn99 jai fun args bs v hs=> ?_
 unfold s99u at hs;split at hs
 case h_2=>cases hs
 rename_i a k p q w u;split at hs
 case h_2=>cases hs
 rename_i f hf;simp only[Option.some.injEq,Prod.mk.injEq]at hs;obtain⟨hA,rfl⟩:=hs;have hA:=jjv.1 hA;have en:(.agg ⟨[.int .i64 k,.int .i64 p,.int .i64 q,.bool w,.string u]⟩:Value)=Enc.enc (⟨k,p,q,w,u⟩:Ty):=rfl;unfold decU at hf;split at hf
 ·cases hf;refine⟨rfl,jag (by kernel_rfl),?_⟩;rw[ja3];rw[en,u99_w];delta qf8 qc9;refine jll hA (fun C h1 _=> ?_) (fun C h1=> ?_) (fun h1 _=> ?_)
  ·exact c_t (jaa (by have⟨h1,h2,h3⟩:=hA.1;obtain⟨v1,v2,v3,v4,v5⟩:=Fx.valid_r h1;exact⟨h2,h3,v3,v5⟩)) fun x hx=>h1 x (congrArg some hx.h)
  ·exact c_t (jaa hA.1) h1
  ·exact c_t (jaa hA.1) fun s hs=>h1 s (congrArg some hs.h)
 ·cases hf;refine⟨rfl,jag (by kernel_rfl),?_⟩;rw[ja3];rw[en,u99_b];refine jll hA (fun C h1 _=> ?_) (fun C h1=>h1) (fun h1 _=>h1 _ rfl);have:=hA.1;exact c_t (by rw[this.1,jaa this.2];rfl) fun x hx=>h1 x (congrArg some hx.h)
 ·cases hf;refine⟨rfl,jag (by kernel_rfl),?_⟩;rw[ja3];rw[en,u99_c];delta qfi qdr;refine jll hA (fun C h1 h2=> ?_) (fun C h1=>h1) (fun h1 h2=> ?_)
  ·exact c_t (jaa hA.1) ⟨fun x hx=>h1 x hx.h,fun hx=>h2 hx.h⟩
  ·exact c_t (jaa hA.1) ⟨fun hx=>h1 _ (if_pos hx.h),fun hx=>h2 (if_neg (by rw[hx.h];decide))⟩
 ·cases hf;refine⟨rfl,jag (by kernel_rfl),?_⟩;rw[ja3];have hc:=hA.1;rw[en,u99_p];delta qfe qb5 qg3;refine jll hA (fun C h1 _=> ?_) (fun C h1=>h1) (fun h1 _=> ?_)
  ·exact c_t (by rw[hc.1,jaa hc.2];rfl) fun x hx=>h1 x (congrArg some hx.h)
  ·exact c_t (by rw[hc.1,jaa hc.2];rfl) fun s hs=>h1 s (congrArg some hs.h)
 ·cases hf
end Go.Cx
end
noncomputable section
namespace Go.Ab
open Go Go.RowKit
variable [Tabs]
def cj (p:Prop):Nat→Prop
 | 0=>p
 | n+1=>p∧cj p n
omit [Tabs] in
theorem cj_of {p:Prop}(h:p):∀n,cj p n
 | 0=>h
 | n+1=>⟨h,cj_of h n⟩
def SelfL:List (List Value×Value)→List Nat→Prop
 | [],_=>True
 | (_,v)::r,[]=>v=v∧SelfL r []
 | (_,v)::r,k::ks=>cj (v=v) k∧SelfL r ks
omit [Tabs] in
theorem jjh:∀l ks,SelfL l ks
 | [],_=>trivial
 | (_,_)::r,[]=>⟨rfl,jjh r []⟩
 | (_,_)::r,k::ks=>⟨cj_of rfl k,jjh r ks⟩
def RunL (P:Program)(G:Env)(L:Nat→Option jb2)(fn:Func):List (List Value×Value)→Prop
 | []=>True
 | (a,v)::r=>ja2 P G L fn a (fun _=>none) 0 (fun v' _ _=>v'=v)∧RunL P G L fn r
theorem allD_of {P:Program} {G:Env} {L:Nat→Option jb2} {fn:Func}:∀{l:List (List Value×Value)},RunL P G L fn l→AllD P G L fn l
 | [],_=>trivial
 | (_,_)::_,h=>⟨by rw[ja3];exact h.1,allD_of h.2⟩
theorem jaz (ks:List Nat) {P:Program} {G:Env} {L:Nat→Option jb2} {f:FuncId} {fn:Func}(hG:jax P G)(hm:P.follows .mixedOrders=true)(hf:Fn1 P f fn)(hL:LOKf P L fn) {l:List (List Value×Value)}
  (hp:(l.all fun x=>ja4 x.1&&Nat.ble x.1.length fn.ntmps)=true) (h:RunL P G L fn l=SelfL l ks):jap P f (memo l):=
 jd7 hG hm hf hL hp (allD_of (cast h.symm (jjh l ks)))
end Go.Ab
end
noncomputable section
namespace Go.Cs
open Go Go.Ab Go.Proofs Go.Shelf Go.Px Go.Cx Go.RowKit
/-- The tables; lengths and characters are computed. -/
instance tabsC:Tabs:={row:=rowsT,plain:=tabs.plain,conc:=true}
theorem RelM.toT {N:Nat} {w0:World} {m:Lk} {ι:Nm} {w:World}(h: @RelM tabsC N w0 m ι w): @RelM tabs N w0 m ι w:=
 @RelM.mk tabs N w0 m ι w h.below h.base h.blk h.view h.inj
theorem RelM.toC {N:Nat} {w0:World} {m:Lk} {ι:Nm} {w:World}(h: @RelM tabs N w0 m ι w): @RelM tabsC N w0 m ι w:=
 @RelM.mk tabsC N w0 m ι w (@RelM.below tabs N w0 m ι w h) (@RelM.base tabs N w0 m ι w h) (@RelM.blk tabs N w0 m ι w h) (@RelM.view tabs N w0 m ι w h) (@RelM.inj tabs N w0 m ι w h)
theorem jc9 {f:FuncId} {s:Ab.Spec}(h: @jap tabs Tryz.prog f s): @jap tabsC Tryz.prog f s:=
 ⟨h.1,fun args v N w0 lk ι w hr hs hv=>h.2 args v N w0 lk ι w (RelM.toT hr) hs hv⟩
theorem pureT {f:FuncId} {s:Ab.Spec}(h: @jap tabsC Tryz.prog f s): @jap tabs Tryz.prog f s:=
 ⟨h.1,fun args v N w0 lk ι w hr hs hv=>h.2 args v N w0 lk ι w (RelM.toC hr) hs hv⟩
theorem pure_at {f:FuncId} {s:Ab.Spec}(h:jap Tryz.prog f s) {l:List (List Value×Value)}(hl:∀a v,(a,v)∈l→ ∀bs,s a bs=some (true,v)):jap Tryz.prog f (memo l):=
 ⟨h.1,fun args v N w0 lk ι w hr hs hv=>h.2 args v N w0 lk ι w hr (hl _ _ (jha hs).2 _) hv⟩
def s154 (s t:ByteArray):Bool×Value:=(oneB t&&asc (bz t),.string (sz (tlZ (bz s) ((bz t).getD 0 0))))
theorem ok154:jap Tryz.prog 154 (sp2 s154):=by
 have e:s154=Cx.s154:=by funext s t;simp only[s154,Cx.s154,jcx]
 rw[e];exact jc9 Cx.ok154
def s131 (s t:ByteArray):Bool×Value:=(decide (s.size≤9223372036854775807) && (oneB t&&asc (bz t)),.string (sz (trZ (bz s) ((bz t).getD 0 0))))
theorem ok131:jap Tryz.prog 131 (sp2 s131):=by
 have e:s131=Cx.s131:=by funext s t;simp only[s131,Cx.s131,jcx]
 rw[e];exact jc9 Cx.ok131
def s55 (s t:ByteArray):Bool×Value:=(decide (s.size≤9223372036854775807) && (decide (t.size≤1000) &&asc (bz t)),.string (sz (jb9 (bz s) (bz t))))
theorem ok55:jap Tryz.prog 55 (sp2 s55):=by
 have e:s55=Cx.s55:=by funext s t;simp only[s55,Cx.s55,jcx]
 rw[e];exact jc9 Cx.ok55
def s30 (s:ByteArray)(n:Int):Bool×Value:=(decide (0≤n∧n≤1000∧s.size≤1000),.string (sz (repZ (bz s) n.toNat)))
theorem ok30:jap Tryz.prog 30 (sp2 s30):=by
 have e:s30=Cx.s30:=by funext s n;simp only[s30,Cx.s30,jcx]
 rw[e];exact jc9 Cx.ok30
theorem dec1234:Lib.decDigits 1234=[49,50,51,52]:=by
 rw[Lib.decDigits,dif_neg (by decide),Lib.decDigits,dif_neg (by decide),Lib.decDigits_two (by decide) (by decide)];rfl
theorem dec1230:Lib.decDigits 1230=[49,50,51,48]:=by
 rw[Lib.decDigits,dif_neg (by decide),Lib.decDigits,dif_neg (by decide),Lib.decDigits_two (by decide) (by decide)];rfl
theorem dec150:Lib.decDigits 150=[49,53,48]:=by
 rw[Lib.decDigits,dif_neg (by decide),Lib.decDigits_two (by decide) (by decide)];rfl
theorem dec123:Lib.decDigits 123=[49,50,51]:=by
 rw[Lib.decDigits,dif_neg (by decide),Lib.decDigits_two (by decide) (by decide)];rfl
theorem dec234:Lib.decDigits 234=[50,51,52]:=by
 rw[Lib.decDigits,dif_neg (by decide),Lib.decDigits_two (by decide) (by decide)];rfl
theorem ito {n:Nat} {l:List UInt8}(h:Lib.decDigits n=l):Cx.s29 (n:Int)=(decide (-9223372036854775808≤(n:Int)∧(n:Int)≤9223372036854775807),.string ⟨l.toArray⟩):=by
 rw[Cx.s29,jcx,itoZ,Lib.itoa_nonneg,h,jg1]
theorem fmt {n:Nat} {l:List UInt8}(h:Lib.decDigits n=l):Px.s87 ⟨(n:Int)⟩ 10=(decide (0≤(n:Int)∧(n:Int) <18446744073709551616) &&isTen 10,.string ⟨l.toArray⟩):=by
 show(_,Value.string (sz (zl (Lib.decDigits (n:Int).toNat))))=_;rw[Int.toNat_natCast,h,jg1]
def m29:List (List Value×Value):=[([.int .i64 150],.string ⟨#[49,53,48]⟩),([.int .i64 123],.string ⟨#[49,50,51]⟩),([.int .i64 1234],.string ⟨#[49,50,51,52]⟩)]
theorem jjm {α:Type} {p:α→Prop}:∀{l:List α},(l.foldr (fun a q=>p a∧q) True)→ ∀a∈l,p a
 | _::_,h,_,ha=>by
  rcases List.mem_cons.1 ha with rfl | ha
  ·exact h.1
  ·exact jjm h.2 _ ha
theorem pk29:jap Tryz.prog 29 (memo m29):=pure_at (jc9 Cx.ok29) fun a v h bs=>by
 have:=jjm (p:=fun x:List Value×Value=>sp1 Cx.s29 x.1 bs=some (true,x.2)) (l:=m29) ⟨congrArg some (ito dec150),congrArg some (ito dec123),congrArg some (ito dec1234),trivial⟩ _ h;exact this
def m81:List (List Value×Value):=[([.int .u64 1230,.int .i64 10],.string ⟨#[49,50,51,48]⟩),([.int .u64 234,.int .i64 10],.string ⟨#[50,51,52]⟩)]
theorem pk81:jap Tryz.prog 81 (memo m81):=pure_at (jc9 Px.ok87) fun a v h bs=>by
 have:=jjm (p:=fun x:List Value×Value=>sp2 Px.s87 x.1 bs=some (true,x.2)) (l:=m81) ⟨congrArg some (fmt dec1230),congrArg some (fmt dec234),trivial⟩ _ h;exact this
theorem genC: @jcw tabsC Tryz.prog 100 h100:=by
 obtain⟨h1,h2⟩:= @gen100;refine⟨h1,fun args m n K hh N w0 ι w hrel hwf hargs=> ?_⟩;refine(h2 args m n K hh N w0 ι w (RelM.toT hrel) hwf hargs).mono fun e w' ⟨v,m',n',ι',h⟩=>⟨v,m',n',ι',h.1,h.2.1,h.2.2.1,h.2.2.2.1,RelM.toC h.2.2.2.2.1,h.2.2.2.2.2⟩
def S0:Env:=Env.nil
theorem ok_S0:jax Tryz.prog S0:=jan
end Go.Cs
end
noncomputable section
set_option maxRecDepth 100000
set_option maxHeartbeats 3200000
namespace Go.Cs
open Go Go.Ab Go.Proofs Go.Px Go.Cx
theorem jch {row tail:List Value} {cap n:Nat}(h:jay tail cap n 1=true)(hr:Nat.beq row.length n=true):
  (Nat.beq (List.length (row++tail)) (cap*1) &&Nat.ble n cap&&Nat.ble cap 9223372036854775807&&true&&true)=true:=by
 simp only[jay,jaf]at h;obtain⟨⟨⟨_,h2⟩,h3⟩,h4⟩:=h;have hr:=jah hr;have h2:=jah h2
 have e:Nat.beq (List.length (row++tail)) (cap*1)=true:=by
  rw[List.length_append,hr,←h2,Nat.mul_one,Nat.add_comm];exact Nat.beq_refl _
 rw[e,h3,h4];rfl
theorem fn234:Fn1 Tryz.prog 234 Tryz.f234:= .m Tryz.func234 (by kernel_rfl)
def B1:Env:=Env.nil.add 272 (sp2 Px.s141)
theorem ok_B1:jax Tryz.prog B1:=jak jan (jc9 Px.ok141)
theorem fn235:Fn1 Tryz.prog 235 Tryz.f235:= .m Tryz.func235 (by kernel_rfl)
def B2:Env:=(Env.nil.addG 234 (inlQ Tryz.prog S0 noL Tryz.f234)).addG 235 (inlQ Tryz.prog B1 noL Tryz.f235)
theorem ok_B2:jax Tryz.prog B2:=jam (jam jan (jar ok_S0 hmix fn234 jai)) (jar ok_B1 hmix fn235 jai)
theorem fn188:Fn1 Tryz.prog 188 Tryz.f188:= .m Tryz.func188 (by kernel_rfl)
def m188:List (List Value×Value):=[([.string ⟨#[90,90,57,86,46,57,57]⟩],.tuple ⟨[.string ⟨#[90,90,57,86,46,57,57]⟩,.bool true]⟩),([.string ⟨#[57,57,57]⟩],.tuple ⟨[.string ⟨#[57,57,57]⟩,.bool true]⟩),([.string ⟨#[65,65,57]⟩],.tuple ⟨[.string ⟨#[65,65,57]⟩,.bool true]⟩)]
def qbb (b:Int)(a:IntKind)(e:List Value)(f:Nat)(g:Prop):Prop:=bif qae ([.int a b]++e) f 1&&true then∀c:Nat,∀d:List Value,qar d c 2→qgn (qae ([.int a b,.int a b]++d) c 2&&true) g else False
def qbw (d e f o:Int)(c:IntKind)(a:List Value)(b:Nat)(p:Prop):Prop:=qar a b 3→(bif qae ([.int c d,.int c d,.int c e]++a) b 3&&true then∀g:Nat,∀h:List Value,qar h g 4→(bif qae ([.int c d,.int c d,.int c e,.int c f]++h) g 4&&true then∀i:Nat,∀j:List Value,qar j i 5→(bif qae ([.int c d,.int c d,.int c e,.int c f,.int c o]++j) i 5&&true then∀k:Nat,∀l:List Value,qar l k 6→(bif qae ([.int c d,.int c d,.int c e,.int c f,.int c o,.int c e]++l) k 6&&true then∀m:Nat,∀n:List Value,qar n m 7→p else False)else False)else False)else False)
theorem v188_0 (R:Value→Prop):ja2 Tryz.prog B2 noL Tryz.f188 [S ⟨#[90,90,57,86,46,57,57]⟩] (fun _=>none) 0 (fun v _ _=>R v)=(∀a:Nat,∀b:List Value,qar b a 1→qbb 90 .u8 b a (∀e:Nat,∀f:List Value,qbw 90 57 86 46 .u8 f e (R (qgh (qg4 ⟨#[90,90,57,86,46,57,57]⟩ [] (B true)))))):=by kernel_rfl
theorem k188_0:ja3 Tryz.prog B2 noL Tryz.f188 [.string ⟨#[90,90,57,86,46,57,57]⟩] (.tuple ⟨[.string ⟨#[90,90,57,86,46,57,57]⟩,.bool true]⟩):=by
 rw[ja3,v188_0];delta qgn qae qar qbb qbw qgh qg4;intro c1 t1 h1;refine c_t (jch (row:=[.int .u8 90]) h1 rfl) ?_;intro c2 t2 h2;refine c_t (jch (row:=[.int .u8 90,.int .u8 90]) h2 rfl) ?_;intro c3 t3 h3;refine c_t (jch (row:=[.int .u8 90,.int .u8 90,.int .u8 57]) h3 rfl) ?_;intro c4 t4 h4;refine c_t (jch (row:=[.int .u8 90,.int .u8 90,.int .u8 57,.int .u8 86]) h4 rfl) ?_;intro c5 t5 h5;refine c_t (jch (row:=[.int .u8 90,.int .u8 90,.int .u8 57,.int .u8 86,.int .u8 46]) h5 rfl) ?_;intro c6 t6 h6;refine c_t (jch (row:=[.int .u8 90,.int .u8 90,.int .u8 57,.int .u8 86,.int .u8 46,.int .u8 57]) h6 rfl) ?_;intro c7 t7 h7;rfl
def qe4 (c:Int)(g:UInt8)(d:Value→Prop):Prop:=∀a:Nat,∀b:List Value,qar b a 1→qbb c .u8 b a (∀e:Nat,∀f:List Value,qar f e 3→d (qgh (qg4 ⟨#[g,g,57]⟩ [] (B true))))
theorem v188_1 (R:Value→Prop):ja2 Tryz.prog B2 noL Tryz.f188 [S ⟨#[57,57,57]⟩] (fun _=>none) 0 (fun v _ _=>R v)=(qe4 57 57 R):=by kernel_rfl
theorem k188_1:ja3 Tryz.prog B2 noL Tryz.f188 [.string ⟨#[57,57,57]⟩] (.tuple ⟨[.string ⟨#[57,57,57]⟩,.bool true]⟩):=by
 rw[ja3,v188_1];delta qgn qae qar qbb qgh qg4 qe4;intro c1 t1 h1;refine c_t (jch (row:=[.int .u8 57]) h1 rfl) ?_;intro c2 t2 h2;refine c_t (jch (row:=[.int .u8 57,.int .u8 57]) h2 rfl) ?_;intro c3 t3 h3;rfl
theorem v188_2 (R:Value→Prop):ja2 Tryz.prog B2 noL Tryz.f188 [S ⟨#[65,65,57]⟩] (fun _=>none) 0 (fun v _ _=>R v)=(qe4 65 65 R):=by kernel_rfl
theorem k188_2:ja3 Tryz.prog B2 noL Tryz.f188 [.string ⟨#[65,65,57]⟩] (.tuple ⟨[.string ⟨#[65,65,57]⟩,.bool true]⟩):=by
 rw[ja3,v188_2];delta qgn qae qar qbb qgh qg4 qe4;intro c1 t1 h1;refine c_t (jch (row:=[.int .u8 65]) h1 rfl) ?_;intro c2 t2 h2;refine c_t (jch (row:=[.int .u8 65,.int .u8 65]) h2 rfl) ?_;intro c3 t3 h3;rfl
theorem pk188:jap Tryz.prog 188 (memo m188):=jd7 ok_B2 hmix fn188 jai (by kernel_rfl) ⟨k188_0,k188_1,k188_2,trivial⟩
def B3:Env:=Env.nil.add 272 (sp2 Px.s141)
theorem ok_B3:jax Tryz.prog B3:=jak jan (jc9 Px.ok141)
theorem fn281:Fn1 Tryz.prog 281 Tryz.f281:= .m Tryz.func281 (by kernel_rfl)
def B4:Env:=(((Env.nil.add 272 (sp2 Px.s141)).add 279 (sp2 Px.s157)).add 129 (sp2 s132)).add 280 (sp2 s280)
theorem ok_B4:jax Tryz.prog B4:=jak (jak (jak (jak jan (jc9 Px.ok141)) (jc9 Px.ok157)) (jc9 ok132)) (jc9 ok280)
theorem fn244:Fn1 Tryz.prog 244 Tryz.f244:= .m Tryz.func244 (by kernel_rfl)
def B5:Env:=Env.nil.addG 281 (inlQ Tryz.prog B3 noL Tryz.f281)
theorem ok_B5:jax Tryz.prog B5:=jam jan (jar ok_B3 hmix fn281 jai)
theorem fn245:Fn1 Tryz.prog 245 Tryz.f245:= .m Tryz.func245 (by kernel_rfl)
def B6:Env:=Env.nil
theorem ok_B6:jax Tryz.prog B6:=jan
theorem fn246:Fn1 Tryz.prog 246 Tryz.f246:= .m Tryz.func246 (by kernel_rfl)
def B7:Env:=Env.nil.add 272 (sp2 Px.s141)
theorem ok_B7:jax Tryz.prog B7:=jak jan (jc9 Px.ok141)
theorem fn247:Fn1 Tryz.prog 247 Tryz.f247:= .m Tryz.func247 (by kernel_rfl)
def B8:Env:=((((((Env.nil.add 129 (sp2 s132)).add 130 (sp2 s130)).add 203 (sp2 s102)).addG 244 (inlQ Tryz.prog B4 noL Tryz.f244)).addG 245 (inlQ Tryz.prog B5 noL Tryz.f245)).addG 246 (inlQ Tryz.prog B6 noL Tryz.f246)).addG 247 (inlQ Tryz.prog B7 noL Tryz.f247)
theorem ok_B8:jax Tryz.prog B8:=jam (jam (jam (jam (jak (jak (jak jan (jc9 ok132)) (jc9 ok130)) (jc9 ok102)) (jar ok_B4 hmix fn244 jai)) (jar ok_B5 hmix fn245 jai)) (jar ok_B6 hmix fn246 jai)) (jar ok_B7 hmix fn247 jai)
theorem fn204:Fn1 Tryz.prog 204 Tryz.f204:= .m Tryz.func204 (by kernel_rfl)
def B9:Env:=(((Env.nil.add 55 (sp2 s55)).add 203 (sp2 s102)).add 188 (memo m188)).addG 204 (inlQ Tryz.prog B8 noL Tryz.f204)
theorem ok_B9:jax Tryz.prog B9:=jam (jak (jak (jak jan ok55) (jc9 ok102)) pk188) (jar ok_B8 hmix fn204 jai)
theorem fn145:Fn1 Tryz.prog 145 Tryz.f145:= .m Tryz.func145 (by kernel_rfl)
def B10:Env:=Env.nil.addG 145 (inlQ Tryz.prog B9 noL Tryz.f145)
theorem ok_B10:jax Tryz.prog B10:=jam jan (jar ok_B9 hmix fn145 jai)
theorem fn113:Fn1 Tryz.prog 113 Tryz.f113:= .m Tryz.func113 (by kernel_rfl)
def m113:List (List Value×Value):=[([.string ⟨#[90,90,57,86,46,57,57]⟩],.tuple ⟨[.agg ⟨[.string ⟨#[90,90,57,86,46,57,57]⟩,.bool true,.int .i64 6,.int .i64 5,.int .i64 2,.bool false]⟩,.int .i64 0]⟩),([.string ⟨#[57,57,57]⟩],.tuple ⟨[.agg ⟨[.string ⟨#[57,57,57]⟩,.bool true,.int .i64 3,.int .i64 3,.int .i64 0,.bool false]⟩,.int .i64 0]⟩),([.string ⟨#[65,65,57]⟩],.tuple ⟨[.agg ⟨[.string ⟨#[65,65,57]⟩,.bool false,.int .i64 3,.int .i64 0,.int .i64 0,.bool false]⟩,.int .i64 0]⟩)]
def qel (b:Nat)(c:Prop):Prop:=∀a:Nat,b.ble a=true→c
theorem v113_0 (R:Value→Prop):ja2 Tryz.prog B10 noL Tryz.f113 [S ⟨#[90,90,57,86,46,57,57]⟩] (fun _=>none) 0 (fun v _ _=>R v)=(qel 7 (∀b:Nat,∀c:List Value,qar c b 1→qbb 1 .i64 c b (∀f:Nat,∀g:List Value,qbw 1 0 2 3 .i64 g f (∀p:Nat,Nat.ble 7 p=true→R (qgh (qf9 true 0 qfv (S ⟨#[90,90,57,86,46,57,57]⟩) (qb8 6) (qb8 5) (qb8 2))))))):=by kernel_rfl
theorem k113_0:ja3 Tryz.prog B10 noL Tryz.f113 [.string ⟨#[90,90,57,86,46,57,57]⟩] (.tuple ⟨[.agg ⟨[.string ⟨#[90,90,57,86,46,57,57]⟩,.bool true,.int .i64 6,.int .i64 5,.int .i64 2,.bool false]⟩,.int .i64 0]⟩):=by
 rw[ja3,v113_0];delta qel qgn qae qar qbb qbw qgh qb8 qf9 qfv;intro c1 h1;intro c2 t2 h2;refine c_t (jch (row:=[.int .i64 1]) h2 rfl) ?_;intro c3 t3 h3;refine c_t (jch (row:=[.int .i64 1,.int .i64 1]) h3 rfl) ?_;intro c4 t4 h4;refine c_t (jch (row:=[.int .i64 1,.int .i64 1,.int .i64 0]) h4 rfl) ?_;intro c5 t5 h5;refine c_t (jch (row:=[.int .i64 1,.int .i64 1,.int .i64 0,.int .i64 2]) h5 rfl) ?_;intro c6 t6 h6;refine c_t (jch (row:=[.int .i64 1,.int .i64 1,.int .i64 0,.int .i64 2,.int .i64 3]) h6 rfl) ?_;intro c7 t7 h7;refine c_t (jch (row:=[.int .i64 1,.int .i64 1,.int .i64 0,.int .i64 2,.int .i64 3,.int .i64 0]) h7 rfl) ?_;intro c8 t8 h8;intro c9 h9;rfl
def qgc (a:List Value)(b c d:Nat):Prop:=jay a b c d=true
theorem v113_1 (R:Value→Prop):ja2 Tryz.prog B10 noL Tryz.f113 [S ⟨#[57,57,57]⟩] (fun _=>none) 0 (fun v _ _=>R v)=(qel 3 (∀b:Nat,∀c:List Value,qgc c b 1 1→qbb 0 .i64 c b (∀f:Nat,∀g:List Value,qar g f 3→(∀h:Nat,Nat.ble 3 h=true→R (qgh (qf9 true 0 qfv (S ⟨#[57,57,57]⟩) (qb8 3) (qb8 3) (qb8 0))))))):=by kernel_rfl
theorem k113_1:ja3 Tryz.prog B10 noL Tryz.f113 [.string ⟨#[57,57,57]⟩] (.tuple ⟨[.agg ⟨[.string ⟨#[57,57,57]⟩,.bool true,.int .i64 3,.int .i64 3,.int .i64 0,.bool false]⟩,.int .i64 0]⟩):=by
 rw[ja3,v113_1];delta qel qgn qae qar qbb qgh qb8 qf9 qfv qgc;intro c1 h1;intro c2 t2 h2;refine c_t (jch (row:=[.int .i64 0]) h2 rfl) ?_;intro c3 t3 h3;refine c_t (jch (row:=[.int .i64 0,.int .i64 0]) h3 rfl) ?_;intro c4 t4 h4;intro c5 h5;rfl
theorem v113_2 (R:Value→Prop):ja2 Tryz.prog B10 noL Tryz.f113 [S ⟨#[65,65,57]⟩] (fun _=>none) 0 (fun v _ _=>R v)=(R (.tuple ⟨[.agg ⟨[S ⟨#[65,65,57]⟩,B false,I 3,I 0,I 0,B false]⟩,I 0]⟩)):=by kernel_rfl
theorem pk113:jap Tryz.prog 113 (memo m113):=jd7 ok_B10 hmix fn113 jai (by kernel_rfl) ⟨k113_0,k113_1,by rw[ja3,v113_2],trivial⟩
def B11:Env:=Env.nil.add 113 (memo m113)
theorem ok_B11:jax Tryz.prog B11:=jak jan pk113
theorem fn67:Fn1 Tryz.prog 67 Tryz.f67:= .m Tryz.func67 (by kernel_rfl)
def m67:List (List Value×Value):=[([.string ⟨#[90,90,57,86,46,57,57]⟩],.int .i64 0),([.string ⟨#[57,57,57]⟩],.int .i64 0),([.string ⟨#[65,65,57]⟩],.int .i64 0)]
theorem pk67:jap Tryz.prog 67 (memo m67):=jaz [] ok_B11 hmix fn67 jai (by kernel_rfl) (by kernel_rfl)
def B12:Env:=Env.nil.add 113 (memo m113)
theorem ok_B12:jax Tryz.prog B12:=jak jan pk113
theorem fn61:Fn1 Tryz.prog 61 Tryz.f61:= .m Tryz.func61 (by kernel_rfl)
def m61:List (List Value×Value):=[([.string ⟨#[90,90,57,86,46,57,57]⟩],.tuple ⟨[.agg ⟨[.int .i64 1,.int .i64 5,.int .i64 2,.bool false,.string ⟨#[]⟩]⟩,.int .i64 0]⟩),([.string ⟨#[57,57,57]⟩],.tuple ⟨[.agg ⟨[.int .i64 1,.int .i64 3,.int .i64 0,.bool false,.string ⟨#[]⟩]⟩,.int .i64 0]⟩),([.string ⟨#[65,65,57]⟩],.tuple ⟨[.agg ⟨[.int .i64 3,.int .i64 3,.int .i64 0,.bool false,.string ⟨#[]⟩]⟩,.int .i64 0]⟩)]
theorem pk61:jap Tryz.prog 61 (memo m61):=jaz [] ok_B12 hmix fn61 jai (by kernel_rfl) (by kernel_rfl)
def B13:Env:=Env.nil.addG 145 (inlQ Tryz.prog B9 noL Tryz.f145)
theorem ok_B13:jax Tryz.prog B13:=jam jan (jar ok_B9 hmix fn145 jai)
theorem fn136:Fn1 Tryz.prog 136 Tryz.f136:= .m Tryz.func136 (by kernel_rfl)
def B14:Env:=Env.nil.addG 136 (inlQ Tryz.prog B13 noL Tryz.f136)
theorem ok_B14:jax Tryz.prog B14:=jam jan (jar ok_B13 hmix fn136 jai)
theorem fn59:Fn1 Tryz.prog 59 Tryz.f59:= .m Tryz.func59 (by kernel_rfl)
def m59:List (List Value×Value):=[([.string ⟨#[90,90,57,86,46,57,57]⟩],.bool true),([.string ⟨#[57,57,57]⟩],.bool true),([.string ⟨#[65,65,57]⟩],.bool false)]
def qav (a b:List Value)(c d e:Nat):Bool:=(a++b).length.beq (c*d) &&e.ble c&&c.ble 9223372036854775807&&true&&true
def qdu (d:List Value)(a b c:Nat)(e:Prop):Prop:=∀r:List Value,qgc r a b c→qgn (qav d r a c b) e
def qc3 (a:Int)(b:List Value)(c:Nat)(f:Prop):Prop:=bif qav [qb8 a] b c 1 1 then∀d:Nat,qdu [qb8 a,qb8 a] d 2 1 f else False
def qgw (b:Int)(a:Nat)(d:Prop):Prop:=∀c:List Value,qgc c a 1 1→qc3 b c a d
def qe3 (a b:Nat)(c:Prop):Prop:=∀g:List Value,qgc g a b 1→(∀h:Nat,b.ble h=true→c)
def qbu (a:List Value)(b:Nat)(c:Prop):Prop:=bif qav [qb8 1,qb8 1,qb8 0] a b 1 3 then∀h:Nat,qdu [qb8 1,qb8 1,qb8 0,qb8 2] h 4 1 (∀j:Nat,∀k:List Value,qgc k j 5 1→(bif qav [qb8 1,qb8 1,qb8 0,qb8 2,qb8 3] k j 1 5 then∀l:Nat,∀m:List Value,qgc m l 6 1→(bif qav [qb8 1,qb8 1,qb8 0,qb8 2,qb8 3,qb8 0] m l 1 6 then∀n:Nat,qe3 n 7 c else False)else False))else False
def qg1 (a:Prop):Prop:=qel 7 (∀b:Nat,qgw 1 b (∀f:Nat,∀g:List Value,qgc g f 3 1→qbu g f a))
theorem v59_0 (R:Value→Prop):ja2 Tryz.prog B14 noL Tryz.f59 [S ⟨#[90,90,57,86,46,57,57]⟩] (fun _=>none) 0 (fun v _ _=>R v)=(qg1 (qgg R)):=by kernel_rfl
theorem k59_0:ja3 Tryz.prog B14 noL Tryz.f59 [.string ⟨#[90,90,57,86,46,57,57]⟩] (.bool true):=by
 rw[ja3,v59_0];delta qel qgn qav qgc qdu qb8 qc3 qgw qe3 qbu qg1 qgg;intro c1 h1;intro c2 t2 h2;refine c_t (jch (row:=[.int .i64 1]) h2 rfl) ?_;intro c3 t3 h3;refine c_t (jch (row:=[.int .i64 1,.int .i64 1]) h3 rfl) ?_;intro c4 t4 h4;refine c_t (jch (row:=[.int .i64 1,.int .i64 1,.int .i64 0]) h4 rfl) ?_;intro c5 t5 h5;refine c_t (jch (row:=[.int .i64 1,.int .i64 1,.int .i64 0,.int .i64 2]) h5 rfl) ?_;intro c6 t6 h6;refine c_t (jch (row:=[.int .i64 1,.int .i64 1,.int .i64 0,.int .i64 2,.int .i64 3]) h6 rfl) ?_;intro c7 t7 h7;refine c_t (jch (row:=[.int .i64 1,.int .i64 1,.int .i64 0,.int .i64 2,.int .i64 3,.int .i64 0]) h7 rfl) ?_;intro c8 t8 h8;intro c9 h9;rfl
theorem v59_1 (R:Value→Prop):ja2 Tryz.prog B14 noL Tryz.f59 [S ⟨#[57,57,57]⟩] (fun _=>none) 0 (fun v _ _=>R v)=(qel 3 (∀b:Nat,qgw 0 b (∀f:Nat,qe3 f 3 (qgg R)))):=by kernel_rfl
theorem k59_1:ja3 Tryz.prog B14 noL Tryz.f59 [.string ⟨#[57,57,57]⟩] (.bool true):=by
 rw[ja3,v59_1];delta qel qgn qav qgc qdu qb8 qc3 qgw qe3 qgg;intro c1 h1;intro c2 t2 h2;refine c_t (jch (row:=[.int .i64 0]) h2 rfl) ?_;intro c3 t3 h3;refine c_t (jch (row:=[.int .i64 0,.int .i64 0]) h3 rfl) ?_;intro c4 t4 h4;intro c5 h5;rfl
theorem v59_2 (R:Value→Prop):ja2 Tryz.prog B14 noL Tryz.f59 [S ⟨#[65,65,57]⟩] (fun _=>none) 0 (fun v _ _=>R v)=(R (B false)):=by kernel_rfl
theorem pk59:jap Tryz.prog 59 (memo m59):=jd7 ok_B14 hmix fn59 jai (by kernel_rfl) ⟨k59_0,k59_1,by rw[ja3,v59_2],trivial⟩
def B15:Env:=Env.nil
theorem ok_B15:jax Tryz.prog B15:=jan
theorem fn147:Fn1 Tryz.prog 147 Tryz.f147:= .m Tryz.func147 (by kernel_rfl)
def B16:Env:=(((Env.nil.add 154 (sp2 s154)).add 55 (sp2 s55)).add 30 (sp2 s30)).add 81 (memo m81)
theorem ok_B16:jax Tryz.prog B16:=jak (jak (jak (jak jan ok154) ok55) ok30) pk81
theorem fn225:Fn1 Tryz.prog 225 Tryz.f225:= .m Tryz.func225 (by kernel_rfl)
def B17:Env:=Env.nil
theorem ok_B17:jax Tryz.prog B17:=jan
theorem fn287:Fn1 Tryz.prog 287 Tryz.f287:= .m Tryz.func287 (by kernel_rfl)
def B18:Env:=Env.nil
theorem ok_B18:jax Tryz.prog B18:=jan
theorem fn288:Fn1 Tryz.prog 288 Tryz.f288:= .m Tryz.func288 (by kernel_rfl)
def B19:Env:=Env.nil.add 55 (sp2 s55)
theorem ok_B19:jax Tryz.prog B19:=jak jan ok55
theorem fn251:Fn1 Tryz.prog 251 Tryz.f251:= .m Tryz.func251 (by kernel_rfl)
def B20:Env:=(Env.nil.addG 287 (inlQ Tryz.prog B17 noL Tryz.f287)).addG 288 (inlQ Tryz.prog B18 noL Tryz.f288)
theorem ok_B20:jax Tryz.prog B20:=jam (jam jan (jar ok_B17 hmix fn287 jai)) (jar ok_B18 hmix fn288 jai)
theorem fn252:Fn1 Tryz.prog 252 Tryz.f252:= .m Tryz.func252 (by kernel_rfl)
def B21:Env:=Env.nil.addG 287 (inlQ Tryz.prog B17 noL Tryz.f287)
theorem ok_B21:jax Tryz.prog B21:=jam jan (jar ok_B17 hmix fn287 jai)
theorem fn253:Fn1 Tryz.prog 253 Tryz.f253:= .m Tryz.func253 (by kernel_rfl)
def B22:Env:=Env.nil
theorem ok_B22:jax Tryz.prog B22:=jan
theorem fn254:Fn1 Tryz.prog 254 Tryz.f254:= .m Tryz.func254 (by kernel_rfl)
def B23:Env:=Env.nil
theorem ok_B23:jax Tryz.prog B23:=jan
theorem fn255:Fn1 Tryz.prog 255 Tryz.f255:= .m Tryz.func255 (by kernel_rfl)
def B24:Env:=Env.nil
theorem ok_B24:jax Tryz.prog B24:=jan
theorem fn256:Fn1 Tryz.prog 256 Tryz.f256:= .m Tryz.func256 (by kernel_rfl)
def B25:Env:=((((((Env.nil.add 30 (sp2 s30)).addG 251 (inlQ Tryz.prog B19 noL Tryz.f251)).addG 252 (inlQ Tryz.prog B20 noL Tryz.f252)).addG 253 (inlQ Tryz.prog B21 noL Tryz.f253)).addG 254 (inlQ Tryz.prog B22 noL Tryz.f254)).addG 255 (inlQ Tryz.prog B23 noL Tryz.f255)).addG 256 (inlQ Tryz.prog B24 noL Tryz.f256)
theorem ok_B25:jax Tryz.prog B25:=jam (jam (jam (jam (jam (jam (jak jan ok30) (jar ok_B19 hmix fn251 jai)) (jar ok_B20 hmix fn252 jai)) (jar ok_B21 hmix fn253 jai)) (jar ok_B22 hmix fn254 jai)) (jar ok_B23 hmix fn255 jai)) (jar ok_B24 hmix fn256 jai)
theorem fn207:Fn1 Tryz.prog 207 Tryz.f207:= .m Tryz.func207 (by kernel_rfl)
def B26:Env:=((Env.nil.addG 136 (inlQ Tryz.prog B13 noL Tryz.f136)).addG 225 (inlQ Tryz.prog B16 noL Tryz.f225)).addG 207 (inlQ Tryz.prog B25 noL Tryz.f207)
theorem ok_B26:jax Tryz.prog B26:=jam (jam (jam jan (jar ok_B13 hmix fn136 jai)) (jar ok_B16 hmix fn225 jai)) (jar ok_B25 hmix fn207 jai)
theorem fn171:Fn1 Tryz.prog 171 Tryz.f171:= .m Tryz.func171 (by kernel_rfl)
def m171:List (List Value×Value):=[([.int .i64 1230,.int .i64 2,.string ⟨#[90,90,57,86,46,57,57]⟩],.tuple ⟨[.string ⟨#[32,49,50,46,51,48]⟩,.bool true,.int .i64 0]⟩),([.int .i64 234,.int .i64 0,.string ⟨#[57,57,57]⟩],.tuple ⟨[.string ⟨#[50,51,52]⟩,.bool true,.int .i64 0]⟩)]
def qfn (a b:Int)(c:Prop):Prop:=∀q:Nat,qdu [qf3 a] q 1 1 (∀s:Nat,∀t:List Value,qgc t s 2 1→qgn (qav [qf3 a,qf3 b] t s 1 2) c)
theorem v171_0 (R:Value→Prop):ja2 Tryz.prog B26 noL Tryz.f171 [I 1230,I 2,S ⟨#[90,90,57,86,46,57,57]⟩] (fun _=>none) 0 (fun v _ _=>R v)=(qg1 (qfn 32 49 (∀u:Nat,∀v:List Value,qgc v u 3 1→(bif qav [qf3 32,qf3 49,qf3 50] v u 1 3 then∀w:Nat,∀x:List Value,qgc x w 4 1→(bif qav (qe5 32 49 50 46) x w 1 4 then∀y:Nat,∀z:List Value,qgc z y 5 1→(bif qav (qf3 32::qe5 49 50 46 51) z y 1 5 then∀aa:Nat,∀ab:List Value,qgc ab aa 6 1→R (qgh (qg4 ⟨#[32,49,50,46,51,48]⟩ [qb8 0] (B true)))else False)else False)else False)))):=by kernel_rfl
theorem k171_0:ja3 Tryz.prog B26 noL Tryz.f171 [.int .i64 1230,.int .i64 2,.string ⟨#[90,90,57,86,46,57,57]⟩] (.tuple ⟨[.string ⟨#[32,49,50,46,51,48]⟩,.bool true,.int .i64 0]⟩):=by
 rw[ja3,v171_0];delta qel qgn qav qgc qdu qb8 qc3 qgw qe3 qbu qg1 qf3 qfn qgh qg4 qe5;intro c1 h1;intro c2 t2 h2;refine c_t (jch (row:=[.int .i64 1]) h2 rfl) ?_;intro c3 t3 h3;refine c_t (jch (row:=[.int .i64 1,.int .i64 1]) h3 rfl) ?_;intro c4 t4 h4;refine c_t (jch (row:=[.int .i64 1,.int .i64 1,.int .i64 0]) h4 rfl) ?_;intro c5 t5 h5;refine c_t (jch (row:=[.int .i64 1,.int .i64 1,.int .i64 0,.int .i64 2]) h5 rfl) ?_;intro c6 t6 h6;refine c_t (jch (row:=[.int .i64 1,.int .i64 1,.int .i64 0,.int .i64 2,.int .i64 3]) h6 rfl) ?_;intro c7 t7 h7;refine c_t (jch (row:=[.int .i64 1,.int .i64 1,.int .i64 0,.int .i64 2,.int .i64 3,.int .i64 0]) h7 rfl) ?_;intro c8 t8 h8;intro c9 h9;intro c10 t10 h10;refine c_t (jch (row:=[.int .u8 32]) h10 rfl) ?_;intro c11 t11 h11;refine c_t (jch (row:=[.int .u8 32,.int .u8 49]) h11 rfl) ?_;intro c12 t12 h12;refine c_t (jch (row:=[.int .u8 32,.int .u8 49,.int .u8 50]) h12 rfl) ?_;intro c13 t13 h13;refine c_t (jch (row:=[.int .u8 32,.int .u8 49,.int .u8 50,.int .u8 46]) h13 rfl) ?_;intro c14 t14 h14;refine c_t (jch (row:=[.int .u8 32,.int .u8 49,.int .u8 50,.int .u8 46,.int .u8 51]) h14 rfl) ?_;intro c15 t15 h15;rfl
theorem v171_1 (R:Value→Prop):ja2 Tryz.prog B26 noL Tryz.f171 [I 234,I 0,S ⟨#[57,57,57]⟩] (fun _=>none) 0 (fun v _ _=>R v)=(qel 3 (∀b:Nat,qgw 0 b (∀f:Nat,qe3 f 3 (qfn 50 51 (∀m:Nat,∀n:List Value,qgc n m 3 1→R (qgh (qg4 ⟨#[50,51,52]⟩ [qb8 0] (B true)))))))):=by kernel_rfl
theorem k171_1:ja3 Tryz.prog B26 noL Tryz.f171 [.int .i64 234,.int .i64 0,.string ⟨#[57,57,57]⟩] (.tuple ⟨[.string ⟨#[50,51,52]⟩,.bool true,.int .i64 0]⟩):=by
 rw[ja3,v171_1];delta qel qgn qav qgc qdu qb8 qc3 qgw qe3 qf3 qfn qgh qg4;intro c1 h1;intro c2 t2 h2;refine c_t (jch (row:=[.int .i64 0]) h2 rfl) ?_;intro c3 t3 h3;refine c_t (jch (row:=[.int .i64 0,.int .i64 0]) h3 rfl) ?_;intro c4 t4 h4;intro c5 h5;intro c6 t6 h6;refine c_t (jch (row:=[.int .u8 50]) h6 rfl) ?_;intro c7 t7 h7;refine c_t (jch (row:=[.int .u8 50,.int .u8 51]) h7 rfl) ?_;intro c8 t8 h8;rfl
theorem pk171:jap Tryz.prog 171 (memo m171):=jd7 ok_B26 hmix fn171 jai (by kernel_rfl) ⟨k171_0,k171_1,trivial⟩
def B27:Env:=(Env.nil.addG 145 (inlQ Tryz.prog B9 noL Tryz.f145)).addG 147 (inlQ Tryz.prog B15 noL Tryz.f147)
theorem ok_B27:jax Tryz.prog B27:=jam (jam jan (jar ok_B9 hmix fn145 jai)) (jar ok_B15 hmix fn147 jai)
theorem fn72:Fn1 Tryz.prog 72 Tryz.f72:= .m Tryz.func72 (by kernel_rfl)
def m72:List (List Value×Value):=[([.string ⟨#[65,65,57]⟩,.string ⟨#[97,49,49]⟩],.bool false)]
theorem v72_0 (R:Value→Prop):ja2 Tryz.prog B27 noL Tryz.f72 [S ⟨#[65,65,57]⟩,S ⟨#[97,49,49]⟩] (fun _=>none) 0 (fun v _ _=>R v)=(∀c1:Nat,Nat.ble 3 c1=true→R (B false)):=by kernel_rfl
theorem k72_0:ja3 Tryz.prog B27 noL Tryz.f72 [.string ⟨#[65,65,57]⟩,.string ⟨#[97,49,49]⟩] (.bool false):=by
 rw[ja3,v72_0];intro c1 h1;rfl
theorem pk72:jap Tryz.prog 72 (memo m72):=jd7 ok_B27 hmix fn72 jai (by kernel_rfl) ⟨k72_0,trivial⟩
def B28:Env:=((Env.nil.add 30 (sp2 s30)).addG 145 (inlQ Tryz.prog B9 noL Tryz.f145)).addG 207 (inlQ Tryz.prog B25 noL Tryz.f207)
theorem ok_B28:jax Tryz.prog B28:=jam (jam (jak jan ok30) (jar ok_B9 hmix fn145 jai)) (jar ok_B25 hmix fn207 jai)
theorem fn176:Fn1 Tryz.prog 176 Tryz.f176:= .m Tryz.func176 (by kernel_rfl)
def m176:List (List Value×Value):=[([.string ⟨#[65,65,57]⟩],.tuple ⟨[.string ⟨#[32,32,32]⟩,.int .i64 0]⟩)]
theorem pk176:jap Tryz.prog 176 (memo m176):=jaz [] ok_B28 hmix fn176 jai (by kernel_rfl) (by kernel_rfl)
def A5:Env:=(Env.nil.add 67 (memo m67)).add 66 (sp1 Cx.s66)
theorem ok_A5:jax Tryz.prog A5:=jak (jak jan pk67) (jc9 Cx.ok66)
theorem fn20:Fn1 Tryz.prog 20 Tryz.f20:= .m Tryz.func20 (by kernel_rfl)
def m20:List (List Value×Value):=[([.agg ⟨[.int .i64 1,.int .i64 4,.int .i64 2,.bool false,.string ⟨#[]⟩]⟩],.int .i64 0),([.agg ⟨[.int .i64 3,.int .i64 3,.int .i64 0,.bool false,.string ⟨#[]⟩]⟩],.int .i64 0),([.agg ⟨[.int .i64 1,.int .i64 3,.int .i64 0,.bool false,.string ⟨#[]⟩]⟩],.int .i64 0),([.agg ⟨[.int .i64 2,.int .i64 15,.int .i64 0,.bool false,.string ⟨#[]⟩]⟩],.int .i64 0),([.agg ⟨[.int .i64 4,.int .i64 1,.int .i64 0,.bool false,.string ⟨#[]⟩]⟩],.int .i64 0),([.agg ⟨[.int .i64 4,.int .i64 3,.int .i64 0,.bool false,.string ⟨#[]⟩]⟩],.int .i64 0),([.agg ⟨[.int .i64 3,.int .i64 5,.int .i64 0,.bool false,.string ⟨#[]⟩]⟩],.int .i64 0),([.agg ⟨[.int .i64 1,.int .i64 3,.int .i64 1,.bool false,.string ⟨#[]⟩]⟩],.int .i64 0),([.agg ⟨[.int .i64 5,.int .i64 0,.int .i64 0,.bool false,.string ⟨#[90,90,57,86,46,57,57]⟩]⟩],.int .i64 0),([.agg ⟨[.int .i64 1,.int .i64 4,.int .i64 0,.bool false,.string ⟨#[]⟩]⟩],.int .i64 0),([.agg ⟨[.int .i64 5,.int .i64 0,.int .i64 0,.bool false,.string ⟨#[57,57,57]⟩]⟩],.int .i64 0),([.agg ⟨[.int .i64 5,.int .i64 0,.int .i64 0,.bool false,.string ⟨#[65,65,57]⟩]⟩],.int .i64 0),([.agg ⟨[.int .i64 3,.int .i64 256,.int .i64 0,.bool false,.string ⟨#[]⟩]⟩],.int .i64 5),([.agg ⟨[.int .i64 4,.int .i64 64,.int .i64 0,.bool false,.string ⟨#[]⟩]⟩],.int .i64 0)]
theorem pk20:jap Tryz.prog 20 (memo m20):=jaz [0,1,0,0,0,0,1,0,0,0,0,0,1] ok_A5 hmix fn20 jai (by kernel_rfl) (by kernel_rfl)
def A6:Env:=Env.nil
theorem ok_A6:jax Tryz.prog A6:=jan
theorem fn191:Fn1 Tryz.prog 191 Tryz.f191:= .m Tryz.func191 (by kernel_rfl)
def m191:List (List Value×Value):=[([],.agg ⟨[.int .i64 1,.int .i64 10,.int .i64 100,.int .i64 1000,.int .i64 10000,.int .i64 100000,.int .i64 1000000,.int .i64 10000000,.int .i64 100000000,.int .i64 1000000000,.int .i64 10000000000,.int .i64 100000000000,.int .i64 1000000000000,.int .i64 10000000000000,.int .i64 100000000000000,.int .i64 1000000000000000,.int .i64 10000000000000000,.int .i64 100000000000000000,.int .i64 1000000000000000000]⟩)]
theorem pk191:jap Tryz.prog 191 (memo m191):=jaz [] ok_A6 hmix fn191 jai (by kernel_rfl) (by kernel_rfl)
def A7:Env:=Env.nil.add 191 (memo m191)
theorem ok_A7:jax Tryz.prog A7:=jak jan pk191
theorem fn144:Fn1 Tryz.prog 144 Tryz.f144:= .m Tryz.func144 (by kernel_rfl)
def m144:List (List Value×Value):=[([.agg ⟨[.int .i64 1,.int .i64 4,.int .i64 2,.bool false,.string ⟨#[]⟩]⟩],.int .i64 10000),([.agg ⟨[.int .i64 2,.int .i64 15,.int .i64 0,.bool false,.string ⟨#[]⟩]⟩],.int .i64 32768),([.agg ⟨[.int .i64 1,.int .i64 3,.int .i64 1,.bool false,.string ⟨#[]⟩]⟩],.int .i64 1000),([.agg ⟨[.int .i64 1,.int .i64 4,.int .i64 0,.bool false,.string ⟨#[]⟩]⟩],.int .i64 10000)]
theorem pk144:jap Tryz.prog 144 (memo m144):=jaz [] ok_A7 hmix fn144 jai (by kernel_rfl) (by kernel_rfl)
def A8:Env:=(Env.nil.add 66 (sp1 Cx.s66)).add 144 (memo m144)
theorem ok_A8:jax Tryz.prog A8:=jak (jak jan (jc9 Cx.ok66)) pk144
theorem fn70:Fn1 Tryz.prog 70 Tryz.f70:= .m Tryz.func70 (by kernel_rfl)
def m70:List (List Value×Value):=[([.agg ⟨[.int .i64 (-150),.string ⟨#[]⟩]⟩,.agg ⟨[.int .i64 1,.int .i64 4,.int .i64 2,.bool false,.string ⟨#[]⟩]⟩],.int .i64 0),([.agg ⟨[.int .i64 1,.string ⟨#[]⟩]⟩,.agg ⟨[.int .i64 2,.int .i64 15,.int .i64 0,.bool false,.string ⟨#[]⟩]⟩],.int .i64 0),([.agg ⟨[.int .i64 123,.string ⟨#[]⟩]⟩,.agg ⟨[.int .i64 1,.int .i64 3,.int .i64 1,.bool false,.string ⟨#[]⟩]⟩],.int .i64 0),([.agg ⟨[.int .i64 1234,.string ⟨#[]⟩]⟩,.agg ⟨[.int .i64 1,.int .i64 4,.int .i64 0,.bool false,.string ⟨#[]⟩]⟩],.int .i64 0)]
theorem pk70:jap Tryz.prog 70 (memo m70):=jaz [] ok_A8 hmix fn70 jai (by kernel_rfl) (by kernel_rfl)
def A9:Env:=Env.nil.add 55 (sp2 s55)
theorem ok_A9:jax Tryz.prog A9:=jak jan ok55
theorem fn71:Fn1 Tryz.prog 71 Tryz.f71:= .m Tryz.func71 (by kernel_rfl)
def m71:List (List Value×Value):=[([.string ⟨#[49,48,49]⟩],.bool true),([.string ⟨#[50]⟩],.bool false)]
theorem pk71:jap Tryz.prog 71 (memo m71):=jaz [] ok_A9 hmix fn71 jai (by kernel_rfl) (by kernel_rfl)
def A10:Env:=(((Env.nil.add 72 (memo m72)).add 20 (memo m20)).add 70 (memo m70)).add 71 (memo m71)
theorem ok_A10:jax Tryz.prog A10:=jak (jak (jak (jak jan pk72) pk20) pk70) pk71
theorem fn22:Fn1 Tryz.prog 22 Tryz.f22:= .m Tryz.func22 (by kernel_rfl)
def m22:List (List Value×Value):=[([.agg ⟨[.int .i64 (-150),.string ⟨#[]⟩]⟩,.agg ⟨[.int .i64 1,.int .i64 4,.int .i64 2,.bool false,.string ⟨#[]⟩]⟩],.int .i64 0),([.agg ⟨[.int .i64 0,.string ⟨#[49,50,120]⟩]⟩,.agg ⟨[.int .i64 3,.int .i64 3,.int .i64 0,.bool false,.string ⟨#[]⟩]⟩],.int .i64 0),([.agg ⟨[.int .i64 1,.string ⟨#[]⟩]⟩,.agg ⟨[.int .i64 2,.int .i64 15,.int .i64 0,.bool false,.string ⟨#[]⟩]⟩],.int .i64 0),([.agg ⟨[.int .i64 0,.string ⟨#[49,48,49]⟩]⟩,.agg ⟨[.int .i64 4,.int .i64 3,.int .i64 0,.bool false,.string ⟨#[]⟩]⟩],.int .i64 0),([.agg ⟨[.int .i64 123,.string ⟨#[]⟩]⟩,.agg ⟨[.int .i64 1,.int .i64 3,.int .i64 1,.bool false,.string ⟨#[]⟩]⟩],.int .i64 0),([.agg ⟨[.int .i64 1234,.string ⟨#[]⟩]⟩,.agg ⟨[.int .i64 1,.int .i64 4,.int .i64 0,.bool false,.string ⟨#[]⟩]⟩],.int .i64 0),([.agg ⟨[.int .i64 0,.string ⟨#[97,49,49]⟩]⟩,.agg ⟨[.int .i64 3,.int .i64 3,.int .i64 0,.bool false,.string ⟨#[]⟩]⟩],.int .i64 0),([.agg ⟨[.int .i64 0,.string ⟨#[50]⟩]⟩,.agg ⟨[.int .i64 4,.int .i64 1,.int .i64 0,.bool false,.string ⟨#[]⟩]⟩],.int .i64 6)]
theorem pk22:jap Tryz.prog 22 (memo m22):=jaz [] ok_A10 hmix fn22 jai (by kernel_rfl) (by kernel_rfl)
def A11:Env:=(Env.nil.add 154 (sp2 s154)).add 131 (sp2 s131)
theorem ok_A11:jax Tryz.prog A11:=jak (jak jan ok154) ok131
theorem fn77:Fn1 Tryz.prog 77 Tryz.f77:= .m Tryz.func77 (by kernel_rfl)
def m77:List (List Value×Value):=[([.bool true,.string ⟨#[48,48,49,50,53,48]⟩,.int .i64 2],.agg ⟨[.bool true,.string ⟨#[49,50,53]⟩,.int .i64 1]⟩),([.bool false,.string ⟨#[49,50,48,48]⟩,.int .i64 0],.agg ⟨[.bool false,.string ⟨#[49,50]⟩,.int .i64 (-2)]⟩),([.bool false,.string ⟨#[49,50,51]⟩,.int .i64 1],.agg ⟨[.bool false,.string ⟨#[49,50,51]⟩,.int .i64 1]⟩),([.bool false,.string ⟨#[49,50,51,52]⟩,.int .i64 0],.agg ⟨[.bool false,.string ⟨#[49,50,51,52]⟩,.int .i64 0]⟩)]
theorem pk77:jap Tryz.prog 77 (memo m77):=jaz [] ok_A11 hmix fn77 jai (by kernel_rfl) (by kernel_rfl)
def A12:Env:=Env.nil.add 55 (sp2 s55)
theorem ok_A12:jax Tryz.prog A12:=jak jan ok55
theorem fn84:Fn1 Tryz.prog 84 Tryz.f84:= .m Tryz.func84 (by kernel_rfl)
def m84:List (List Value×Value):=[([.agg ⟨[.bool false,.string ⟨#[49,50,51,52,53]⟩,.int .i64 2]⟩],.bool true),([.agg ⟨[.bool false,.string ⟨#[49,50,51]⟩,.int .i64 1]⟩],.bool true),([.agg ⟨[.bool false,.string ⟨#[49,50,51,52]⟩,.int .i64 0]⟩],.bool true)]
theorem pk84:jap Tryz.prog 84 (memo m84):=jaz [] ok_A12 hmix fn84 jai (by kernel_rfl) (by kernel_rfl)
def A13:Env:=(Env.nil.add 154 (sp2 s154)).add 30 (sp2 s30)
theorem ok_A13:jax Tryz.prog A13:=jak (jak jan ok154) ok30
theorem fn86:Fn1 Tryz.prog 86 Tryz.f86:= .m Tryz.func86 (by kernel_rfl)
def m86:List (List Value×Value):=[([.agg ⟨[.bool false,.string ⟨#[49,50,51,52,53]⟩,.int .i64 2]⟩,.int .i64 1],.string ⟨#[49,50,51,52]⟩),([.agg ⟨[.bool false,.string ⟨#[49,50,51]⟩,.int .i64 1]⟩,.int .i64 2],.string ⟨#[49,50,51,48]⟩),([.agg ⟨[.bool false,.string ⟨#[49,50,51,52]⟩,.int .i64 0]⟩,.int .i64 0],.string ⟨#[49,50,51,52]⟩)]
theorem pk86:jap Tryz.prog 86 (memo m86):=jaz [] ok_A13 hmix fn86 jai (by kernel_rfl) (by kernel_rfl)
def A14:Env:=((Env.nil.add 85 (sp1 Cx.s85)).add 84 (memo m84)).add 86 (memo m86)
theorem ok_A14:jax Tryz.prog A14:=jak (jak (jak jan (jc9 Cx.ok85)) pk84) pk86
theorem fn26:Fn1 Tryz.prog 26 Tryz.f26:= .m Tryz.func26 (by kernel_rfl)
def m26:List (List Value×Value):=[([.agg ⟨[.bool false,.string ⟨#[49,50,51,52,53]⟩,.int .i64 2]⟩,.agg ⟨[.int .i64 1,.int .i64 3,.int .i64 1,.bool false,.string ⟨#[]⟩]⟩],.tuple ⟨[.agg ⟨[.int .i64 234,.string ⟨#[]⟩]⟩,.int .i64 1,.int .i64 0]⟩),([.agg ⟨[.bool false,.string ⟨#[49,50,51]⟩,.int .i64 1]⟩,.agg ⟨[.int .i64 1,.int .i64 5,.int .i64 2,.bool false,.string ⟨#[]⟩]⟩],.tuple ⟨[.agg ⟨[.int .i64 1230,.string ⟨#[]⟩]⟩,.int .i64 0,.int .i64 0]⟩),([.agg ⟨[.bool false,.string ⟨#[49,50,51,52]⟩,.int .i64 0]⟩,.agg ⟨[.int .i64 1,.int .i64 3,.int .i64 0,.bool false,.string ⟨#[]⟩]⟩],.tuple ⟨[.agg ⟨[.int .i64 234,.string ⟨#[]⟩]⟩,.int .i64 1,.int .i64 0]⟩)]
theorem pk26:jap Tryz.prog 26 (memo m26):=jaz [] ok_A14 hmix fn26 jai (by kernel_rfl) (by kernel_rfl)
def A15:Env:=Env.nil.add 59 (memo m59)
theorem ok_A15:jax Tryz.prog A15:=jak jan pk59
theorem fn97:Fn1 Tryz.prog 97 Tryz.f97:= .m Tryz.func97 (by kernel_rfl)
def m97:List (List Value×Value):=[([.agg ⟨[.int .i64 (-150),.string ⟨#[]⟩]⟩,.agg ⟨[.int .i64 1,.int .i64 4,.int .i64 2,.bool false,.string ⟨#[]⟩]⟩],.iface 174 (.agg ⟨[.int .i64 (-150),.int .i64 1,.int .i64 4,.int .i64 2,.bool false,.string ⟨#[]⟩]⟩)),([.agg ⟨[.int .i64 0,.string ⟨#[49,50,120]⟩]⟩,.agg ⟨[.int .i64 3,.int .i64 3,.int .i64 0,.bool false,.string ⟨#[]⟩]⟩],.iface 178 (.string ⟨#[49,50,120]⟩)),([.agg ⟨[.int .i64 1,.string ⟨#[]⟩]⟩,.agg ⟨[.int .i64 2,.int .i64 15,.int .i64 0,.bool false,.string ⟨#[]⟩]⟩],.iface 174 (.agg ⟨[.int .i64 1,.int .i64 2,.int .i64 15,.int .i64 0,.bool false,.string ⟨#[]⟩]⟩)),([.agg ⟨[.int .i64 0,.string ⟨#[49,48,49]⟩]⟩,.agg ⟨[.int .i64 4,.int .i64 3,.int .i64 0,.bool false,.string ⟨#[]⟩]⟩],.iface 175 (.string ⟨#[49,48,49]⟩)),([.agg ⟨[.int .i64 123,.string ⟨#[]⟩]⟩,.agg ⟨[.int .i64 1,.int .i64 3,.int .i64 1,.bool false,.string ⟨#[]⟩]⟩],.iface 174 (.agg ⟨[.int .i64 123,.int .i64 1,.int .i64 3,.int .i64 1,.bool false,.string ⟨#[]⟩]⟩)),([.agg ⟨[.int .i64 1234,.string ⟨#[]⟩]⟩,.agg ⟨[.int .i64 1,.int .i64 4,.int .i64 0,.bool false,.string ⟨#[]⟩]⟩],.iface 174 (.agg ⟨[.int .i64 1234,.int .i64 1,.int .i64 4,.int .i64 0,.bool false,.string ⟨#[]⟩]⟩)),([.agg ⟨[.int .i64 0,.string ⟨#[97,49,49]⟩]⟩,.agg ⟨[.int .i64 3,.int .i64 3,.int .i64 0,.bool false,.string ⟨#[]⟩]⟩],.iface 178 (.string ⟨#[97,49,49]⟩))]
theorem pk97:jap Tryz.prog 97 (memo m97):=jaz [] ok_A15 hmix fn97 jai (by kernel_rfl) (by kernel_rfl)
def A16:Env:=Env.nil
theorem ok_A16:jax Tryz.prog A16:=jan
theorem fn112:Fn1 Tryz.prog 112 Tryz.f112:= .m Tryz.func112 (by kernel_rfl)
def m112:List (List Value×Value):=[([.agg ⟨[.int .i64 1,.int .i64 4,.int .i64 2,.bool false,.string ⟨#[]⟩]⟩],.int .i64 7),([.agg ⟨[.int .i64 1,.int .i64 3,.int .i64 1,.bool false,.string ⟨#[]⟩]⟩],.int .i64 6)]
theorem pk112:jap Tryz.prog 112 (memo m112):=jaz [] ok_A16 hmix fn112 jai (by kernel_rfl) (by kernel_rfl)
def A17:Env:=((Env.nil.add 30 (sp2 s30)).add 29 (memo m29)).add 112 (memo m112)
theorem ok_A17:jax Tryz.prog A17:=jak (jak (jak jan ok30) pk29) pk112
theorem fn321:Fn1 Tryz.prog 321 Tryz.f321:= .m Tryz.func321 (by kernel_rfl)
def m321:List (List Value×Value):=[([.agg ⟨[.int .i64 (-150),.int .i64 1,.int .i64 4,.int .i64 2,.bool false,.string ⟨#[]⟩]⟩],.string ⟨#[32,32,45,49,46,53,48]⟩)]
theorem pk321:jap Tryz.prog 321 (memo m321):=jaz [] ok_A17 hmix fn321 jai (by kernel_rfl) (by kernel_rfl)
def A18:Env:=Env.nil
theorem ok_A18:jax Tryz.prog A18:=jan
theorem fn322:Fn1 Tryz.prog 322 Tryz.f322:= .m Tryz.func322 (by kernel_rfl)
def m322:List (List Value×Value):=[([.string ⟨#[49,48,49]⟩],.string ⟨#[49,48,49]⟩)]
theorem pk322:jap Tryz.prog 322 (memo m322):=jaz [] ok_A18 hmix fn322 jai (by kernel_rfl) (by kernel_rfl)
def A19:Env:=Env.nil
theorem ok_A19:jax Tryz.prog A19:=jan
theorem fn324:Fn1 Tryz.prog 324 Tryz.f324:= .m Tryz.func324 (by kernel_rfl)
def m324:List (List Value×Value):=[([.string ⟨#[49,50,120]⟩],.string ⟨#[49,50,120]⟩),([.string ⟨#[97,49,49]⟩],.string ⟨#[97,49,49]⟩)]
theorem pk324:jap Tryz.prog 324 (memo m324):=jaz [] ok_A19 hmix fn324 jai (by kernel_rfl) (by kernel_rfl)
def A20:Env:=((((Env.nil.add 22 (memo m22)).add 97 (memo m97)).add 321 (memo m321)).add 322 (memo m322)).add 324 (memo m324)
theorem ok_A20:jax Tryz.prog A20:=jak (jak (jak (jak (jak jan pk22) pk97) pk321) pk322) pk324
theorem fn32:Fn1 Tryz.prog 32 Tryz.f32:= .m Tryz.func32 (by kernel_rfl)
def m32:List (List Value×Value):=[([.agg ⟨[.int .i64 (-150),.string ⟨#[]⟩]⟩,.agg ⟨[.int .i64 1,.int .i64 4,.int .i64 2,.bool false,.string ⟨#[]⟩]⟩],.tuple ⟨[.string ⟨#[32,32,45,49,46,53,48]⟩,.int .i64 0]⟩)]
theorem pk32:jap Tryz.prog 32 (memo m32):=jaz [] ok_A20 hmix fn32 jai (by kernel_rfl) (by kernel_rfl)
def A21:Env:=Env.nil
theorem ok_A21:jax Tryz.prog A21:=jan
theorem fn153:Fn1 Tryz.prog 153 Tryz.f153:= .m Tryz.func153 (by kernel_rfl)
def A22:Env:=Env.nil
theorem ok_A22:jax Tryz.prog A22:=jan
theorem fn214:Fn1 Tryz.prog 214 Tryz.f214:= .m Tryz.func214 (by kernel_rfl)
def A23:Env:=Env.nil
theorem ok_A23:jax Tryz.prog A23:=jan
theorem fn215:Fn1 Tryz.prog 215 Tryz.f215:= .m Tryz.func215 (by kernel_rfl)
def A24:Env:=Env.nil
theorem ok_A24:jax Tryz.prog A24:=jan
theorem fn76:Fn1 Tryz.prog 76 Tryz.f76:= .m Tryz.func76 (by kernel_rfl)
def A25:Env:=((((Env.nil.add 152 (sp1 Cx.s152)).add 213 (sp1 Cx.s213)).addG 153 (inlQ Tryz.prog A21 noL Tryz.f153)).addG 214 (inlQ Tryz.prog A22 noL Tryz.f214)).addG 215 (inlQ Tryz.prog A23 noL Tryz.f215)
theorem ok_A25:jax Tryz.prog A25:=jam (jam (jam (jak (jak jan (jc9 Cx.ok152)) (jc9 Cx.ok213)) (jar ok_A21 hmix fn153 jai)) (jar ok_A22 hmix fn214 jai)) (jar ok_A23 hmix fn215 jai)
theorem fn212:Fn1 Tryz.prog 212 Tryz.f212:= .m Tryz.func212 (by kernel_rfl)
def A26:Env:=(((Env.nil.add 152 (sp1 Cx.s152)).add 213 (sp1 Cx.s213)).addG 214 (inlQ Tryz.prog A22 noL Tryz.f214)).addG 215 (inlQ Tryz.prog A23 noL Tryz.f215)
theorem ok_A26:jax Tryz.prog A26:=jam (jam (jak (jak jan (jc9 Cx.ok152)) (jc9 Cx.ok213)) (jar ok_A22 hmix fn214 jai)) (jar ok_A23 hmix fn215 jai)
theorem fn263:Fn1 Tryz.prog 263 Tryz.f263:= .m Tryz.func263 (by kernel_rfl)
def A27:Env:=(Env.nil.add 152 (sp1 Cx.s152)).addG 215 (inlQ Tryz.prog A23 noL Tryz.f215)
theorem ok_A27:jax Tryz.prog A27:=jam (jak jan (jc9 Cx.ok152)) (jar ok_A23 hmix fn215 jai)
theorem fn264:Fn1 Tryz.prog 264 Tryz.f264:= .m Tryz.func264 (by kernel_rfl)
def A28:Env:=((((((((Env.nil.add 152 (sp1 Cx.s152)).add 321 (memo m321)).add 322 (memo m322)).add 324 (memo m324)).addG 153 (inlQ Tryz.prog A21 noL Tryz.f153)).addG 76 (inlQ Tryz.prog A24 noL Tryz.f76)).addG 212 (inlQ Tryz.prog A25 noL Tryz.f212)).addG 263 (inlQ Tryz.prog A26 noL Tryz.f263)).addG 264 (inlQ Tryz.prog A27 noL Tryz.f264)
theorem ok_A28:jax Tryz.prog A28:=jam (jam (jam (jam (jam (jak (jak (jak (jak jan (jc9 Cx.ok152)) pk321) pk322) pk324) (jar ok_A21 hmix fn153 jai)) (jar ok_A24 hmix fn76 jai)) (jar ok_A25 hmix fn212 jai)) (jar ok_A26 hmix fn263 jai)) (jar ok_A27 hmix fn264 jai)
theorem fn151:Fn1 Tryz.prog 151 Tryz.f151:= .m Tryz.func151 (by kernel_rfl)
def A29:Env:=(((((((((Env.nil.add 55 (sp2 s55)).add 77 (memo m77)).add 321 (memo m321)).add 322 (memo m322)).add 324 (memo m324)).addG 76 (inlQ Tryz.prog A24 noL Tryz.f76)).addG 212 (inlQ Tryz.prog A25 noL Tryz.f212)).addG 263 (inlQ Tryz.prog A26 noL Tryz.f263)).addG 264 (inlQ Tryz.prog A27 noL Tryz.f264)).addG 151 (inlQ Tryz.prog A28 noL Tryz.f151)
theorem ok_A29:jax Tryz.prog A29:=jam (jam (jam (jam (jam (jak (jak (jak (jak (jak jan ok55) pk77) pk321) pk322) pk324) (jar ok_A24 hmix fn76 jai)) (jar ok_A25 hmix fn212 jai)) (jar ok_A26 hmix fn263 jai)) (jar ok_A27 hmix fn264 jai)) (jar ok_A28 hmix fn151 jai)
theorem fn24:Fn1 Tryz.prog 24 Tryz.f24:= .m Tryz.func24 (by kernel_rfl)
def m24:List (List Value×Value):=[([.string ⟨#[32,32,45,48,48,49,50,46,53,48,32]⟩],.tuple ⟨[.agg ⟨[.bool true,.string ⟨#[49,50,53]⟩,.int .i64 1]⟩,.bool true]⟩),([.string ⟨#[49,50,48,48]⟩],.tuple ⟨[.agg ⟨[.bool false,.string ⟨#[49,50]⟩,.int .i64 (-2)]⟩,.bool true]⟩),([.string ⟨#[49,69,49,50,51]⟩],.tuple ⟨[.agg ⟨[.bool false,.string ⟨#[]⟩,.int .i64 0]⟩,.bool false]⟩),([.string ⟨#[49,50,120]⟩],.tuple ⟨[.agg ⟨[.bool false,.string ⟨#[]⟩,.int .i64 0]⟩,.bool false]⟩)]
theorem pk24:jap Tryz.prog 24 (memo m24):=jaz [] ok_A29 hmix fn24 jai (by kernel_rfl) (by kernel_rfl)
def A30:Env:=(((((((((Env.nil.add 29 (memo m29)).add 77 (memo m77)).add 321 (memo m321)).add 322 (memo m322)).add 324 (memo m324)).addG 212 (inlQ Tryz.prog A25 noL Tryz.f212)).addG 263 (inlQ Tryz.prog A26 noL Tryz.f263)).addG 264 (inlQ Tryz.prog A27 noL Tryz.f264)).addG 151 (inlQ Tryz.prog A28 noL Tryz.f151)).add 24 (memo m24)
theorem ok_A30:jax Tryz.prog A30:=jak (jam (jam (jam (jam (jak (jak (jak (jak (jak jan pk29) pk77) pk321) pk322) pk324) (jar ok_A25 hmix fn212 jai)) (jar ok_A26 hmix fn263 jai)) (jar ok_A27 hmix fn264 jai)) (jar ok_A28 hmix fn151 jai)) pk24
theorem fn222:Fn1 Tryz.prog 222 Tryz.f222:= .m Tryz.func222 (by kernel_rfl)
def m222:List (List Value×Value):=[([.iface 178 (.string ⟨#[49,50,120]⟩)],.tuple ⟨[.agg ⟨[.bool false,.string ⟨#[]⟩,.int .i64 0]⟩,.iface 119 (.agg ⟨[.string ⟨#[49,50,120]⟩]⟩)]⟩),([.iface 174 (.agg ⟨[.int .i64 123,.int .i64 1,.int .i64 3,.int .i64 1,.bool false,.string ⟨#[]⟩]⟩)],.tuple ⟨[.agg ⟨[.bool false,.string ⟨#[49,50,51]⟩,.int .i64 1]⟩,.nilIface]⟩),([.iface 174 (.agg ⟨[.int .i64 1234,.int .i64 1,.int .i64 4,.int .i64 0,.bool false,.string ⟨#[]⟩]⟩)],.tuple ⟨[.agg ⟨[.bool false,.string ⟨#[49,50,51,52]⟩,.int .i64 0]⟩,.nilIface]⟩)]
theorem pk222:jap Tryz.prog 222 (memo m222):=jaz [] ok_A30 hmix fn222 jai (by kernel_rfl) (by kernel_rfl)
def A31:Env:=(Env.nil.add 26 (memo m26)).add 222 (memo m222)
theorem ok_A31:jax Tryz.prog A31:=jak (jak jan pk26) pk222
theorem fn168:Fn1 Tryz.prog 168 Tryz.f168:= .m Tryz.func168 (by kernel_rfl)
def m168:List (List Value×Value):=[([.iface 178 (.string ⟨#[49,50,120]⟩),.agg ⟨[.int .i64 1,.int .i64 3,.int .i64 0,.bool false,.string ⟨#[]⟩]⟩],.tuple ⟨[.agg ⟨[.int .i64 0,.string ⟨#[]⟩]⟩,.int .i64 0,.iface 119 (.agg ⟨[.string ⟨#[49,50,120]⟩]⟩)]⟩),([.iface 174 (.agg ⟨[.int .i64 123,.int .i64 1,.int .i64 3,.int .i64 1,.bool false,.string ⟨#[]⟩]⟩),.agg ⟨[.int .i64 1,.int .i64 5,.int .i64 2,.bool false,.string ⟨#[]⟩]⟩],.tuple ⟨[.agg ⟨[.int .i64 1230,.string ⟨#[]⟩]⟩,.int .i64 0,.nilIface]⟩),([.iface 174 (.agg ⟨[.int .i64 1234,.int .i64 1,.int .i64 4,.int .i64 0,.bool false,.string ⟨#[]⟩]⟩),.agg ⟨[.int .i64 1,.int .i64 3,.int .i64 0,.bool false,.string ⟨#[]⟩]⟩],.tuple ⟨[.agg ⟨[.int .i64 234,.string ⟨#[]⟩]⟩,.int .i64 1,.nilIface]⟩)]
theorem pk168:jap Tryz.prog 168 (memo m168):=jaz [] ok_A31 hmix fn168 jai (by kernel_rfl) (by kernel_rfl)
def A32:Env:=Env.nil
theorem ok_A32:jax Tryz.prog A32:=jan
theorem fn115:Fn1 Tryz.prog 115 Tryz.f115:= .m Tryz.func115 (by kernel_rfl)
def m115:List (List Value×Value):=[([.agg ⟨[.int .i64 2,.int .i64 15,.int .i64 0,.bool false,.string ⟨#[]⟩]⟩],.int .i64 15),([.agg ⟨[.int .i64 1,.int .i64 3,.int .i64 0,.bool false,.string ⟨#[]⟩]⟩],.int .i64 10)]
theorem pk115:jap Tryz.prog 115 (memo m115):=jaz [] ok_A32 hmix fn115 jai (by kernel_rfl) (by kernel_rfl)
def A33:Env:=Env.nil
theorem ok_A33:jax Tryz.prog A33:=jan
theorem fn223:Fn1 Tryz.prog 223 Tryz.f223:= .m Tryz.func223 (by kernel_rfl)
def m223:List (List Value×Value):=[([.int .i64 1,.int .i64 15],.string ⟨#[48,48,48,48,48,48,48,48,48,48,48,48,48,48,49]⟩)]
theorem pk223:jap Tryz.prog 223 (memo m223):=jaz [] ok_A33 hmix fn223 jai (by kernel_rfl) (by kernel_rfl)
def A34:Env:=Env.nil.add 30 (sp2 s30)
theorem ok_A34:jax Tryz.prog A34:=jak jan ok30
theorem fn169:Fn1 Tryz.prog 169 Tryz.f169:= .m Tryz.func169 (by kernel_rfl)
def m169:List (List Value×Value):=[([.string ⟨#[48,48,48,48,48,48,48,48,48,48,48,48,48,48,49]⟩,.int .i64 1,.string ⟨#[48]⟩],.string ⟨#[48]⟩),([.string ⟨#[49,48,49]⟩,.int .i64 5,.string ⟨#[32]⟩],.string ⟨#[49,48,49,32,32]⟩),([.string ⟨#[97,49,49]⟩,.int .i64 3,.string ⟨#[32]⟩],.string ⟨#[97,49,49]⟩)]
theorem pk169:jap Tryz.prog 169 (memo m169):=jaz [] ok_A34 hmix fn169 jai (by kernel_rfl) (by kernel_rfl)
def A35:Env:=(((((((((Env.nil.add 71 (memo m71)).add 321 (memo m321)).add 322 (memo m322)).add 324 (memo m324)).addG 212 (inlQ Tryz.prog A25 noL Tryz.f212)).addG 263 (inlQ Tryz.prog A26 noL Tryz.f263)).addG 264 (inlQ Tryz.prog A27 noL Tryz.f264)).addG 151 (inlQ Tryz.prog A28 noL Tryz.f151)).add 115 (memo m115)).add 223 (memo m223)
theorem ok_A35:jax Tryz.prog A35:=jak (jak (jam (jam (jam (jam (jak (jak (jak (jak jan pk71) pk321) pk322) pk324) (jar ok_A25 hmix fn212 jai)) (jar ok_A26 hmix fn263 jai)) (jar ok_A27 hmix fn264 jai)) (jar ok_A28 hmix fn151 jai)) pk115) pk223
theorem fn170:Fn1 Tryz.prog 170 Tryz.f170:= .m Tryz.func170 (by kernel_rfl)
def m170:List (List Value×Value):=[([.iface 174 (.agg ⟨[.int .i64 1,.int .i64 2,.int .i64 15,.int .i64 0,.bool false,.string ⟨#[]⟩]⟩)],.tuple ⟨[.string ⟨#[48,48,48,48,48,48,48,48,48,48,48,48,48,48,49]⟩,.nilIface]⟩)]
theorem pk170:jap Tryz.prog 170 (memo m170):=jaz [] ok_A35 hmix fn170 jai (by kernel_rfl) (by kernel_rfl)
def A36:Env:=(((((((((((((Env.nil.add 61 (memo m61)).add 59 (memo m59)).add 171 (memo m171)).add 72 (memo m72)).add 321 (memo m321)).add 322 (memo m322)).add 324 (memo m324)).addG 212 (inlQ Tryz.prog A25 noL Tryz.f212)).addG 263 (inlQ Tryz.prog A26 noL Tryz.f263)).addG 264 (inlQ Tryz.prog A27 noL Tryz.f264)).addG 151 (inlQ Tryz.prog A28 noL Tryz.f151)).add 168 (memo m168)).add 169 (memo m169)).add 170 (memo m170)
theorem ok_A36:jax Tryz.prog A36:=jak (jak (jak (jam (jam (jam (jam (jak (jak (jak (jak (jak (jak (jak jan pk61) pk59) pk171) pk72) pk321) pk322) pk324) (jar ok_A25 hmix fn212 jai)) (jar ok_A26 hmix fn263 jai)) (jar ok_A27 hmix fn264 jai)) (jar ok_A28 hmix fn151 jai)) pk168) pk169) pk170
theorem fn99:Fn1 Tryz.prog 99 Tryz.f99:= .m Tryz.func99 (by kernel_rfl)
def m99:List (List Value×Value):=[([.iface 178 (.string ⟨#[49,50,120]⟩),.agg ⟨[.int .i64 1,.int .i64 3,.int .i64 0,.bool false,.string ⟨#[]⟩]⟩],.tuple ⟨[.agg ⟨[.int .i64 0,.string ⟨#[]⟩]⟩,.int .i64 0,.iface 119 (.agg ⟨[.string ⟨#[49,50,120]⟩]⟩)]⟩),([.iface 174 (.agg ⟨[.int .i64 1,.int .i64 2,.int .i64 15,.int .i64 0,.bool false,.string ⟨#[]⟩]⟩),.agg ⟨[.int .i64 4,.int .i64 1,.int .i64 0,.bool false,.string ⟨#[]⟩]⟩],.tuple ⟨[.agg ⟨[.int .i64 0,.string ⟨#[48]⟩]⟩,.int .i64 0,.nilIface]⟩),([.iface 175 (.string ⟨#[49,48,49]⟩),.agg ⟨[.int .i64 3,.int .i64 5,.int .i64 0,.bool false,.string ⟨#[]⟩]⟩],.tuple ⟨[.agg ⟨[.int .i64 0,.string ⟨#[49,48,49,32,32]⟩]⟩,.int .i64 0,.nilIface]⟩),([.iface 174 (.agg ⟨[.int .i64 123,.int .i64 1,.int .i64 3,.int .i64 1,.bool false,.string ⟨#[]⟩]⟩),.agg ⟨[.int .i64 5,.int .i64 0,.int .i64 0,.bool false,.string ⟨#[90,90,57,86,46,57,57]⟩]⟩],.tuple ⟨[.agg ⟨[.int .i64 0,.string ⟨#[32,49,50,46,51,48]⟩]⟩,.int .i64 0,.nilIface]⟩),([.iface 174 (.agg ⟨[.int .i64 1234,.int .i64 1,.int .i64 4,.int .i64 0,.bool false,.string ⟨#[]⟩]⟩),.agg ⟨[.int .i64 5,.int .i64 0,.int .i64 0,.bool false,.string ⟨#[57,57,57]⟩]⟩],.tuple ⟨[.agg ⟨[.int .i64 0,.string ⟨#[50,51,52]⟩]⟩,.int .i64 1,.nilIface]⟩),([.iface 178 (.string ⟨#[97,49,49]⟩),.agg ⟨[.int .i64 5,.int .i64 0,.int .i64 0,.bool false,.string ⟨#[65,65,57]⟩]⟩],.tuple ⟨[.agg ⟨[.int .i64 0,.string ⟨#[]⟩]⟩,.int .i64 0,.iface 119 (.agg ⟨[.string ⟨#[97,49,49]⟩]⟩)]⟩)]
theorem pk99:jap Tryz.prog 99 (memo m99):=jaz [0,0,0,0,0,2] ok_A36 hmix fn99 jai (by kernel_rfl) (by kernel_rfl)
def A37:Env:=(Env.nil.add 30 (sp2 s30)).add 176 (memo m176)
theorem ok_A37:jax Tryz.prog A37:=jak (jak jan ok30) pk176
theorem fn101:Fn1 Tryz.prog 101 Tryz.f101:= .m Tryz.func101 (by kernel_rfl)
def m101:List (List Value×Value):=[([.agg ⟨[.int .i64 1,.int .i64 3,.int .i64 0,.bool false,.string ⟨#[]⟩]⟩],.agg ⟨[.int .i64 0,.string ⟨#[]⟩]⟩),([.agg ⟨[.int .i64 5,.int .i64 0,.int .i64 0,.bool false,.string ⟨#[65,65,57]⟩]⟩],.agg ⟨[.int .i64 0,.string ⟨#[32,32,32]⟩]⟩)]
theorem pk101:jap Tryz.prog 101 (memo m101):=jaz [] ok_A37 hmix fn101 jai (by kernel_rfl) (by kernel_rfl)
def A38:Env:=(((((Env.nil.addG 100 h100).add 20 (memo m20)).add 22 (memo m22)).add 97 (memo m97)).add 99 (memo m99)).add 101 (memo m101)
theorem ok_A38:jax Tryz.prog A38:=jak (jak (jak (jak (jak (jam jan genC) pk20) pk22) pk97) pk99) pk101
theorem fn34:Fn1 Tryz.prog 34 Tryz.f34:= .m Tryz.func34 (by kernel_rfl)
def m34:List (List Value×Value):=[([.agg ⟨[.int .i64 0,.string ⟨#[49,50,120]⟩]⟩,.agg ⟨[.int .i64 3,.int .i64 3,.int .i64 0,.bool false,.string ⟨#[]⟩]⟩,.agg ⟨[.int .i64 1,.int .i64 3,.int .i64 0,.bool false,.string ⟨#[]⟩]⟩],.tuple ⟨[.agg ⟨[.int .i64 0,.string ⟨#[]⟩]⟩,.int .i64 4,.int .i64 0]⟩),([.agg ⟨[.int .i64 1,.string ⟨#[]⟩]⟩,.agg ⟨[.int .i64 2,.int .i64 15,.int .i64 0,.bool false,.string ⟨#[]⟩]⟩,.agg ⟨[.int .i64 4,.int .i64 1,.int .i64 0,.bool false,.string ⟨#[]⟩]⟩],.tuple ⟨[.agg ⟨[.int .i64 0,.string ⟨#[48]⟩]⟩,.int .i64 0,.int .i64 0]⟩),([.agg ⟨[.int .i64 0,.string ⟨#[49,48,49]⟩]⟩,.agg ⟨[.int .i64 4,.int .i64 3,.int .i64 0,.bool false,.string ⟨#[]⟩]⟩,.agg ⟨[.int .i64 3,.int .i64 5,.int .i64 0,.bool false,.string ⟨#[]⟩]⟩],.tuple ⟨[.agg ⟨[.int .i64 0,.string ⟨#[49,48,49,32,32]⟩]⟩,.int .i64 0,.int .i64 0]⟩),([.agg ⟨[.int .i64 123,.string ⟨#[]⟩]⟩,.agg ⟨[.int .i64 1,.int .i64 3,.int .i64 1,.bool false,.string ⟨#[]⟩]⟩,.agg ⟨[.int .i64 5,.int .i64 0,.int .i64 0,.bool false,.string ⟨#[90,90,57,86,46,57,57]⟩]⟩],.tuple ⟨[.agg ⟨[.int .i64 0,.string ⟨#[32,49,50,46,51,48]⟩]⟩,.int .i64 0,.int .i64 0]⟩),([.agg ⟨[.int .i64 1234,.string ⟨#[]⟩]⟩,.agg ⟨[.int .i64 1,.int .i64 4,.int .i64 0,.bool false,.string ⟨#[]⟩]⟩,.agg ⟨[.int .i64 5,.int .i64 0,.int .i64 0,.bool false,.string ⟨#[57,57,57]⟩]⟩],.tuple ⟨[.agg ⟨[.int .i64 0,.string ⟨#[50,51,52]⟩]⟩,.int .i64 1,.int .i64 0]⟩),([.agg ⟨[.int .i64 0,.string ⟨#[97,49,49]⟩]⟩,.agg ⟨[.int .i64 3,.int .i64 3,.int .i64 0,.bool false,.string ⟨#[]⟩]⟩,.agg ⟨[.int .i64 5,.int .i64 0,.int .i64 0,.bool false,.string ⟨#[65,65,57]⟩]⟩],.tuple ⟨[.agg ⟨[.int .i64 0,.string ⟨#[32,32,32]⟩]⟩,.int .i64 4,.int .i64 0]⟩)]
theorem pk34:jap Tryz.prog 34 (memo m34):=jaz [] ok_A38 hmix fn34 jai (by kernel_rfl) (by kernel_rfl)
def A39:Env:=Env.nil.add 34 (memo m34)
theorem ok_A39:jax Tryz.prog A39:=jak jan pk34
theorem fn48:Fn1 Tryz.prog 48 Tryz.f48:= .m Tryz.func48 (by kernel_rfl)
def m48:List (List Value×Value):=[([.agg ⟨[.int .i64 0,.string ⟨#[49,50,120]⟩]⟩,.agg ⟨[.int .i64 3,.int .i64 3,.int .i64 0,.bool false,.string ⟨#[]⟩]⟩,.agg ⟨[.int .i64 1,.int .i64 3,.int .i64 0,.bool false,.string ⟨#[]⟩]⟩,.agg ⟨[.int .i64 0,.string ⟨#[]⟩]⟩,.int .i64 4],.bool true),([.agg ⟨[.int .i64 1,.string ⟨#[]⟩]⟩,.agg ⟨[.int .i64 2,.int .i64 15,.int .i64 0,.bool false,.string ⟨#[]⟩]⟩,.agg ⟨[.int .i64 4,.int .i64 1,.int .i64 0,.bool false,.string ⟨#[]⟩]⟩,.agg ⟨[.int .i64 0,.string ⟨#[48]⟩]⟩,.int .i64 0],.bool true),([.agg ⟨[.int .i64 0,.string ⟨#[49,48,49]⟩]⟩,.agg ⟨[.int .i64 4,.int .i64 3,.int .i64 0,.bool false,.string ⟨#[]⟩]⟩,.agg ⟨[.int .i64 3,.int .i64 5,.int .i64 0,.bool false,.string ⟨#[]⟩]⟩,.agg ⟨[.int .i64 0,.string ⟨#[49,48,49,32,32]⟩]⟩,.int .i64 0],.bool true),([.agg ⟨[.int .i64 123,.string ⟨#[]⟩]⟩,.agg ⟨[.int .i64 1,.int .i64 3,.int .i64 1,.bool false,.string ⟨#[]⟩]⟩,.agg ⟨[.int .i64 5,.int .i64 0,.int .i64 0,.bool false,.string ⟨#[90,90,57,86,46,57,57]⟩]⟩,.agg ⟨[.int .i64 0,.string ⟨#[32,49,50,46,51,48]⟩]⟩,.int .i64 0],.bool true),([.agg ⟨[.int .i64 1234,.string ⟨#[]⟩]⟩,.agg ⟨[.int .i64 1,.int .i64 4,.int .i64 0,.bool false,.string ⟨#[]⟩]⟩,.agg ⟨[.int .i64 5,.int .i64 0,.int .i64 0,.bool false,.string ⟨#[57,57,57]⟩]⟩,.agg ⟨[.int .i64 0,.string ⟨#[50,51,52]⟩]⟩,.int .i64 1],.bool true),([.agg ⟨[.int .i64 0,.string ⟨#[97,49,49]⟩]⟩,.agg ⟨[.int .i64 3,.int .i64 3,.int .i64 0,.bool false,.string ⟨#[]⟩]⟩,.agg ⟨[.int .i64 5,.int .i64 0,.int .i64 0,.bool false,.string ⟨#[65,65,57]⟩]⟩,.agg ⟨[.int .i64 0,.string ⟨#[32,32,32]⟩]⟩,.int .i64 4],.bool true)]
theorem pk48:jap Tryz.prog 48 (memo m48):=jaz [] ok_A39 hmix fn48 jai (by kernel_rfl) (by kernel_rfl)
def A40:Env:=Env.nil.add 20 (memo m20)
theorem ok_A40:jax Tryz.prog A40:=jak jan pk20
theorem fn108:Fn1 Tryz.prog 108 Tryz.f108:= .m Tryz.func108 (by kernel_rfl)
def m108:List (List Value×Value):=[([.agg ⟨[.int .i64 4,.int .i64 3,.int .i64 0,.bool false,.string ⟨#[]⟩]⟩],.int .i64 0),([.agg ⟨[.int .i64 1,.int .i64 3,.int .i64 1,.bool false,.string ⟨#[]⟩]⟩],.int .i64 0),([.agg ⟨[.int .i64 1,.int .i64 3,.int .i64 0,.bool false,.string ⟨#[]⟩]⟩],.int .i64 0),([.agg ⟨[.int .i64 2,.int .i64 15,.int .i64 0,.bool false,.string ⟨#[]⟩]⟩],.int .i64 0)]
theorem pk108:jap Tryz.prog 108 (memo m108):=jaz [] ok_A40 hmix fn108 jai (by kernel_rfl) (by kernel_rfl)
def A41:Env:=(((Env.nil.add 61 (memo m61)).add 59 (memo m59)).add 85 (sp1 Cx.s85)).add 108 (memo m108)
theorem ok_A41:jax Tryz.prog A41:=jak (jak (jak (jak jan pk61) pk59) (jc9 Cx.ok85)) pk108
theorem fn38:Fn1 Tryz.prog 38 Tryz.f38:= .m Tryz.func38 (by kernel_rfl)
def m38:List (List Value×Value):=[([.agg ⟨[.int .i64 4,.int .i64 3,.int .i64 0,.bool false,.string ⟨#[]⟩]⟩],.tuple ⟨[.agg ⟨[.int .i64 2,.int .i64 31,.int .i64 0,.bool false,.string ⟨#[]⟩]⟩,.int .i64 0]⟩),([.agg ⟨[.int .i64 1,.int .i64 3,.int .i64 1,.bool false,.string ⟨#[]⟩]⟩],.tuple ⟨[.agg ⟨[.int .i64 1,.int .i64 3,.int .i64 1,.bool false,.string ⟨#[]⟩]⟩,.int .i64 0]⟩),([.agg ⟨[.int .i64 2,.int .i64 15,.int .i64 0,.bool false,.string ⟨#[]⟩]⟩],.tuple ⟨[.agg ⟨[.int .i64 2,.int .i64 15,.int .i64 0,.bool false,.string ⟨#[]⟩]⟩,.int .i64 0]⟩)]
theorem pk38:jap Tryz.prog 38 (memo m38):=jaz [] ok_A41 hmix fn38 jai (by kernel_rfl) (by kernel_rfl)
def A42:Env:=((Env.nil.add 113 (memo m113)).add 112 (memo m112)).add 108 (memo m108)
theorem ok_A42:jax Tryz.prog A42:=jak (jak (jak jan pk113) pk112) pk108
theorem fn40:Fn1 Tryz.prog 40 Tryz.f40:= .m Tryz.func40 (by kernel_rfl)
def m40:List (List Value×Value):=[([.agg ⟨[.int .i64 1,.int .i64 3,.int .i64 1,.bool false,.string ⟨#[]⟩]⟩],.tuple ⟨[.agg ⟨[.int .i64 3,.int .i64 6,.int .i64 0,.bool false,.string ⟨#[]⟩]⟩,.int .i64 0]⟩)]
theorem pk40:jap Tryz.prog 40 (memo m40):=jaz [] ok_A42 hmix fn40 jai (by kernel_rfl) (by kernel_rfl)
def A43:Env:=(((Env.nil.add 61 (memo m61)).add 85 (sp1 Cx.s85)).add 115 (memo m115)).add 108 (memo m108)
theorem ok_A43:jax Tryz.prog A43:=jak (jak (jak (jak jan pk61) (jc9 Cx.ok85)) pk115) pk108
theorem fn42:Fn1 Tryz.prog 42 Tryz.f42:= .m Tryz.func42 (by kernel_rfl)
def m42:List (List Value×Value):=[([.agg ⟨[.int .i64 1,.int .i64 3,.int .i64 0,.bool false,.string ⟨#[]⟩]⟩],.tuple ⟨[.agg ⟨[.int .i64 4,.int .i64 10,.int .i64 0,.bool false,.string ⟨#[]⟩]⟩,.int .i64 0]⟩)]
theorem pk42:jap Tryz.prog 42 (memo m42):=jaz [] ok_A43 hmix fn42 jai (by kernel_rfl) (by kernel_rfl)
def A44:Env:=Env.nil.add 66 (sp1 Cx.s66)
theorem ok_A44:jax Tryz.prog A44:=jak jan (jc9 Cx.ok66)
theorem fn117:Fn1 Tryz.prog 117 Tryz.f117:= .m Tryz.func117 (by kernel_rfl)
def m117:List (List Value×Value):=[([.agg ⟨[.int .i64 1,.int .i64 3,.int .i64 1,.bool false,.string ⟨#[]⟩]⟩],.tuple ⟨[.agg ⟨[.int .i64 2,.int .i64 11,.int .i64 0,.bool false,.string ⟨#[]⟩]⟩,.int .i64 0]⟩)]
theorem pk117:jap Tryz.prog 117 (memo m117):=jaz [] ok_A44 hmix fn117 jai (by kernel_rfl) (by kernel_rfl)
def A45:Env:=Env.nil
theorem ok_A45:jax Tryz.prog A45:=jan
theorem fn53:Fn1 Tryz.prog 53 Tryz.f53:= .m Tryz.func53 (by kernel_rfl)
def m53:List (List Value×Value):=[([.int .i64 (-150)],.agg ⟨[.int .i64 (-150),.string ⟨#[]⟩]⟩),([.int .i64 0],.agg ⟨[.int .i64 0,.string ⟨#[]⟩]⟩),([.int .i64 1],.agg ⟨[.int .i64 1,.string ⟨#[]⟩]⟩),([.int .i64 123],.agg ⟨[.int .i64 123,.string ⟨#[]⟩]⟩),([.int .i64 1234],.agg ⟨[.int .i64 1234,.string ⟨#[]⟩]⟩),([.int .i64 234],.agg ⟨[.int .i64 234,.string ⟨#[]⟩]⟩)]
theorem pk53:jap Tryz.prog 53 (memo m53):=jaz [] ok_A45 hmix fn53 jai (by kernel_rfl) (by kernel_rfl)
def A46:Env:=Env.nil
theorem ok_A46:jax Tryz.prog A46:=jan
theorem fn65:Fn1 Tryz.prog 65 Tryz.f65:= .m Tryz.func65 (by kernel_rfl)
def m65:List (List Value×Value):=[([.int .i64 3,.int .i64 1],.agg ⟨[.int .i64 1,.int .i64 3,.int .i64 1,.bool false,.string ⟨#[]⟩]⟩),([.int .i64 4,.int .i64 2],.agg ⟨[.int .i64 1,.int .i64 4,.int .i64 2,.bool false,.string ⟨#[]⟩]⟩),([.int .i64 3,.int .i64 0],.agg ⟨[.int .i64 1,.int .i64 3,.int .i64 0,.bool false,.string ⟨#[]⟩]⟩),([.int .i64 4,.int .i64 0],.agg ⟨[.int .i64 1,.int .i64 4,.int .i64 0,.bool false,.string ⟨#[]⟩]⟩)]
theorem pk65:jap Tryz.prog 65 (memo m65):=jaz [] ok_A46 hmix fn65 jai (by kernel_rfl) (by kernel_rfl)
def A47:Env:=Env.nil
theorem ok_A47:jax Tryz.prog A47:=jan
theorem fn50:Fn1 Tryz.prog 50 Tryz.f50:= .m Tryz.func50 (by kernel_rfl)
def m50:List (List Value×Value):=[([.int .i64 15],.agg ⟨[.int .i64 2,.int .i64 15,.int .i64 0,.bool false,.string ⟨#[]⟩]⟩),([.int .i64 11],.agg ⟨[.int .i64 2,.int .i64 11,.int .i64 0,.bool false,.string ⟨#[]⟩]⟩),([.int .i64 31],.agg ⟨[.int .i64 2,.int .i64 31,.int .i64 0,.bool false,.string ⟨#[]⟩]⟩)]
theorem pk50:jap Tryz.prog 50 (memo m50):=jaz [] ok_A47 hmix fn50 jai (by kernel_rfl) (by kernel_rfl)
def A48:Env:=Env.nil
theorem ok_A48:jax Tryz.prog A48:=jan
theorem fn51:Fn1 Tryz.prog 51 Tryz.f51:= .m Tryz.func51 (by kernel_rfl)
def m51:List (List Value×Value):=[([.int .i64 1],.agg ⟨[.int .i64 4,.int .i64 1,.int .i64 0,.bool false,.string ⟨#[]⟩]⟩),([.int .i64 3],.agg ⟨[.int .i64 4,.int .i64 3,.int .i64 0,.bool false,.string ⟨#[]⟩]⟩),([.int .i64 10],.agg ⟨[.int .i64 4,.int .i64 10,.int .i64 0,.bool false,.string ⟨#[]⟩]⟩),([.int .i64 64],.agg ⟨[.int .i64 4,.int .i64 64,.int .i64 0,.bool false,.string ⟨#[]⟩]⟩)]
theorem pk51:jap Tryz.prog 51 (memo m51):=jaz [] ok_A48 hmix fn51 jai (by kernel_rfl) (by kernel_rfl)
def A49:Env:=Env.nil
theorem ok_A49:jax Tryz.prog A49:=jan
theorem fn54:Fn1 Tryz.prog 54 Tryz.f54:= .m Tryz.func54 (by kernel_rfl)
def m54:List (List Value×Value):=[([.int .i64 3],.agg ⟨[.int .i64 3,.int .i64 3,.int .i64 0,.bool false,.string ⟨#[]⟩]⟩),([.int .i64 5],.agg ⟨[.int .i64 3,.int .i64 5,.int .i64 0,.bool false,.string ⟨#[]⟩]⟩),([.int .i64 6],.agg ⟨[.int .i64 3,.int .i64 6,.int .i64 0,.bool false,.string ⟨#[]⟩]⟩),([.int .i64 256],.agg ⟨[.int .i64 3,.int .i64 256,.int .i64 0,.bool false,.string ⟨#[]⟩]⟩)]
theorem pk54:jap Tryz.prog 54 (memo m54):=jaz [] ok_A49 hmix fn54 jai (by kernel_rfl) (by kernel_rfl)
def A50:Env:=Env.nil
theorem ok_A50:jax Tryz.prog A50:=jan
theorem fn60:Fn1 Tryz.prog 60 Tryz.f60:= .m Tryz.func60 (by kernel_rfl)
def m60:List (List Value×Value):=[([.string ⟨#[90,90,57,86,46,57,57]⟩],.agg ⟨[.int .i64 5,.int .i64 0,.int .i64 0,.bool false,.string ⟨#[90,90,57,86,46,57,57]⟩]⟩),([.string ⟨#[57,57,57]⟩],.agg ⟨[.int .i64 5,.int .i64 0,.int .i64 0,.bool false,.string ⟨#[57,57,57]⟩]⟩),([.string ⟨#[65,65,57]⟩],.agg ⟨[.int .i64 5,.int .i64 0,.int .i64 0,.bool false,.string ⟨#[65,65,57]⟩]⟩)]
theorem pk60:jap Tryz.prog 60 (memo m60):=jaz [] ok_A50 hmix fn60 jai (by kernel_rfl) (by kernel_rfl)
def A51:Env:=Env.nil
theorem ok_A51:jax Tryz.prog A51:=jan
theorem fn52:Fn1 Tryz.prog 52 Tryz.f52:= .m Tryz.func52 (by kernel_rfl)
def m52:List (List Value×Value):=[([.string ⟨#[49,50,120]⟩],.agg ⟨[.int .i64 0,.string ⟨#[49,50,120]⟩]⟩),([.string ⟨#[48]⟩],.agg ⟨[.int .i64 0,.string ⟨#[48]⟩]⟩),([.string ⟨#[49,48,49]⟩],.agg ⟨[.int .i64 0,.string ⟨#[49,48,49]⟩]⟩),([.string ⟨#[49,48,49,32,32]⟩],.agg ⟨[.int .i64 0,.string ⟨#[49,48,49,32,32]⟩]⟩),([.string ⟨#[32,49,50,46,51,48]⟩],.agg ⟨[.int .i64 0,.string ⟨#[32,49,50,46,51,48]⟩]⟩),([.string ⟨#[50,51,52]⟩],.agg ⟨[.int .i64 0,.string ⟨#[50,51,52]⟩]⟩),([.string ⟨#[97,49,49]⟩],.agg ⟨[.int .i64 0,.string ⟨#[97,49,49]⟩]⟩),([.string ⟨#[32,32,32]⟩],.agg ⟨[.int .i64 0,.string ⟨#[32,32,32]⟩]⟩),([.string ⟨#[50]⟩],.agg ⟨[.int .i64 0,.string ⟨#[50]⟩]⟩)]
theorem pk52:jap Tryz.prog 52 (memo m52):=jaz [] ok_A51 hmix fn52 jai (by kernel_rfl) (by kernel_rfl)
def A52:Env:=(((((((((((((Env.nil.add 59 (memo m59)).add 85 (sp1 Cx.s85)).add 20 (memo m20)).add 321 (memo m321)).add 322 (memo m322)).add 324 (memo m324)).addG 212 (inlQ Tryz.prog A25 noL Tryz.f212)).addG 263 (inlQ Tryz.prog A26 noL Tryz.f263)).addG 264 (inlQ Tryz.prog A27 noL Tryz.f264)).addG 151 (inlQ Tryz.prog A28 noL Tryz.f151)).add 38 (memo m38)).add 40 (memo m40)).add 42 (memo m42)).add 117 (memo m117)
theorem ok_A52:jax Tryz.prog A52:=jak (jak (jak (jak (jam (jam (jam (jam (jak (jak (jak (jak (jak (jak jan pk59) (jc9 Cx.ok85)) pk20) pk321) pk322) pk324) (jar ok_A25 hmix fn212 jai)) (jar ok_A26 hmix fn263 jai)) (jar ok_A27 hmix fn264 jai)) (jar ok_A28 hmix fn151 jai)) pk38) pk40) pk42) pk117
theorem fn44:Fn1 Tryz.prog 44 Tryz.f44:= .m Tryz.func44 (by kernel_rfl)
def A53:Env:=Env.nil
theorem ok_A53:jax Tryz.prog A53:=jan
theorem fn46:Fn1 Tryz.prog 46 Tryz.f46:= .m Tryz.func46 (by kernel_rfl)
def L46:List Value:=[.int .i64 2,.int .i64 11,.int .i64 0,.bool false,.string ⟨#[]⟩,.int .i64 2,.int .i64 15,.int .i64 0,.bool false,.string ⟨#[]⟩]
def s46c:Ab.Spec:=fun args bs=>match args,bs with
 | [.slice (some ⟨_,0,some 1⟩) 2 _,.slice (some ⟨_,0,some 1⟩) 2 _],[some ⟨l1,_,_⟩,some ⟨l2,_,_⟩]=>match eqVL (l1.take 10) L46&&eqVL (l2.take 10) L46 with
  | true=>some (ja4 l1&&ja4 l2,.bool true)
  | false=>none
 | _,_=>none
def vwT (c d:List Value)(t u:TypeId):Lk:=fun k=>match k with | 0=>some ⟨c,t,false⟩ | 1=>some ⟨d,u,false⟩ | _=>none
theorem v46 (r1 r2:List Value)(t u:TypeId)(c1 c2:Nat)(R:Value→Prop):ja2 Tryz.prog A53 noL Tryz.f46 [.slice (some ⟨0,0,some 1⟩) 2 c1,.slice (some ⟨1,0,some 1⟩) 2 c2] (vwT (L46++r1) (L46++r2) t u) 2 (fun v _ _=>R v)=R (B true):=by kernel_rfl
theorem pk46:jap Tryz.prog 46 s46c:=by
 refine pure_viewQ ok_A53 hmix fn46 jai fun args bs v hs=> ?_
 unfold s46c at hs;split at hs
 case h_2=>cases hs
 rename_i k1 c1 k2 c2 l1 t1 o1 l2 t2 o2;split at hs
 case h_2=>cases hs
 rename_i hq;simp only[Option.some.injEq,Prod.mk.injEq,jaf]at hs hq;obtain⟨⟨p1,p2⟩,rfl⟩:=hs;obtain⟨q1,q2⟩:=hq;have e1:l1=L46++l1.drop 10:=by rw[←je2 q1,List.take_append_drop]
 have e2:l2=L46++l2.drop 10:=by rw[←je2 q2,List.take_append_drop]
 refine⟨[.slice (some ⟨0,0,some 1⟩) 2 c1,.slice (some ⟨1,0,some 1⟩) 2 c2],2,rfl,rfl,jag (by kernel_rfl),?_⟩
 have e:jjg [some ⟨l1,t1,o1⟩,some ⟨l2,t2,o2⟩]=vwT (L46++l1.drop 10) (L46++l2.drop 10) t1 t2:=by
  funext k;rw[←e1,←e2]
  match k with
  | 0=>simp only[jjg,jli,p1,vwT]
  | 1=>simp only[jjg,jli,p2,vwT]
  | k+2=>rfl
 rw[jlg,e,v46]
def A54:Env:=(((((((((((((((((Env.nil.add 20 (memo m20)).add 22 (memo m22)).add 26 (memo m26)).add 32 (memo m32)).add 24 (memo m24)).add 48 (memo m48)).add 38 (memo m38)).add 40 (memo m40)).add 42 (memo m42)).add 53 (memo m53)).add 65 (memo m65)).add 50 (memo m50)).add 51 (memo m51)).add 54 (memo m54)).add 60 (memo m60)).add 52 (memo m52)).addG 44 (inlQ Tryz.prog A52 noL Tryz.f44)).add 46 (s46c)
theorem ok_A54:jax Tryz.prog A54:=jak (jam (jak (jak (jak (jak (jak (jak (jak (jak (jak (jak (jak (jak (jak (jak (jak (jak jan pk20) pk22) pk26) pk32) pk24) pk48) pk38) pk40) pk42) pk53) pk65) pk50) pk51) pk54) pk60) pk52) (jar ok_A52 hmix fn44 jai)) pk46
end Go.Cs
end
noncomputable section
set_option maxRecDepth 100000
namespace Go.Cs
open Go Go.Ab Go.Proofs Go.Px Go.Cx
def T31:List Value:=[.int .i64 1,.int .i64 3,.int .i64 1,.bool false,.string ⟨#[]⟩]
theorem fn18:Fn1 Tryz.prog 18 Tryz.f18:= .m Tryz.func18 (by kernel_rfl)
theorem v18 (R:Value→Prop):ja2 Tryz.prog A54 noL Tryz.f18 [] (fun _=>none) 0 (fun v _ _=>R v)=(∀a:Nat,qdu T31 a 1 5 (∀c:Nat,∀d:List Value,qgc d c (1+1) 5→qff (ja4 (L46++d) &&ja4 L46) (B true) R)):=by kernel_rfl
def s18:Bool×Value:=(true,.bool true)
theorem okC18:jap Tryz.prog 18 (sp0 s18):=by
 refine qure0 ok_A54 hmix fn18 jai fun _=> ?_
 rw[ja3,v18];delta qgn qav qgc qdu qff;intro cap tail h;simp only[jay,jaf]at h;obtain⟨⟨⟨_,h2⟩,h3⟩,h4⟩:=h;have e:(T31++tail).length=tail.length+1*5:=by rw[List.length_append];show 5+_=_;omega
 refine c_t (by rw[e,h2,h3,h4];rfl) fun cap2 tail2 h=> ?_
 simp only[jay,jaf]at h;obtain⟨⟨⟨h1,_⟩,_⟩,_⟩:=h;refine c_t ?_ rfl;have:ja4 (L46++tail2)=true:=by rw[jba]at h1 ⊢;intro v hv;rcases List.mem_append.1 hv with hv | hv;exact jba.1 (show ja4 L46=true from rfl) v hv;exact h1 v hv
 rw[this];rfl
theorem ok18: @jap tabs Tryz.prog 18 (sp0 s18):=pureT okC18
end Go.Cs
end
noncomputable section
set_option maxHeartbeats 3200000
namespace Go.Cx
open Go Go.Ab Go.Proofs Go.Shelf Go.Px Go.Cv
open Go.Fx (Ty Vl check jbk most base pw bnd Fit fits tv vv tup V0 T0 jbp jbs jbh jcb str0)
instance tabsT:Tabs:=tabs
def sz63 (t:Ty):Prop:=t.s.size≤9223372036854775807
instance (t:Ty):Decidable (sz63 t):=by unfold sz63;infer_instance
def M0:Env:=(Env.nil.add 66 (sp1 s66)).add 67 (sp1 Px.s33)
theorem ok_M0:jax Tryz.prog M0:=jak (jak jan ok66) Px.ok33
def s20f (t:Ty):Bool×Value:=(decide (sz63 t),I (chk4 t))
def qet (a:Fx.Ty)(d:Prop)(c:Value)(b:Value→Prop):Prop:=bif qdo a 1 then b c else bif qdo a 2 then b c else d
def qd0 (a d:Bool)(e:ByteArray)(b:Fx.Ty)(c:Int):Bool:= !a || !(Fx.Ty.k b==Fx.Ty.k b&& (Fx.Ty.p b==c&& (qgt b&& (Fx.Ty.v b==d&& (qa4 (Fx.Ty.s b) e&&true)))))
def qc0 (c:Bool)(a:Fx.Ty)(b:Int)(d:Value→Prop):Prop:=bif qb6 (Fx.Ty.p a) 0 then qcc (!qbn (Fx.Ty.p a) 0 b || true) (qd0 (qbn (Fx.Ty.p a) 0 b) c qfi a (Fx.Ty.p a)) 5 0 d else False
theorem v20f (t:Ty)(R:Value→Prop):ja2 Tryz.prog M0 noL Tryz.f20 [Enc.enc t] (fun _=>none) 0 (fun v _ _=>R v)=(qet t (bif qdo t 3 then qc0 (Fx.Ty.v t) t 255 R∧qc0 (Fx.Ty.v t) t 255 R else bif qdo t 4 then qc0 false t 64 R else bif qdo t 5 then bif qdr (Fx.Ty.s t)then qcc (!pE (bz (Fx.Ty.s t))==0 || true) (qd0 (pE (bz (Fx.Ty.s t))==0) false (Fx.Ty.s t) t 0) 5 0 R else False else bif qdo t 6 then bif qd0 true false qfi t 0 then qbg 5 R else qbg 0 R else qbg 5 R) (I (Fx.check t)) R):=by kernel_rfl
theorem ok20f:jap Tryz.prog 20 (sp1 s20f):=by
 refine jca ok_M0 hmix fn20 jai (jag (by kernel_rfl)) fun t hc=> ?_
 rw[ja3,v20f];delta qdo qet qb8 qbg qa4 qgt qd0 qfi qcc qdr qf1 qbn qb6 qc0;have hc:(sz63 t):=jab hc
 try dsimp only[s20f]
 have hs:t.s.size≤9223372036854775807:=hc;have nvk:∀k:Int,t.k=k→k≠1→k≠2→ ¬jbk t:=fun k hk h1 h2 hv=>by have:=hv.1;omega
 have ck:t.k=1∨t.k=2→check t=chk4 t:=fun hk=>by
  unfold Fx.check chk4;by_cases hv:jbk t
  ·rw[if_pos hv,if_pos hv]
  ·rw[if_neg hv,if_neg hv,if_neg (by omega),if_neg (by omega),if_neg (by omega),if_neg (by omega)]
 refine cond_intro (fun hk=> ?_) (fun h1=> ?_)
 ·rw[ck (.inl (by simpa using hk))]
 refine cond_intro (fun hk=> ?_) (fun h2=> ?_)
 ·rw[ck (.inr (by simpa using hk))]
 have h1:t.k≠1:=by simpa using h1
 have h2:t.k≠2:=by simpa using h2
 have nv:¬jbk t:=nvk _ rfl h1 h2;refine cond_intro (fun h3=> ?_) (fun h3=> ?_)
 ·have h3:t.k=3:=by simpa using h3
  have key:∀X:Prop,(bif !(decide (t.p≥0) &&decide (t.p≤255)) || !(t.k==t.k&& (t.p==t.p&& (t.q==0&& (t.v==t.v&& (t.s.toList==(ByteArray.mk #[]).toList&&true)))))then Value.int IntKind.i64 5=I (chk4 t)else Value.int IntKind.i64 0=I (chk4 t)):=fun _=>by
   rw[jcm];unfold chk4;rw[if_neg nv];refine cond_intro (fun h=> ?_) (fun h=> ?_)
   ·rw[if_neg,if_neg (by omega),if_neg (by omega),if_neg (by omega)];rintro ⟨-,q1,q2,q3,q4⟩;simp[q1,q2,q3,q4]at h
   ·rw[if_pos];simp at h;exact⟨h3,h.2.1,h.2.2,h.1.1,h.1.2⟩
  exact⟨c_t (Bool.or_true _) (c_t (Bool.or_true _) (key True)),c_t (Bool.or_true _) (c_t (Bool.or_true _) (key True))⟩
 have h3:t.k≠3:=by simpa using h3
 refine cond_intro (fun h4=> ?_) (fun h4=> ?_)
 ·have h4:t.k=4:=by simpa using h4
  refine c_t (Bool.or_true _) (c_t (Bool.or_true _) ?_);rw[jcm];unfold chk4;rw[if_neg nv,if_neg (by omega)];refine cond_intro (fun h=> ?_) (fun h=> ?_)
  ·rw[if_neg,if_neg (by omega),if_neg (by omega)];rintro ⟨-,q1,q2,q3,q4,q5⟩;simp[q1,q2,q3,q4,q5]at h
  ·rw[if_pos];simp at h;exact⟨h4,h.2.1,h.2.2.2,h.2.2.1,h.1.1,h.1.2⟩
 have h4:t.k≠4:=by simpa using h4
 refine cond_intro (fun h5=> ?_) (fun h5=> ?_)
 ·have h5:t.k=5:=by simpa using h5
  refine c_t (jaa hs) (c_t (Bool.or_true _) ?_);unfold chk4;rw[if_neg nv,if_neg (by omega),if_neg (by omega)];refine cond_intro (fun h=> ?_) (fun h=> ?_)
  ·rw[if_neg,if_neg (by omega)];rintro ⟨-,q1,q2,q3,q4⟩;simp[q1,q2,q3,q4]at h
  ·rw[if_pos];simp at h;exact⟨h5,h.2.1,h.2.2.1,h.2.2.2,h.1⟩
 have h5:t.k≠5:=by simpa using h5
 refine cond_intro (fun h6=> ?_) (fun h6=> ?_)
 ·have h6:t.k=6:=by simpa using h6
  rw[jcm];unfold chk4;rw[if_neg nv,if_neg (by omega),if_neg (by omega),if_neg (by omega)];refine cond_intro (fun h=> ?_) (fun h=> ?_)
  ·rw[if_neg];rintro ⟨-,q1,q2,q3,q4⟩;simp[q1,q2,q3,q4]at h
  ·rw[if_pos];simp at h;exact⟨h6,h.2.1,h.2.2.2,h.1,h.2.2.1⟩
 have h6:t.k≠6:=by simpa using h6
 unfold chk4;rw[if_neg nv,if_neg (by omega),if_neg (by omega),if_neg (by omega),if_neg (by omega)]
instance tabsT1:Tabs:=tabs
def Q0:Env:=(((Env.nil.add 20 (sp1 s20f)).add 70 (sp2 s70)).add 71 (sp1 s71)).add 72 (sp2 Px.s24)
theorem ok_Q0:jax Tryz.prog Q0:=jak (jak (jak (jak jan ok20f) ok70) ok71) Px.ok24
def s22f (v:Vl)(t:Ty):Bool×Value:=(decide (t.s.size≤9223372036854775807∧v.s.size≤9223372036854775807),I (fit4 v t))
theorem v22f (v:Vl)(t:Ty)(R:Value→Prop):ja2 Tryz.prog Q0 noL Tryz.f22 [Enc.enc v,Enc.enc t] (fun _=>none) 0 (fun v _ _=>R v)=(bif decide (sz63 t)then bif chk4 t !=0 then R (I (chk4 t))else qet t (qcx (qdr (Fx.Vl.s v)) t v (bif !Fx.Vl.n v==0 then qbg 6 R else qbg 0 R) R) (I (Fx.fits v t)) R else False):=by kernel_rfl
theorem ok22f:jap Tryz.prog 22 (sp2 s22f):=by
 refine jc1 ok_Q0 hmix fn22 jai (jag (by kernel_rfl)) fun v t hc=> ?_
 rw[ja3,v22f];delta qdo qet qb8 qbg qcc qem qf1 qbn qb6 qa4 qfi qb5 qds qgu qcx qdr;have hc:(t.s.size≤9223372036854775807∧v.s.size≤9223372036854775807):=jab hc
 try dsimp only[s22f]
 rw[jcm];unfold fit4 is4;refine c_t (jaa hc.1) ?_
 have hk:chk4 t=0→(t.k=1∨t.k=2∨t.k=3∨t.k=4∨t.k=5∨t.k=6)∧((t.k=1∨t.k=2)→jbk t):=fun h=>by
  unfold chk4 at h;have hv:jbk t→t.k=1∨t.k=2:=fun h=>h.1
  grind
 refine cond_intro (fun h=> ?_) (fun h=> ?_)
 ·rw[if_pos (by simpa using h)]
 have h0:chk4 t=0:=by simpa using h
 rw[if_neg (fun z=>z h0)];obtain⟨hk,hval⟩:=hk h0;have hf:jbk t→Fx.fits v t=if Fit v t then 0 else 6:=fun h=>if_pos h
 simp only[Bool.or_true,Bool.and_true,Bool.cond_self,jaa hc,jaa hc.2]
 repeat' refine cond_intro (fun h=> ?_) (fun h=> ?_)
 all_goals first | (exfalso;simp at h;done) | (congr 1;grind) | (exfalso;grind)
instance tabsT2:Tabs:=tabs
theorem ex_ck3 (t:Ty):∃x:Int,x=chk4 t:=⟨_,rfl⟩
def ckT (t:Ty):Int:=Classical.choose (ex_ck3 t)
theorem jjd (t:Ty):ckT t=chk4 t:=Classical.choose_spec (ex_ck3 t)
theorem ex_ft3 (v:Vl)(t:Ty):∃x:Int,x=fit4 v t:=⟨_,rfl⟩
def ftT (v:Vl)(t:Ty):Int:=Classical.choose (ex_ft3 v t)
theorem jja (v:Vl)(t:Ty):ftT v t=fit4 v t:=Classical.choose_spec (ex_ft3 v t)
def z20 (t:Ty):Bool×Value:=(decide (t.s.size≤9223372036854775807),I (ckT t))
def z22 (v:Vl)(t:Ty):Bool×Value:=(decide (t.s.size≤9223372036854775807∧v.s.size≤9223372036854775807),I (ftT v t))
def z19 (t:Ty):Bool×Value:=(true,B (decide ((t.s.size:Int)≤200)))
theorem fn19s:Fn1 Tryz.prog 19 Tryz.f19:= .m Tryz.func19 (by kernel_rfl)
theorem v19s (t:Ty)(R:Value→Prop):ja2 Tryz.prog Env.nil noL Tryz.f19 [Enc.enc t] (fun _=>none) 0 (fun v _ _=>R v)=R (B (decide ((t.s.size:Int)≤200))):=by kernel_rfl
theorem ok19s:jap Tryz.prog 19 (sp1 z19):=by
 refine jca jan hmix fn19s jai (jag (by kernel_rfl)) fun t hc=> ?_
 rw[ja3,v19s];rfl
theorem z20_eq:z20=s20f:=by funext t;simp only[z20,s20f,jjd];rfl
theorem z20_eq2:z20=s21:=by funext t;simp only[z20,s21,jjd]
theorem z22_eq:z22=s22f:=by funext v t;simp only[z22,s22f,jja]
theorem z22_eq2:z22=s23:=by funext v t;simp only[z22,s23,jja]
def s3 (t:Ty)(v:Vl):Bool×Value:=(decide (t.s.size≤9223372036854775807∧v.s.size≤9223372036854775807),B true)
def isR (s:ByteArray)(c:Int)(l:List Int):Prop:=bz s=List.replicate (s.size - l.length) c++l∧l.length≤s.size
instance (s:ByteArray)(c:Int)(l:List Int):Decidable (isR s c l):=by unfold isR;infer_instance
structure Sh where
 s:ByteArray
 p:ByteArray
instance:Enc Sh where
 enc x:= .agg ⟨[.string x.s,.string x.p]⟩
 dec | .agg ⟨[.string s,.string p]⟩=>some ⟨s,p⟩ | _=>none
 dec_some:=by
  intro v a h;split at h
  ·cases h;rfl
  ·cases h
 plain_enc _:=rfl
instance tabsT5:Tabs:=tabs
instance tabsU6:Tabs:=tabs
def jc5 (v:Vl)(t:Ty):Fu:=if t.k=1∨t.k=2 then .w v.n t else if t.k=4 then .b v.s else if t.k=5∧pN (bz t.s)=true then .p v.s t.s else .c v.s
open Classical in
theorem cuK_ex:∃d:Bool→Fu→Ty→Bool,∀b f t,d b f t=true↔cuA f t∧(cuV f t).2.2.2.isNone=b:=⟨fun b f t=>decide (cuA f t∧(cuV f t).2.2.2.isNone=b),fun b f t=>by simp⟩
def cuK:Bool→Fu→Ty→Bool:=Classical.choose cuK_ex
theorem jhs {b:Bool} {f:Fu} {t:Ty}:cuK b f t=true↔cuA f t∧(cuV f t).2.2.2.isNone=b:=Classical.choose_spec cuK_ex b f t
theorem cuO_ex:∃d:Fu→Ty→Int×ByteArray×Int×ByteArray,∀f t,d f t=((cuV f t).1,(cuV f t).2.1,(cuV f t).2.2.1,(cuV f t).2.2.2.getD ⟨#[]⟩):=⟨_,fun _ _=>rfl⟩
def cuO:Fu→Ty→Int×ByteArray×Int×ByteArray:=Classical.choose cuO_ex
theorem jlb (f:Fu)(t:Ty):cuO f t=((cuV f t).1,(cuV f t).2.1,(cuV f t).2.2.1,(cuV f t).2.2.2.getD ⟨#[]⟩):=Classical.choose_spec cuO_ex f t
def s97w (v:Vl)(t:Ty):Bool×Value:=(decide (t.k=1∨t.k=2),.iface 174 (.agg ⟨[.int .i64 v.n,.int .i64 t.k,.int .i64 t.p,.int .i64 t.q,.bool t.v,.string t.s]⟩))
def s97b (v:Vl)(t:Ty):Bool×Value:=(decide (t.k=4),.iface 175 (.string v.s))
def s97p (v:Vl)(t:Ty):Bool×Value:=(decide (t.k=5∧pN (bz t.s)=true∧t.s.size≤9223372036854775807),.iface 177 (.agg ⟨[.string v.s,.string t.s]⟩))
def s97c (v:Vl)(t:Ty):Bool×Value:=(decide (¬(t.k=1∨t.k=2)∧t.k≠4∧(t.k=5→ ¬pN (bz t.s)=true)∧t.s.size≤9223372036854775807),.iface 178 (.string v.s))
def s99y:Ab.Spec:=fun args _=>match args with
 | [a,.agg ⟨[.int .i64 k,.int .i64 p,.int .i64 q,.bool w,.string u]⟩]=>match decU a with
  | some f=>some (cuK true f ⟨k,p,q,w,u⟩,tp3 (cuO f ⟨k,p,q,w,u⟩).1 (cuO f ⟨k,p,q,w,u⟩).2.1 (cuO f ⟨k,p,q,w,u⟩).2.2.1 .nilIface)
  | none=>none
 | _=>none
def s99n:Ab.Spec:=fun args _=>match args with
 | [a,.agg ⟨[.int .i64 k,.int .i64 p,.int .i64 q,.bool w,.string u]⟩]=>match decU a with
  | some f=>some (cuK false f ⟨k,p,q,w,u⟩,tp3 (cuO f ⟨k,p,q,w,u⟩).1 (cuO f ⟨k,p,q,w,u⟩).2.1 (cuO f ⟨k,p,q,w,u⟩).2.2.1 (er (cuO f ⟨k,p,q,w,u⟩).2.2.2))
  | none=>none
 | _=>none
def zrV (t:Ty):ByteArray:=if t.k=4 then szO (List.replicate t.p.toNat 48)else if t.k=5 then sz (zeS (bz t.s))else⟨#[]⟩
theorem zrO_ex:∃d:Ty→ByteArray,d=zrV:=⟨_,rfl⟩
def zrO:Ty→ByteArray:=Classical.choose zrO_ex
theorem zrO_eq:zrO=zrV:=Classical.choose_spec zrO_ex
def s101u (t:Ty):Bool×Value:=(decide (t.s.size≤9223372036854775807∧(t.k=4→0≤t.p∧t.p≤1000)),.agg ⟨[I 0,S (zrO t)]⟩)
def Uz:Env:=K9p.add 176 (sp1 Px.s54)
def Uv:Env:=(((Env.nil.add 22 (sp2 z22)).add 20 (sp1 z20)).add 101 (sp1 s101u)).addG 100 h100
def Uy (s97:Vl→Ty→Bool×Value):Env:=(Uv.add 97 (sp2 s97)).add 99 s99y
def Un (s97:Vl→Ty→Bool×Value):Env:=(Uv.add 97 (sp2 s97)).add 99 s99n
def v97:Env:=Env.nil.add 59 (sp1 Px.s31)
theorem u97 (v:Vl)(t:Ty)(R:Value→Prop):ja2 Tryz.prog v97 noL Tryz.f97 [Enc.enc v,Enc.enc t] (fun _=>none) 0 (fun v _ _=>R v)=(qet t (bif qdo t 4 then R (s97b v t).snd else bif qdo t 5 then bif qdr (Fx.Ty.s t)then bif pN (bz (Fx.Ty.s t))then R (s97p v t).snd else R (s97c v t).snd else False else R (s97c v t).snd) (s97w v t).snd R):=by kernel_rfl
theorem u101 (t:Ty)(R:Value→Prop):ja2 Tryz.prog Uz noL Tryz.f101 [Enc.enc t] (fun _=>none) 0 (fun v _ _=>R v)=(bif qdo t 4 then bif qb0 qgp (Fx.Ty.p t) 1000 1000 then∀a:ByteArray,szO (repZ (bz qgp) (Fx.Ty.p t).toNat)=a→R (.agg ⟨[Px.I 0,S a]⟩)else False else bif qdo t 5 then qff (qdr (Fx.Ty.s t)) (.agg ⟨[Px.I 0,S (sz (zeS (bz (Fx.Ty.s t))))]⟩) R else R (.agg ⟨[Px.I 0,S qfi]⟩)):=by kernel_rfl
def hd34 (R:Value→Prop)(v:Vl)(f t:Ty)(c:Bool)(X:Prop):Prop:=
 bif decide (ByteArray.size f.s≤9223372036854775807∧ByteArray.size v.s≤9223372036854775807)then bif ftT v f !=0 then R (tp3 0 ⟨#[]⟩ 0 (I (ftT v f)))else
 bif decide (ByteArray.size t.s≤9223372036854775807)then bif ckT t !=0 then R (tp3 0 ⟨#[]⟩ 0 (I (ckT t)))else
 bif f.k==6 || true then bif f.k==6 || t.k==6 then bif f.k !=t.k then R (tp3 0 ⟨#[]⟩ 0 (I 5))else R (tp3 v.n v.s 0 (I 0))else bif c then X else False else False else False else False
def tl34 (R:Value→Prop)(g:Fu)(t:Ty):Prop:=bif cuK true g t then R (tp3 (cuO g t).1 (cuO g t).2.1 (cuO g t).2.2.1 (I 0))else False
def tn34 (R:Value→Prop)(g:Fu)(t:Ty):Prop:=bif cuK false g t then bif decide (t.s.size≤9223372036854775807∧(t.k=4→0≤t.p∧t.p≤1000))then R (tp3 0 (zrO t) 4 (I 0))else False else False
theorem u34yw (v:Vl)(f t:Ty)(R:Value→Prop):ja2 Tryz.prog (Uy s97w) noL Tryz.f34 [Enc.enc v,Enc.enc f,Enc.enc t] (fun _=>none) 0 (fun v _ _=>R v)=hd34 R v f t (s97w v f).1 (tl34 R (.w v.n f) t):=by kernel_rfl
theorem u34yb (v:Vl)(f t:Ty)(R:Value→Prop):ja2 Tryz.prog (Uy s97b) noL Tryz.f34 [Enc.enc v,Enc.enc f,Enc.enc t] (fun _=>none) 0 (fun v _ _=>R v)=hd34 R v f t (s97b v f).1 (tl34 R (.b v.s) t):=by kernel_rfl
theorem u34yp (v:Vl)(f t:Ty)(R:Value→Prop):ja2 Tryz.prog (Uy s97p) noL Tryz.f34 [Enc.enc v,Enc.enc f,Enc.enc t] (fun _=>none) 0 (fun v _ _=>R v)=hd34 R v f t (s97p v f).1 (tl34 R (.p v.s f.s) t):=by kernel_rfl
theorem u34yc (v:Vl)(f t:Ty)(R:Value→Prop):ja2 Tryz.prog (Uy s97c) noL Tryz.f34 [Enc.enc v,Enc.enc f,Enc.enc t] (fun _=>none) 0 (fun v _ _=>R v)=hd34 R v f t (s97c v f).1 (tl34 R (.c v.s) t):=by kernel_rfl
theorem u34nw (v:Vl)(f t:Ty)(R:Value→Prop):ja2 Tryz.prog (Un s97w) noL Tryz.f34 [Enc.enc v,Enc.enc f,Enc.enc t] (fun _=>none) 0 (fun v _ _=>R v)=hd34 R v f t (s97w v f).1 (tn34 R (.w v.n f) t):=by kernel_rfl
theorem u34nb (v:Vl)(f t:Ty)(R:Value→Prop):ja2 Tryz.prog (Un s97b) noL Tryz.f34 [Enc.enc v,Enc.enc f,Enc.enc t] (fun _=>none) 0 (fun v _ _=>R v)=hd34 R v f t (s97b v f).1 (tn34 R (.b v.s) t):=by kernel_rfl
theorem u34np (v:Vl)(f t:Ty)(R:Value→Prop):ja2 Tryz.prog (Un s97p) noL Tryz.f34 [Enc.enc v,Enc.enc f,Enc.enc t] (fun _=>none) 0 (fun v _ _=>R v)=hd34 R v f t (s97p v f).1 (tn34 R (.p v.s f.s) t):=by kernel_rfl
theorem u34nc (v:Vl)(f t:Ty)(R:Value→Prop):ja2 Tryz.prog (Un s97c) noL Tryz.f34 [Enc.enc v,Enc.enc f,Enc.enc t] (fun _=>none) 0 (fun v _ _=>R v)=hd34 R v f t (s97c v f).1 (tn34 R (.c v.s) t):=by kernel_rfl
theorem ok_v97:jax Tryz.prog v97:=jak jan Px.ok31
theorem ok_Uz:jax Tryz.prog Uz:=jak ok_K9p Px.ok54
theorem ok97w:jap Tryz.prog 97 (sp2 s97w):=by
 refine jc1 ok_v97 hmix fn97 jai (jag (by kernel_rfl)) fun v t hc=> ?_
 have hc:t.k=1∨t.k=2:=jab hc;rw[ja3,u97];delta qdo qet qdr;exact cond_intro (fun _=>rfl) fun h1=>cond_intro (fun _=>rfl) fun h2=>by simp at h1 h2;omega
theorem ok97b:jap Tryz.prog 97 (sp2 s97b):=by
 refine jc1 ok_v97 hmix fn97 jai (jag (by kernel_rfl)) fun v t hc=> ?_
 have hc:t.k=4:=jab hc;rw[ja3,u97];delta qdo qet qdr;rw[hc];rfl
theorem ok97p:jap Tryz.prog 97 (sp2 s97p):=by
 refine jc1 ok_v97 hmix fn97 jai (jag (by kernel_rfl)) fun v t hc=> ?_
 have hc:t.k=5∧pN (bz t.s)=true∧t.s.size≤9223372036854775807:=jab hc;rw[ja3,u97];delta qdo qet qdr;rw[hc.1,hc.2.1];refine cond_intro (fun h=>absurd h (by decide)) fun _=>cond_intro (fun h=>absurd h (by decide)) fun _=>cond_intro (fun h=>absurd h (by decide)) fun _=>c_t rfl (c_t (jaa hc.2.2) rfl)
theorem ok97c:jap Tryz.prog 97 (sp2 s97c):=by
 refine jc1 ok_v97 hmix fn97 jai (jag (by kernel_rfl)) fun v t hc=> ?_
 have hc:¬(t.k=1∨t.k=2)∧t.k≠4∧(t.k=5→ ¬pN (bz t.s)=true)∧t.s.size≤9223372036854775807:=jab hc;rw[ja3,u97];delta qdo qet qdr;refine cond_intro (fun h=> ?_) fun h1=>cond_intro (fun h=> ?_) fun h2=>cond_intro (fun h=> ?_) fun h4=>cond_intro (fun h=> ?_) fun h5=>rfl
 ·exact absurd (.inl (by simpa using h)) hc.1
 ·exact absurd (.inr (by simpa using h)) hc.1
 ·exact absurd (by simpa using h) hc.2.1
 ·refine c_t (jaa hc.2.2.2) ?_;have:=hc.2.2.1 (by simpa using h);exact cond_intro (fun h=>absurd h this) fun _=>rfl
theorem s99_y {args:List Value} {bs:List (Option Blk)} {v:Value}(h:s99y args bs=some (true,v)):s99u args bs=some (true,v):=by
 unfold s99y at h;unfold s99u;split at h
 case h_2=>cases h
 split at h
 case h_2=>cases h
 rename_i f hf
 try simp only[hf]
 simp only[Option.some.injEq,Prod.mk.injEq]at h;obtain⟨h1,rfl⟩:=h;obtain⟨h2,h3⟩:=jhs.1 h1;rw[jjv.2 h2,jlb];refine congrArg some (congrArg (Prod.mk true) ?_);show tp3 _ _ _ _=tp3 _ _ _ _;cases e:(cuV f ⟨_,_,_,_,_⟩).2.2.2 with
 | none=>rfl
 | some _=>rw[e]at h3;cases h3
theorem s99_n {args:List Value} {bs:List (Option Blk)} {v:Value}(h:s99n args bs=some (true,v)):s99u args bs=some (true,v):=by
 unfold s99n at h;unfold s99u;split at h
 case h_2=>cases h
 split at h
 case h_2=>cases h
 rename_i f hf
 try simp only[hf]
 simp only[Option.some.injEq,Prod.mk.injEq]at h;obtain⟨h1,rfl⟩:=h;obtain⟨h2,h3⟩:=jhs.1 h1;rw[jjv.2 h2,jlb];refine congrArg some (congrArg (Prod.mk true) ?_);show tp3 _ _ _ _=tp3 _ _ _ _;cases e:(cuV f ⟨_,_,_,_,_⟩).2.2.2 with
 | none=>rw[e]at h3;cases h3
 | some _=>rfl
theorem jf7 {ι:Type} {P:Program} {f:FuncId} {s:Ab.Spec} {T:ι→Ab.Spec}(i0:ι)(hT:∀i,jap P f (T i))(h:∀args bs v,s args bs=some (true,v)→ ∃i,T i args bs=some (true,v)):jap P f s:=
 ⟨(hT i0).1, fun args v N w0 m ι w hrel hs hv => by
  obtain⟨i,hi⟩:=h _ _ _ hs;exact(hT i).2 args v N w0 m ι w hrel hi hv⟩
theorem ok99y:jap Tryz.prog 99 s99y:=jf7 () (fun _=>ok99u) fun _ _ _ h=>⟨(),s99_y h⟩
theorem ok99n:jap Tryz.prog 99 s99n:=jf7 () (fun _=>ok99u) fun _ _ _ h=>⟨(),s99_n h⟩
theorem ok101u:jap Tryz.prog 101 (sp1 s101u):=by
 refine jca ok_Uz hmix fn101 jai (jag (by kernel_rfl)) fun t hc=> ?_
 have hc:t.s.size≤9223372036854775807∧(t.k=4→0≤t.p∧t.p≤1000):=jab hc;rw[ja3,u101];delta qfi qff qdr qdo qgp qb0;dsimp only[s101u];rw[zrO_eq];unfold zrV;refine cond_intro (fun h4=> ?_) fun h4=>cond_intro (fun h5=> ?_) fun h5=> ?_
 ·have h4:t.k=4:=by simpa using h4
  refine c_t (jaa ⟨(hc.2 h4).1,(hc.2 h4).2,by decide⟩) fun s' e=> ?_
  rw[←e,show bz (ByteArray.mk #[48])=[48]from rfl,jg6,if_pos h4]
 ·have h5:t.k=5:=by simpa using h5
  rw[if_neg (by omega),if_pos h5];exact c_t (jaa hc.1) rfl
 ·have h4:t.k≠4:=by simpa using h4
  have h5:t.k≠5:=by simpa using h5
  rw[if_neg h4,if_neg h5]
theorem ok_Uv:jax Tryz.prog Uv:=jam (jak (jak (jak jan (z22_eq▸ok22f)) (z20_eq▸ok20f)) ok101u) gen100
def toV (v:Vl)(f t:Ty):Int×ByteArray×Int×Int:=
 if fit4 v f≠0 then(0,⟨#[]⟩,0,fit4 v f)else if chk4 t≠0 then(0,⟨#[]⟩,0,chk4 t)
 else if f.k=6∨t.k=6 then(if f.k≠t.k then(0,⟨#[]⟩,0,5)else(v.n,v.s,0,0))
 else if(cuV (jc5 v f) t).2.2.2=none then((cuV (jc5 v f) t).1,(cuV (jc5 v f) t).2.1,(cuV (jc5 v f) t).2.2.1,0)else(0,zrV t,4,0)
def toC (v:Vl)(f t:Ty):Prop:=t.s.size≤9223372036854775807∧f.s.size≤9223372036854775807∧v.s.size≤9223372036854775807
instance (v:Vl)(f t:Ty):Decidable (toC v f t):=by unfold toC;infer_instance
abbrev toR (v:Vl)(f t:Ty):Value:=tp3 (toV v f t).1 (toV v f t).2.1 (toV v f t).2.2.1 (I (toV v f t).2.2.2)
theorem hd_ok {v:Vl} {f t:Ty} {c:Bool} {X:Prop}(h:toC v f t)(hX:fit4 v f=0→chk4 t=0→f.k≠6→t.k≠6→c=true∧X):hd34 (fun x=>x=toR v f t) v f t c X:=by
 obtain⟨h1,h2,h3⟩:=h;unfold hd34;rw[jja,jjd];refine c_t (jaa ⟨h2,h3⟩) (cond_intro (fun e=> ?_) (fun e=>c_t (jaa h1) (cond_intro (fun e'=> ?_) (fun e'=>c_t (Bool.or_true _) (cond_intro (fun e6=>cond_intro (fun g=> ?_) (fun g=> ?_)) (fun e6=> ?_))))))
 ·have e:fit4 v f≠0:=by simpa using e
  unfold toR toV;rw[if_pos e]
 ·have e:¬fit4 v f≠0:=by simpa using e
  have e':chk4 t≠0:=by simpa using e'
  unfold toR toV;rw[if_neg e,if_pos e']
 ·have e:¬fit4 v f≠0:=by simpa using e
  have e':¬chk4 t≠0:=by simpa using e'
  unfold toR toV;rw[if_neg e,if_neg e',if_pos (by simpa using e6),if_pos (by simpa using g)]
 ·have e:¬fit4 v f≠0:=by simpa using e
  have e':¬chk4 t≠0:=by simpa using e'
  unfold toR toV;rw[if_neg e,if_neg e',if_pos (by simpa using e6),if_neg (by simpa using g)]
 ·have e6:f.k≠6∧t.k≠6:=by simpa using e6
  obtain⟨a,b⟩:=hX (by simpa using e) (by simpa using e') e6.1 e6.2;exact c_t a b
def earl (v:Vl)(f t:Ty):Prop:=fit4 v f≠0∨chk4 t≠0∨f.k=6∨t.k=6
instance (v:Vl)(f t:Ty):Decidable (earl v f t):=by unfold earl;infer_instance
def s34i (c:Vl→Ty→Bool×Value)(b:Bool)(v:Vl)(f t:Ty):Bool×Value:=(decide (toC v f t) && (decide (earl v f t) || (c v f).1&&cuK b (jc5 v f) t),toR v f t)
theorem i_c {c:Vl→Ty→Bool×Value} {b:Bool} {v:Vl} {f t:Ty}(h:(s34i c b v f t).1=true):toC v f t∧(fit4 v f=0→chk4 t=0→f.k≠6→t.k≠6→(c v f).1=true∧cuK b (jc5 v f) t=true):=by
 have h:(decide (toC v f t) && (decide (earl v f t) || (c v f).1&&cuK b (jc5 v f) t))=true:=h;rw[jaf,Bool.or_eq_true,jaf]at h;refine⟨jab h.1,fun h1 h2 h3 h4=>h.2.resolve_left fun e=> ?_⟩;rcases jab e with e | e | e | e
 ·exact e h1
 ·exact e h2
 ·exact h3 e
 ·exact h4 e
theorem tl_y {v:Vl} {f t:Ty} {g:Fu}(hg:jc5 v f=g)(h1:fit4 v f=0)(h2:chk4 t=0)(h3:f.k≠6)(h4:t.k≠6)(hk:cuK true (jc5 v f) t=true):tl34 (fun x=>x=toR v f t) g t:=by
 subst hg;refine c_t hk ?_;have hn:(cuV (jc5 v f) t).2.2.2=none:=by simpa using(jhs.1 hk).2
 rw[jlb];unfold toR toV;rw[if_neg (by simp[h1]),if_neg (by simp[h2]),if_neg (by simp[h3,h4]),if_pos hn]
theorem tl_n {v:Vl} {f t:Ty} {g:Fu}(hs:t.s.size≤9223372036854775807)(hg:jc5 v f=g)(h1:fit4 v f=0)(h2:chk4 t=0)(h3:f.k≠6)(h4:t.k≠6)(hk:cuK false (jc5 v f) t=true):tn34 (fun x=>x=toR v f t) g t:=by
 subst hg;refine c_t hk (c_t (jaa ⟨hs,fun q=>p1000 h2 (.inr q)⟩) ?_)
 have hn:¬(cuV (jc5 v f) t).2.2.2=none:=by
  have:=(jhs.1 hk).2;intro e;rw[e]at this;cases this
 rw[zrO_eq];unfold toR toV;rw[if_neg (by simp[h1]),if_neg (by simp[h2]),if_neg (by simp[h3,h4]),if_neg hn]
theorem fm_w {v:Vl} {f:Ty}(h:(s97w v f).1=true):jc5 v f= .w v.n f:=if_pos (jab h)
theorem fm_b {v:Vl} {f:Ty}(h:(s97b v f).1=true):jc5 v f= .b v.s:=by
 have h:f.k=4:=jab h;unfold jc5;rw[if_neg (by omega),if_pos h]
theorem fm_p {v:Vl} {f:Ty}(h:(s97p v f).1=true):jc5 v f= .p v.s f.s:=by
 have h:f.k=5∧pN (bz f.s)=true∧f.s.size≤9223372036854775807:=jab h;unfold jc5;rw[if_neg (by omega),if_neg (by omega),if_pos ⟨h.1,h.2.1⟩]
theorem fm_c {v:Vl} {f:Ty}(h:(s97c v f).1=true):jc5 v f= .c v.s:=by
 have h:¬(f.k=1∨f.k=2)∧f.k≠4∧(f.k=5→ ¬pN (bz f.s)=true)∧f.s.size≤9223372036854775807:=jab h;unfold jc5;rw[if_neg h.1,if_neg h.2.1,if_neg fun q=>h.2.2.1 q.1 q.2]
theorem ok_Uy {c:Vl→Ty→Bool×Value}(h:jap Tryz.prog 97 (sp2 c)):jax Tryz.prog (Uy c):=jak (jak ok_Uv h) ok99y
theorem ok_Un {c:Vl→Ty→Bool×Value}(h:jap Tryz.prog 97 (sp2 c)):jax Tryz.prog (Un c):=jak (jak ok_Uv h) ok99n
theorem jjz {c:Vl→Ty→Bool×Value} {g:Vl→Ty→Fu}(h:jap Tryz.prog 97 (sp2 c))(hg:∀v f,(c v f).1=true→jc5 v f=g v f)
  (hu:∀(v:Vl) (f t:Ty) (R:Value→Prop),ja2 Tryz.prog (Uy c) noL Tryz.f34 [Enc.enc v,Enc.enc f,Enc.enc t] (fun _=>none) 0 (fun v _ _=>R v)=hd34 R v f t (c v f).1 (tl34 R (g v f) t)):jap Tryz.prog 34 (sp3 (s34i c true)):=by
 refine ji4 (ok_Uy h) hmix fn34 jai (jag (by kernel_rfl)) fun v f t hc=> ?_
 obtain⟨h1,h2⟩:=i_c hc;rw[ja3,hu];exact hd_ok h1 fun a b d e=>⟨(h2 a b d e).1,tl_y (hg v f (h2 a b d e).1) a b d e (h2 a b d e).2⟩
theorem jj5 {c:Vl→Ty→Bool×Value} {g:Vl→Ty→Fu}(h:jap Tryz.prog 97 (sp2 c))(hg:∀v f,(c v f).1=true→jc5 v f=g v f)
  (hu:∀(v:Vl) (f t:Ty) (R:Value→Prop),ja2 Tryz.prog (Un c) noL Tryz.f34 [Enc.enc v,Enc.enc f,Enc.enc t] (fun _=>none) 0 (fun v _ _=>R v)=hd34 R v f t (c v f).1 (tn34 R (g v f) t)):jap Tryz.prog 34 (sp3 (s34i c false)):=by
 refine ji4 (ok_Un h) hmix fn34 jai (jag (by kernel_rfl)) fun v f t hc=> ?_
 obtain⟨h1,h2⟩:=i_c hc;rw[ja3,hu];exact hd_ok h1 fun a b d e=>⟨(h2 a b d e).1,tl_n h1.1 (hg v f (h2 a b d e).1) a b d e (h2 a b d e).2⟩
def cF:Fin 4→Vl→Ty→Bool×Value
 | 0=>s97w
 | 1=>s97b
 | 2=>s97p
 | 3=>s97c
theorem ok34y:∀i,jap Tryz.prog 34 (sp3 (s34i (cF i) true))
 | 0=>jjz ok97w (fun _ _=>fm_w) u34yw
 | 1=>jjz ok97b (fun _ _=>fm_b) u34yb
 | 2=>jjz ok97p (fun _ _=>fm_p) u34yp
 | 3=>jjz ok97c (fun _ _=>fm_c) u34yc
theorem ok34n:∀i,jap Tryz.prog 34 (sp3 (s34i (cF i) false))
 | 0=>jj5 ok97w (fun _ _=>fm_w) u34nw
 | 1=>jj5 ok97b (fun _ _=>fm_b) u34nb
 | 2=>jj5 ok97p (fun _ _=>fm_p) u34np
 | 3=>jj5 ok97c (fun _ _=>fm_c) u34nc
def s34u (v:Vl)(f t:Ty):Bool×Value:=(decide (toC v f t),toR v f t)
theorem cuF_of {v:Vl} {f:Ty}(hf:f.s.size≤9223372036854775807)(hv:v.s.size≤9223372036854775807)(h:fit4 v f=0):cuF (jc5 v f):=by
 unfold fit4 at h;split at h
 ·rename_i q;exact absurd h q
 rename_i c1;split at h
 case isFalse=>cases h
 rename_i i1;have c1:chk4 f=0:=by simpa using c1
 unfold is4 at i1;unfold jc5;by_cases k12:f.k=1∨f.k=2
 ·rw[if_pos k12]at i1 ⊢
  have hV:jbk f:=by
   unfold chk4 at c1;split at c1
   ·assumption
   ·rw[if_neg (by omega),if_neg (by omega),if_neg (by omega),if_neg (by omega)]at c1;cases c1
  have hb:=Fx.bnd_range hV;have i1:Fx.fits v f=0:=by simpa using i1
  unfold Fx.fits at i1;rw[if_pos hV]at i1;split at i1
  ·rename_i hF;obtain⟨-,g1,g2⟩:=hF;exact⟨hV,by omega,by omega⟩
  ·cases i1
 ·rw[if_neg k12]at i1 ⊢;by_cases k4:f.k=4
  ·rw[if_pos k4];rw[if_neg (by omega),if_pos k4]at i1;simp only[jaf,jae]at i1;have:=p1000 c1 (.inr k4)
   have h64:f.p≤64:=by
    unfold chk4 at c1;rw[if_neg (fun q=>k12 q.1),if_neg (by omega)]at c1;split at c1
    ·rename_i q;exact q.2.2.2.2.2
    ·rw[if_neg (by omega),if_neg (by omega)]at c1;cases c1
   exact⟨i1.2,by omega⟩
  ·rw[if_neg k4];split
   ·rename_i q;exact⟨q.2,hv,hf⟩
   ·exact hv
theorem ok34u:jap Tryz.prog 34 (sp3 s34u):=by
 refine jf7 (T:=fun i:Fin 4×Bool=>sp3 (s34i (cF i.1) i.2)) (0,true) (fun i=> ?_) fun args bs r hs=> ?_
 ·obtain⟨i,b⟩:=i;cases b
  ·exact ok34n i
  ·exact ok34y i
 ·unfold sp3 at hs;split at hs
  case h_2=>cases hs
  split at hs
  case h_2=>cases hs
  rename_i v f t hv hf ht;simp only[s34u,Option.some.injEq,Prod.mk.injEq]at hs;obtain⟨hc,rfl⟩:=hs;have hC:=jab hc
  have key:∃i:Fin 4×Bool,(decide (earl v f t) || (cF i.1 v f).1&&cuK i.2 (jc5 v f) t)=true:=by
   by_cases he:earl v f t
   ·exact⟨(0,true),by rw[jaa he];rfl⟩
   have h1:fit4 v f=0:=Classical.not_not.1 fun q=>he (.inl q)
   have h2:chk4 t=0:=Classical.not_not.1 fun q=>he (.inr (.inl q))
   have h4:t.k≠6:=fun q=>he (.inr (.inr (.inr q)))
   have hk:cuK (cuV (jc5 v f) t).2.2.2.isNone (jc5 v f) t=true:=jhs.2 ⟨⟨cuF_of hC.2.1 hC.2.2 h1,h2,h4,hC.1⟩,rfl⟩
   have hi:∃i,(cF i v f).1=true:=by
    by_cases k12:f.k=1∨f.k=2
    ·exact⟨0,jaa k12⟩
    by_cases k4:f.k=4
    ·exact⟨1,jaa k4⟩
    by_cases k5:f.k=5∧pN (bz f.s)=true
    ·exact⟨2,jaa ⟨k5.1,k5.2,hC.2.1⟩⟩
    ·exact⟨3,jaa ⟨k12,k4,fun q w=>k5 ⟨q,w⟩,hC.2.1⟩⟩
   obtain⟨i,hi⟩:=hi;exact⟨(i,_),by rw[hi,hk];simp⟩
  obtain⟨i,hi⟩:=key;refine⟨i,?_⟩;unfold sp3;simp only[hv,hf,ht];refine congrArg some (Prod.ext ?_ rfl);show(decide (toC v f t) &&_)=true;rw[hc,hi];rfl
instance tabsU9:Tabs:=tabs
def Y0:Env:=Env.nil
theorem ok_Y0:jax Tryz.prog Y0:=jan
def s96 (v:Vl):Bool×Value:=(true,B (decide ((v.s.size:Int)> 2000)))
theorem fn96:Fn1 Tryz.prog 96 Tryz.f96:= .m Tryz.func96 (by kernel_rfl)
theorem v96 (v:Vl)(R:Value→Prop):ja2 Tryz.prog Y0 noL Tryz.f96 [Enc.enc v] (fun _=>none) 0 (fun v _ _=>R v)=(R (B (decide ((v.s.size:Int)> 2000)))):=by kernel_rfl
theorem ok96:jap Tryz.prog 96 (sp1 s96):=by
 refine jca ok_Y0 hmix fn96 jai (jag (by kernel_rfl)) fun v hc=> ?_
 rw[ja3,v96]
 try dsimp only[s96]
def Y1:Env:=Env.nil.add 96 (sp1 s96)
theorem ok_Y1:jax Tryz.prog Y1:=jak jan ok96
def Y1_165:Env:=Env.nil.addG 165 (inl Tryz.prog Y1 noL Tryz.f165)
theorem fn165:Fn1 Tryz.prog 165 Tryz.f165:= .m Tryz.func165 (by kernel_rfl)
theorem ok_Y1_165:jax Tryz.prog Y1_165:=jam jan (jjp ok_Y1 hmix fn165 jai)
def Y1_95:Env:=(Env.nil.add 96 (sp1 s96)).addG 95 (inl Tryz.prog Y1_165 noL Tryz.f95)
theorem fn95:Fn1 Tryz.prog 95 Tryz.f95:= .m Tryz.func95 (by kernel_rfl)
theorem ok_Y1_95:jax Tryz.prog Y1_95:=jam (jak jan ok96) (jjp ok_Y1_165 hmix fn95 jai)
def Y1_31:Env:=((Env.nil.add 19 (sp1 z19)).add 23 (sp2 z22)).addG 31 (inl Tryz.prog Y1_95 noL Tryz.f31)
theorem fn31:Fn1 Tryz.prog 31 Tryz.f31:= .m Tryz.func31 (by kernel_rfl)
theorem ok_Y1_31:jax Tryz.prog Y1_31:=jam (jak (jak jan ok19s) (z22_eq2▸ok23)) (jjp ok_Y1_95 hmix fn31 jai)
def s47 (v:Vl)(t:Ty):Bool×Value:=(decide (t.s.size≤9223372036854775807∧v.s.size≤9223372036854775807),B (decide (t.s.size≤200∧v.s.size≤2000) &&ftT v t==0))
theorem fn47:Fn1 Tryz.prog 47 Tryz.f47:= .m Tryz.func47 (by kernel_rfl)
theorem v47 (v:Vl)(t:Ty)(R:Value→Prop):ja2 Tryz.prog Y1_31 noL Tryz.f47 [Enc.enc v,Enc.enc t] (fun _=>none) 0 (fun v _ _=>R v)=(bif decide (qds (Fx.Ty.s t)≤200)then bif decide (0<natO 1)then bif decide (qds (Fx.Vl.s v)> 2000)then qfr R else bif decide (1<natO 1)then False else qdg (Fx.Vl.s v) (Fx.Ty.s t) (ftT v t) R else qdg (Fx.Vl.s v) (Fx.Ty.s t) (ftT v t) R else qfr R):=by kernel_rfl
theorem ok47:jap Tryz.prog 47 (sp2 s47):=by
 refine jc1 ok_Y1_31 hmix fn47 jai (jag (by kernel_rfl)) fun v t hc=> ?_
 rw[ja3,v47];delta qfr qb5 qg3 qdg qds;have hc:(t.s.size≤9223372036854775807∧v.s.size≤9223372036854775807):=jab hc
 try dsimp only[s47]
 have n1:∀k:Nat,decide ((k:Int) <natO 1)=decide (k<1):=fun k=>by rw[jb4,decide_eq_decide];omega
 have a0:decide ((0:Int) <natO 1)=true:=by rw[jb4];decide
 have a1:decide ((1:Int) <natO 1)=false:=by rw[jb4];decide
 rw[a0,a1];refine cond_intro (fun h=> ?_) (fun h=> ?_)
 ·have h:=jab h;refine c_t rfl (cond_intro (fun q=> ?_) (fun q=> ?_))
  ·have q:=jab q;rw[jad (fun z=>by omega)];rfl
  ·have q:=jac q;refine c_f rfl (c_t (jaa hc) ?_);rw[jaa (show t.s.size≤200∧v.s.size≤2000 by omega)];rfl
 ·have h:=jac h;rw[jad (fun z=>by omega)];rfl
theorem ex_to (v:Vl)(f t:Ty):∃x:Int×ByteArray×Int×Int,x=toV v f t:=⟨_,rfl⟩
def toH (v:Vl)(f t:Ty):Int×ByteArray×Int×Int:=Classical.choose (ex_to v f t)
theorem jks (v:Vl)(f t:Ty):toH v f t=toV v f t:=Classical.choose_spec (ex_to v f t)
def s34h (v:Vl)(f t:Ty):Bool×Value:=(decide (toC v f t),tp3 (toH v f t).1 (toH v f t).2.1 (toH v f t).2.2.1 (I (toH v f t).2.2.2))
theorem s34h_eq:s34h=s34u:=by funext v f t;unfold s34h s34u;rw[jks]
def Q13:Env:=((((((Env.nil.add 18 (sp0 Cs.s18)).add 19 (sp1 z19)).add 21 (sp1 z20)).add 34 (sp3 s34h)).add 47 (sp2 s47)).addG 24 hidN).add 55 (sp2 s55)
theorem tk_c (b:Int):∀(l:List Int) (x k:Int),(tkGo b l x k).2=k∨(tkGo b l x k).2=1
 | [],_,_=> .inl rfl
 | d::r,x,k=>by
  unfold tkGo;split
  ·exact .inr ((tk_c b r _ 1).elim id id)
  ·exact tk_c b r _ k
theorem tkV_c (g:Bool)(l:List Int)(c:Int)(t:Ty):(tkV g l c t).2.1=0∨(tkV g l c t).2.1=1:=by
 unfold tkV;split
 ·exact .inl rfl
 split
 ·exact .inl rfl
 ·exact tk_c _ _ _ _
theorem jkj {v:Vl} {f t:Ty}(hv:fit4 v f=0)(hk:f.k=3)(ht:chk4 t=0)(h6:t.k≠6):toV v f t=if(cuV (.c v.s) t).2.2.2=none then((cuV (.c v.s) t).1,(cuV (.c v.s) t).2.1,(cuV (.c v.s) t).2.2.1,0)else(0,zrV t,4,0):=by
 unfold toV;have e:jc5 v f= .c v.s:=by unfold jc5;rw[if_neg (by omega),if_neg (by omega),if_neg (by omega)]
 rw[if_neg (by simp[hv]),if_neg (by simp[ht]),if_neg (by omega),e]
theorem toV_num {v:Vl} {f t:Ty}(hv:fit4 v f=0)(hk:f.k=3)(ht:chk4 t=0)(h12:t.k=1∨t.k=2) {b g:Bool} {d:ByteArray} {c:Int}(h:RdN v.s b g d c):((toV v f t).2.2.2==0&& ((toV v f t).2.2.1==4)== !b)=true:=by
 rw[jkj hv hk ht (by omega)];have e:cuV (.c v.s) t=cuN (.c v.s) fun x=>((tkU x t).1,⟨#[]⟩,(tkU x t).2.1,none):=if_pos h12
 rcases h with⟨h,h1,-⟩ | ⟨l,h,-,h1⟩
 ·rw[e,cuN,show numU (.c v.s)=none from h,h1];rfl
 ·rw[e,cuN,show numU (.c v.s)=some (g,l,c)from h,h1];have:=tkV_c g (bz (szO l)) c t;rw[if_pos rfl];show((0:Int)==0&& ((tkV g (bz (szO l)) c t).2.1==4)== !true)=true;rcases this with q | q<;>rw[q] <;>rfl
theorem toV_bit {v:Vl} {f t:Ty}(hv:fit4 v f=0)(hk:f.k=3)(ht:chk4 t=0)(h4:t.k=4):(toV v f t).2.2.2=0∧((toV v f t).2.2.1==4)= !jb8 (bz v.s):=by
 rw[jkj hv hk ht (by omega)];have e:cuV (.c v.s) t=(0,fiU ((bitU (.c v.s)).getD ⟨#[]⟩) t.p 48,0,if(bitU (.c v.s)).isSome then none else some (txtU (.c v.s))):=by unfold cuV;rw[if_neg (by omega),if_neg (by omega),if_pos h4]
 rw[e];cases hb:jb8 (bz v.s)with
 | true=>rw[show bitU (.c v.s)=some v.s from if_pos hb];exact⟨rfl,rfl⟩
 | false=>rw[show bitU (.c v.s)=none from if_neg (by rw[hb];decide)];exact⟨rfl,rfl⟩
theorem toV_chr {v:Vl} {f t:Ty}(hv:fit4 v f=0)(hk:f.k=3)(ht:chk4 t=0)(h3:t.k=3):(toV v f t).2.2.2=0∧(toV v f t).2.2.1=0:=by
 rw[jkj hv hk ht (by omega)];have e:cuV (.c v.s) t=(0,if t.v=true∧ ¬((txtU (.c v.s)).size:Int)> t.p then txtU (.c v.s)else fiU (txtU (.c v.s)) t.p 32,0,none):=by unfold cuV;rw[if_neg (by omega),if_pos h3]
 rw[e];exact⟨rfl,rfl⟩
theorem ok_Q13:jax Tryz.prog Q13:=jak (jam (jak (jak (jak (jak (jak jan Cs.ok18) ok19s) (z20_eq2▸ok21)) (s34h_eq▸ok34u)) ok47) gen_hidN) ok55
def s13 (v:Vl)(f:Ty)(t:Ty):Bool×Value:=(decide (toC v f t),B true)
theorem fn13:Fn1 Tryz.prog 13 Tryz.f13:= .m Tryz.func13 (by kernel_rfl)
def qef (c d e f h i:Bool)(b:Fx.Ty)(a:Fx.Vl)(j k l:Prop)(g:Value→Prop):Prop:=bif qb5 (Fx.Vl.s a) (Fx.Ty.s b).size 9223372036854775807 9223372036854775807&& (!(qb5 (Fx.Vl.s a) (Fx.Ty.s b).size 200 2000&&ftT a b==0) || (c || d))then bif !(qb5 (Fx.Vl.s a) (Fx.Ty.s b).size 200 2000&&ftT a b==0) || (c || (e || f))then qgg g else bif h then qg5 i j k else l else False
def qea (b c:Fx.Ty)(a:Fx.Vl):Bool:=(toH a b c).snd.snd.snd==0
def qdd (f g:Fx.Ty)(e:Fx.Vl)(h:Value→Prop):Prop:=bif qdr (Fx.Vl.s e)then∀a:Bool,∀b:Bool,∀c:ByteArray,∀d:Int,RdN (Fx.Vl.s e) a b c d→qff (qea f g e || true) (B (qea f g e&& ((toH e f g).snd.snd.fst==4)==(!a))) h else False
theorem v13 (v:Vl)(f:Ty)(t:Ty)(R:Value→Prop):ja2 Tryz.prog Q13 noL Tryz.f13 [Enc.enc v,Enc.enc f,Enc.enc t] (fun _=>none) 0 (fun v _ _=>R v)=(qef (Fx.Ty.k f !=3) (!decide (qds (Fx.Ty.s t)≤200) || qdr (Fx.Ty.s t) &&true) (!decide (qds (Fx.Ty.s t)≤200)) (ckT t !=0) (decide (toC v f t)) (qdo t 1) f v (qdd f t v R) (bif qdo t 2 then qdd f t v R else bif qdo t 4 then qf4 (qea f t v) (qdr (Fx.Vl.s v) &&qdi [49] 48&&true) (((toH v f t).snd.snd.fst==4)==(!qcn (Fx.Vl.s v) [49] 48)) R else bif qdo t 3 then qff (qea f t v || true) (B (qea f t v&& (toH v f t).snd.snd.fst==0)) R else qgg R) False R):=by kernel_rfl
theorem ok13:jap Tryz.prog 13 (sp3 s13):=by
 refine ji4 ok_Q13 hmix fn13 jai (jag (by kernel_rfl)) fun v f t hc=> ?_
 rw[ja3,v13];delta qg5 qgg qb5 qef qff qea qdo qf4 qa4 qfi qcn qbc qdi qdr qdd qds;have hc:(toC v f t):=jab hc
 try dsimp only[s13]
 obtain⟨hT,hF,hV⟩:=hc;refine c_t (by rw[jaa (show f.s.size≤9223372036854775807∧v.s.size≤9223372036854775807 from⟨hF,hV⟩),jaa hT];simp) ?_;refine cond_intro (fun _=>rfl) (fun h=> ?_);simp only[Bool.or_eq_false_iff,Bool.not_eq_false',jaf,jae,beq_iff_eq,bne_eq_false_iff_eq,jja,jjd]at h;obtain⟨⟨-,hv⟩,hk,ht,htv⟩:=h;refine c_t (jaa ⟨hT,hF,hV⟩) ?_;rw[jks];refine cond_intro (fun k1=> ?_) (fun k1=>cond_intro (fun k2=> ?_) (fun k2=>cond_intro (fun k4=> ?_) (fun k4=>cond_intro (fun k3=> ?_) (fun _=>rfl))))
 ·exact c_t (jaa hV) fun b g d c hr=>c_t (Bool.or_true _) (by rw[toV_num hv hk htv (.inl (by simpa using k1)) hr])
 ·exact c_t (jaa hV) fun b g d c hr=>c_t (Bool.or_true _) (by rw[toV_num hv hk htv (.inr (by simpa using k2)) hr])
 ·have hb:=toV_bit hv hk htv (by simpa using k4)
  have hT:((szO (jb9 (bz v.s) (bz ⟨#[48,49]⟩))).toList==(⟨#[]⟩:ByteArray).toList)=jb8 (bz v.s):=by
   rw[jcm,jdk (trim_isB (jdm v.s))];exact jgz (bz v.s)
  rw[hT,hb.1,hb.2];refine c_t (by rw[jaa hV];kernel_rfl) ?_;cases jb8 (bz v.s) <;>rfl
 ·have hb:=toV_chr hv hk htv (by simpa using k3);exact c_t (Bool.or_true _) (by rw[hb.1,hb.2];rfl)
theorem fill_fill (l:List Int)(q p:Nat)(c:Int)(h:l.length≤q):jdj (jdj l q c) p c=jdj l p c:=by
 unfold jdj;rw[List.take_of_length_le h,List.length_append,List.length_replicate];by_cases h1:p≤l.length
 ·rw[List.take_append_of_le_length h1,show p - (l.length+(q - l.length))=0 by omega,show p - l.length=0 by omega]
 ·rw[List.take_append,List.take_of_length_le (by omega:l.length≤p),List.append_assoc,List.take_replicate,List.replicate_append_replicate];congr 2;omega
theorem jin (l:List Int)(q:Nat)(c:Int)(h:l.length≤q):(jdj l q c).length=q:=by
 unfold jdj;rw[List.take_of_length_le h,List.length_append,List.length_replicate];omega
theorem fill_self (l:List Int)(c:Int):jdj l l.length c=l:=by
 unfold jdj;rw[List.take_of_length_le (Nat.le_refl _),Nat.sub_self];simp
theorem fill_isB {l:List Int}(hl:IsB l) {q:Nat} {c:Int}(hc:0≤c∧c<256):IsB (jdj l q c):=(hl.take _).append fun x hx=>by rw[List.eq_of_mem_replicate hx];omega
theorem trR_pad (l:List Int)(k:Nat):trR (l++List.replicate k 32)=trR l:=by
 unfold trR;rw[List.reverse_append,jgt];rw[List.all_eq_true];intro x hx;rw[List.mem_reverse]at hx;rw[List.eq_of_mem_replicate hx];rfl
theorem trL_pad (l:List Int)(k:Nat):trR (trL (l++List.replicate k 32))=trR (trL l):=by
 unfold trL;by_cases h:l.all (· ==32)=true
 ·rw[jgt h]
  have e:l.dropWhile (· ==32)=[]:=by
   have:=jgt (p:=(· ==(32:Int))) (l:=l) (r:=[]) h;simpa using this
  have e2:(List.replicate k (32:Int)).dropWhile (· ==32)=[]:=by simp
  rw[e,e2]
 ·have e:(l++List.replicate k 32).dropWhile (· ==32)=l.dropWhile (· ==32)++List.replicate k 32:=by
   rw[List.dropWhile_append];rw[if_neg];intro q;apply h;rw[List.all_eq_true];exact drop_nil (by simpa using q)
  rw[e,trR_pad]
theorem rdN_pad (l:List Int)(q:Nat)(h:l.length≤q)(hq:q≤255):rdN (jdj l q 32)=rdN l:=by
 unfold rdN;rw[jin l q 32 h,if_neg (by omega),if_neg (by omega)];unfold numR jdj;rw[List.take_of_length_le h,trL_pad]
theorem bz_fi {s:ByteArray} {n c:Int}(hc:0≤c∧c<256):bz (fiU s n c)=jdj (bz s) n.toNat c:=jdk (fill_isB (jdm s) hc)
theorem cu_pad {s:ByteArray} {q:Int} {t:Ty}(h:(s.size:Int)≤q)(hq:q≤255)(ht:chk4 t=0)(h6:t.k≠6)(hb:t.k=4→q=s.size)(hv:t.v=false):
  (cuV (.c (fiU s q 32)) t).1=(cuV (.c s) t).1∧(cuV (.c (fiU s q 32)) t).2.1=(cuV (.c s) t).2.1∧(cuV (.c (fiU s q 32)) t).2.2.1=(cuV (.c s) t).2.2.1∧((cuV (.c (fiU s q 32)) t).2.2.2=none↔(cuV (.c s) t).2.2.2=none):=by
 have hl:(bz s).length≤q.toNat:=by rw[jao];omega
 have hn:numU (.c (fiU s q 32))=numU (.c s):=by
  show rdN (bz (fiU s q 32))=rdN (bz s);rw[bz_fi (by omega)];exact rdN_pad _ _ hl (by omega)
 have hf:∀w:Int,fiU (fiU s q 32) w 32=fiU s w 32:=fun w=>by
  show szO (jdj (bz (fiU s q 32)) _ _)=szO (jdj (bz s) _ _);rw[bz_fi (by omega),fill_fill _ _ _ _ hl]
 have hN:∀C:Num→Cu,(cuN (.c (fiU s q 32)) C).1=(cuN (.c s) C).1∧(cuN (.c (fiU s q 32)) C).2.1=(cuN (.c s) C).2.1∧(cuN (.c (fiU s q 32)) C).2.2.1=(cuN (.c s) C).2.2.1∧((cuN (.c (fiU s q 32)) C).2.2.2=none↔(cuN (.c s) C).2.2.2=none):=fun C=>by
  unfold cuN;rw[hn];cases numU (.c s)with
  | some x=>exact⟨rfl,rfl,rfl,Iff.rfl⟩
  | none=>exact⟨rfl,rfl,rfl,by simp⟩
 unfold cuV;by_cases k12:t.k=1∨t.k=2
 ·rw[if_pos k12,if_pos k12];exact hN _
 rw[if_neg k12,if_neg k12];by_cases k3:t.k=3
 ·rw[if_pos k3,if_pos k3,if_neg (by rw[hv];simp),if_neg (by rw[hv];simp)];exact⟨rfl,hf _,rfl,Iff.rfl⟩
 rw[if_neg k3,if_neg k3];by_cases k4:t.k=4
 ·have e:fiU s q 32=s:=by
   show szO (jdj (bz s) _ _)=s;rw[hb k4,show((s.size:Int)).toNat=(bz s).length by rw[jao];omega,fill_self,jcx,jg2]
  rw[e];exact⟨rfl,rfl,rfl,Iff.rfl⟩
 rw[if_neg k4,if_neg k4];split
 ·exact hN _
 ·show(if hoZ (bz t.s) (bz (fiU (fiU s q 32) _ 32))=true then _ else _:Cu).1=_∧_;simp only[txtU,hf];exact⟨rfl,rfl,rfl,Iff.rfl⟩
instance tabsU10:Tabs:=tabs
def QA:Env:=Env.nil.add 34 (sp3 s34h)
theorem ok_QA:jax Tryz.prog QA:=jak jan (s34h_eq▸ok34u)
def s48 (v:Vl)(f:Ty)(t:Ty)(w:Vl)(c:Int):Bool×Value:=(decide (toC v f t),B (decide ((toH v f t).1=w.n∧bz (toH v f t).2.1=bz w.s∧(toH v f t).2.2.1=c∧(toH v f t).2.2.2=0)))
theorem fn48:Fn1 Tryz.prog 48 Tryz.f48:= .m Tryz.func48 (by kernel_rfl)
theorem v48 (v:Vl)(f:Ty)(t:Ty)(w:Vl)(c:Int)(R:Value→Prop):ja2 Tryz.prog QA noL Tryz.f48 [Enc.enc v,Enc.enc f,Enc.enc t,Enc.enc w,Enc.enc c] (fun _=>none) 0 (fun v _ _=>R v)=(bif decide (toC v f t)then qf4 (qea f t v) ((toH v f t).fst==Fx.Vl.n w&& (qa4 (toH v f t).snd.fst (Fx.Vl.s w) &&true) || true) ((toH v f t).fst==Fx.Vl.n w&& (qa4 (toH v f t).snd.fst (Fx.Vl.s w) &&true) && (toH v f t).snd.snd.fst==c) R else False):=by kernel_rfl
theorem ok48:jap Tryz.prog 48 (sp5 s48):=by
 refine qure5 ok_QA hmix fn48 jai (jag (by kernel_rfl)) fun v f t w c hc=> ?_
 rw[ja3,v48];delta qff qf4 qa4 qea;have hc:(toC v f t):=jab hc
 try dsimp only[s48]
 refine c_t (jaa hc) ?_;simp only[Bool.or_true,beq_iff_eq,Bool.and_true,jcf];refine c_t (by cases((toH v f t).2.2.2==0) <;>rfl) ?_;congr 1;rw[Bool.eq_iff_iff];simp only[jaf,jae,beq_iff_eq];constructor
 ·rintro ⟨h1,⟨h2,h3⟩,h4⟩;exact⟨h2,h3,h4,h1⟩
 ·rintro ⟨h2,h3,h4,h1⟩;exact⟨h1,⟨h2,h3⟩,h4⟩
def QB:Env:=Env.nil
def QC0:Env:=Env.nil
def QC:Env:=(((((((Env.nil.add 18 (sp0 Cs.s18)).add 19 (sp1 z19)).add 21 (sp1 z20)).add 34 (sp3 s34h)).add 47 (sp2 s47)).add 48 (sp5 s48)).addG 51 (inlQ Tryz.prog QB noL Tryz.f51)).addG 54 (inlQ Tryz.prog QC0 noL Tryz.f54)
theorem fn51:Fn1 Tryz.prog 51 Tryz.f51:= .m Tryz.func51 (by kernel_rfl)
theorem fn54u:Fn1 Tryz.prog 54 Tryz.f54:= .m Tryz.func54 (by kernel_rfl)
theorem fn12:Fn1 Tryz.prog 12 Tryz.f12:= .m Tryz.func12 (by kernel_rfl)
theorem ok_QB:jax Tryz.prog QB:=jan
theorem ok_QC0:jax Tryz.prog QC0:=jan
theorem ok_QC:jax Tryz.prog QC:=jam (jam (jak (jak (jak (jak (jak (jak jan Cs.ok18) ok19s) (z20_eq2▸ok21)) (s34h_eq▸ok34u)) ok47) ok48) (jar ok_QB hmix fn51 jai)) (jar ok_QC0 hmix fn54u jai)
def tl12 (R:Value→Prop)(v:Vl)(f t b:Ty):Prop:=
 bif decide (toC v f t)then bif decide (toC v f b)then
  bif (bif (toH v f t).2.2.2==0 then bif (toH v f b).2.2.2==0 then bif (toH v f b).2.2.1==0 then decide (toC ⟨(toH v f b).1,(toH v f b).2.1⟩ b t) &&true else true else true else true)then
   R (.bool ((toH v f t).2.2.2==0&& ((toH v f b).2.2.2==0&& ((toH v f b).2.2.1==0&&decide ((toH ⟨(toH v f b).1,(toH v f b).2.1⟩ b t).1=(toH v f t).1∧bz (toH ⟨(toH v f b).1,(toH v f b).2.1⟩ b t).2.1=bz (toH v f t).2.1∧(toH ⟨(toH v f b).1,(toH v f b).2.1⟩ b t).2.2.1=(toH v f t).2.2.1∧(toH ⟨(toH v f b).1,(toH v f b).2.1⟩ b t).2.2.2=0)))))
  else False else False else False
def qB (c n p m:Int):Int:=imin c (IntKind.wrap IntKind.i64 (p+imax 0 (imin m n)))
theorem u12 (v:Vl)(f t:Ty)(m:Int)(R:Value→Prop):ja2 Tryz.prog QC noL Tryz.f12 [Enc.enc v,Enc.enc f,Enc.enc t,Enc.enc m] (fun _=>none) 0 (fun v _ _=>R v)=(qef (!decide (qds (Fx.Ty.s t)≤200)) (qdr (Fx.Ty.s t) && (ckT t !=0 || true)) (ckT t !=0) (qdo t 6) (qdo f 3) (qgu (qdo t 4) (decide (qds (Fx.Vl.s v) <qB 255 300 (Fx.Ty.p f) m) || true) true) f v (bif qgu (qdo t 4) (decide (qds (Fx.Vl.s v) <qB 255 300 (Fx.Ty.p f) m) || Fx.Ty.v t) (Fx.Ty.v t)then qgg R else tl12 R v f t (Fx.Ty.mk 3 (qB 255 300 (Fx.Ty.p f) m) 0 false qfi)) False (bif qdo f 4 then bif Fx.Ty.k t !=4 then qgg R else tl12 R v f t (Fx.Ty.mk 4 (qB 64 70 (Fx.Ty.p f) m) 0 false qfi)else qgg R) R):=by kernel_rfl
theorem q_r {c n p m:Int}(h:0≤p∧p≤c)(hn:0≤n∧n≤1000)(hc:0≤c∧c≤1000):p≤qB c n p m∧qB c n p m≤c:=by
 unfold qB;rw[Fx.imin_min,Fx.imax_max,Fx.imin_min,w64 (by omega)];omega
theorem b3_ok {v:Vl} {f:Ty} {q:Int}(hv:fit4 v f=0)(hk:f.k=3)(hq:(v.s.size:Int)≤q∧q≤255):toV v f ⟨3,q,0,false,⟨#[]⟩⟩=(0,fiU v.s q 32,0,0)∧fit4 ⟨0,fiU v.s q 32⟩ ⟨3,q,0,false,⟨#[]⟩⟩=0∧(fiU v.s q 32).size=q.toNat:=by
 have hc:chk4 ⟨3,q,0,false,⟨#[]⟩⟩=0:=by
  unfold chk4;rw[if_neg (fun h=>by have:=h.1;simp at this),if_pos ⟨rfl,rfl,rfl,by show(0:Int)≤q;omega,hq.2⟩]
 have hz:(fiU v.s q 32).size=q.toNat:=by
  rw[fiU,jc3,jin _ _ _ (by rw[jao];omega)]
 refine⟨?_,?_,hz⟩
 ·rw[jkj hv hk hc (by show(3:Int)≠6;decide)]
  have e:cuV (.c v.s) ⟨3,q,0,false,⟨#[]⟩⟩=(0,fiU v.s q 32,0,none):=by
   unfold cuV;rw[if_neg (by show¬((3:Int)=1∨(3:Int)=2);decide),if_pos rfl,if_neg (by simp)];rfl
  rw[e];rfl
 ·unfold fit4;rw[if_neg (by rw[hc];decide),if_pos];unfold is4;rw[if_neg (by show¬((3:Int)=1∨(3:Int)=2);decide),if_pos rfl];exact jaa ⟨rfl,.inl (by rw[hz];show((q.toNat:Nat):Int)=q;omega)⟩
theorem by_c {v:Vl} {f t:Ty} {q:Int}(hv:fit4 v f=0)(hk:f.k=3)(hq:(v.s.size:Int)≤q∧q≤255)(ht:chk4 t=0)(h6:t.k≠6)(hb:t.k=4→q=v.s.size)(hw:t.v=false):
  toV ⟨0,fiU v.s q 32⟩ ⟨3,q,0,false,⟨#[]⟩⟩ t=toV v f t∧(toV v f t).2.2.2=0:=by
 obtain⟨-,h2,-⟩:=b3_ok hv hk hq;rw[jkj h2 rfl ht h6,jkj hv hk ht h6];obtain⟨c1,c2,c3,c4⟩:=cu_pad hq.1 hq.2 ht h6 hb hw;show(if(cuV (.c (fiU v.s q 32)) t).2.2.2=none then((cuV (.c (fiU v.s q 32)) t).1,(cuV (.c (fiU v.s q 32)) t).2.1,(cuV (.c (fiU v.s q 32)) t).2.2.1,(0:Int))else(0,zrV t,4,0))=_∧_;by_cases h:(cuV (.c v.s) t).2.2.2=none
 ·rw[if_pos h,if_pos (c4.2 h),c1,c2,c3];exact⟨rfl,rfl⟩
 ·rw[if_neg h,if_neg (fun z=>h (c4.1 z))];exact⟨rfl,rfl⟩
theorem jlk {v:Vl} {f t:Ty}(hv:fit4 v f=0)(hk:f.k=4)(ht:chk4 t=0)(h4:t.k=4):toV v f t=(0,fiU v.s t.p 48,0,0):=by
 unfold toV;have e:jc5 v f= .b v.s:=by unfold jc5;rw[if_neg (by omega),if_pos hk]
 have c:cuV (.b v.s) t=(0,fiU v.s t.p 48,0,none):=by
  unfold cuV;rw[if_neg (by omega),if_neg (by omega),if_pos h4];rfl
 rw[if_neg (by simp[hv]),if_neg (by simp[ht]),if_neg (by omega),e,c];rfl
theorem b4_ok {v:Vl} {f:Ty} {q:Int}(hv:fit4 v f=0)(hk:f.k=4)(hq:(v.s.size:Int)≤q∧q≤64)(hbt:jb8 (bz v.s)=true):chk4 ⟨4,q,0,false,⟨#[]⟩⟩=0∧fit4 ⟨0,fiU v.s q 48⟩ ⟨4,q,0,false,⟨#[]⟩⟩=0∧(fiU v.s q 48).size=q.toNat:=by
 have hc:chk4 ⟨4,q,0,false,⟨#[]⟩⟩=0:=by
  unfold chk4;rw[if_neg (fun h=>by have:=h.1;simp at this),if_neg (fun h=>by have:=h.1;simp at this),if_pos ⟨rfl,rfl,rfl,rfl,by show(0:Int)≤q;omega,hq.2⟩]
 have hz:(fiU v.s q 48).size=q.toNat:=by
  rw[fiU,jc3,jin _ _ _ (by rw[jao];omega)]
 refine⟨hc,?_,hz⟩;unfold fit4;rw[if_neg (by rw[hc];decide),if_pos];unfold is4;rw[if_neg (by show¬((4:Int)=1∨(4:Int)=2);decide),if_neg (by show¬(4:Int)=3;decide),if_pos rfl,jaf];refine⟨jaa ⟨rfl,by show((fiU v.s q 48).size:Int)=q;rw[hz];omega⟩,?_⟩;show jb8 (bz (fiU v.s q 48))=true;rw[bz_fi (by omega)];unfold jdj jb8 at*;rw[List.take_of_length_le (by rw[jao];omega),List.all_append,hbt,Bool.true_and,List.all_eq_true];intro x hx;rw[List.eq_of_mem_replicate hx];rfl
theorem by_b {v:Vl} {f t:Ty} {q:Int}(hv:fit4 v f=0)(hk:f.k=4)(hq:(v.s.size:Int)≤q∧q≤64)(hbt:jb8 (bz v.s)=true)(ht:chk4 t=0)(h4:t.k=4):
  toV ⟨0,fiU v.s q 48⟩ ⟨4,q,0,false,⟨#[]⟩⟩ t=toV v f t:=by
 obtain⟨-,h2,-⟩:=b4_ok hv hk hq hbt;rw[jlk h2 rfl ht h4,jlk hv hk ht h4];refine congrArg (fun x=>((0:Int),x,(0:Int),(0:Int))) ?_;show szO (jdj (bz (fiU v.s q 48)) _ _)=szO (jdj (bz v.s) _ _);rw[bz_fi (by omega),fill_fill _ _ _ _ (by rw[jao];omega)]
theorem tl_12 {v:Vl} {f t b:Ty} {s:ByteArray}(h:toC v f t)(hb:b.s.size=0)(hs:s.size≤1000)(h0:(toV v f t).2.2.2=0)(h1:toV v f b=(0,s,0,0))(h2:toV ⟨0,s⟩ b t=toV v f t):tl12 (fun x=>x=B true) v f t b:=by
 unfold tl12;simp only[jks,h1,h2,h0];obtain⟨g1,g2,g3⟩:=h;refine c_t (jaa ⟨g1,g2,g3⟩) (c_t (jaa ⟨by omega,g2,g3⟩) (c_t ?_ ?_))
 ·show(decide (toC ⟨0,s⟩ b t) &&true)=true;rw[jaa (show toC ⟨0,s⟩ b t from⟨g1,by omega,by show s.size≤_;omega⟩)];rfl
 ·simp
theorem f3_facts {v:Vl} {f:Ty}(hv:fit4 v f=0)(hk:f.k=3):(v.s.size:Int)≤f.p∧0≤f.p∧f.p≤255:=by
 unfold fit4 at hv;split at hv
 ·rename_i q;exact absurd hv q
 rename_i c1;split at hv
 case isFalse=>cases hv
 rename_i i1;have c1:chk4 f=0:=by simpa using c1
 unfold is4 at i1;rw[if_neg (by omega),if_pos hk]at i1;have i1:=jab i1;unfold chk4 at c1;rw[if_neg (fun h=>by have:=h.1;omega)]at c1;split at c1
 ·rename_i q;omega
 ·rw[if_neg (by omega),if_neg (by omega),if_neg (by omega)]at c1;cases c1
theorem f4_facts {v:Vl} {f:Ty}(hv:fit4 v f=0)(hk:f.k=4):(v.s.size:Int)=f.p∧0≤f.p∧f.p≤64∧jb8 (bz v.s)=true:=by
 unfold fit4 at hv;split at hv
 ·rename_i q;exact absurd hv q
 rename_i c1;split at hv
 case isFalse=>cases hv
 rename_i i1;have c1:chk4 f=0:=by simpa using c1
 unfold is4 at i1;rw[if_neg (by omega),if_neg (by omega),if_pos hk,jaf]at i1;have i2:=jab i1.1;unfold chk4 at c1;rw[if_neg (fun h=>by have:=h.1;omega),if_neg (by omega)]at c1;split at c1
 ·rename_i q;exact⟨i2.2,q.2.2.2.2.1,q.2.2.2.2.2,i1.2⟩
 ·rw[if_neg (by omega),if_neg (by omega)]at c1;cases c1
def s12 (v:Vl)(f t:Ty)(_m:Int):Bool×Value:=(decide (toC v f t),B true)
theorem ok12:jap Tryz.prog 12 (sp4 s12):=by
 refine qure4 ok_QC hmix fn12 jai (jag (by kernel_rfl)) fun v f t m hc=> ?_
 rw[ja3,u12];delta qg5 qgg qb5 qef qfi qdo qgu qds qdr;have hC:toC v f t:=jab hc;have⟨hT,hF,hV⟩:=hC;refine c_t (by rw[jaa (show f.s.size≤9223372036854775807∧v.s.size≤9223372036854775807 from⟨hF,hV⟩),jaa hT];simp) ?_;refine cond_intro (fun _=>rfl) (fun h=> ?_);simp only[Bool.or_eq_false_iff,Bool.not_eq_false',jaf,jae,beq_iff_eq,bne_eq_false_iff_eq,jja,jjd,beq_eq_false_iff_ne]at h;obtain⟨⟨-,hv⟩,ht,htv,h6⟩:=h;refine cond_intro (fun k3=> ?_) (fun _=>cond_intro (fun k4=>cond_intro (fun _=>rfl) (fun t4=> ?_)) (fun _=>rfl))
 ·have k3:f.k=3:=by simpa using k3
  obtain⟨f1,f2,f3⟩:=f3_facts hv k3;obtain⟨q1,q2⟩:=q_r (m:=m) (n:=300) (show 0≤f.p∧f.p≤255 from⟨f2,f3⟩) (by omega) (by omega);refine c_t (by cases(t.k==4) <;>simp) (cond_intro (fun _=>rfl) (fun hq=> ?_))
  have hw:t.v=false∧(t.k=4→ ¬(v.s.size:Int) <qB 255 300 f.p m):=by
   by_cases t4:t.k=4
   ·rw[t4]at hq;have hq:(decide ((v.s.size:Int) <qB 255 300 f.p m) || t.v)=false:=hq;rw[Bool.or_eq_false_iff]at hq;exact⟨hq.2,fun _=>jac hq.1⟩
   ·rw[beq_eq_false_iff_ne.2 t4]at hq;exact⟨hq,fun h=>absurd h t4⟩
  have hqq:(v.s.size:Int)≤qB 255 300 f.p m∧qB 255 300 f.p m≤255:=⟨by omega,q2⟩
  obtain⟨b1,b2,b3⟩:=b3_ok hv k3 hqq;obtain⟨c1,c2⟩:=by_c hv k3 hqq htv h6 (fun h=>by have:=hw.2 h;omega) hw.1;exact tl_12 hC rfl (by rw[b3];omega) c2 b1 c1
 ·have k4:f.k=4:=by simpa using k4
  have t4:t.k=4:=by simpa using t4
  obtain⟨f1,f2,f3,f4⟩:=f4_facts hv k4;obtain⟨q1,q2⟩:=q_r (m:=m) (n:=70) (show 0≤f.p∧f.p≤64 from⟨f2,f3⟩) (by omega) (by omega);have hqq:(v.s.size:Int)≤qB 64 70 f.p m∧qB 64 70 f.p m≤64:=⟨by omega,q2⟩
  obtain⟨b1,b2,b3⟩:=b4_ok hv k4 hqq f4;exact tl_12 hC rfl (by rw[b3];omega) (by rw[jlk hv k4 htv t4]) (jlk hv k4 b1 rfl) (by_b hv k4 hqq f4 htv t4)
end Go.Cx
end
noncomputable section
namespace Go.Px
open Go Go.Proofs
open Go.Proofs.YtpflidodnhbeoaaGreatDoor
theorem q_laid:laidOutB Tryz.prog=true:=by kernel_rfl
theorem q_maps:mapsRowed Tryz.prog=true:=by kernel_rfl
theorem q_stop:(Tryz.prog.stops==[])=true:=by kernel_rfl
theorem q_knob:(Tryz.prog.stopKnobs==[])=true:=by kernel_rfl
theorem q_keys:(Rows.convertTypesRow.plainKeys==Tryz.prog.plainKeys)=true:=by kernel_rfl
theorem q_heard:Tryz.prog.stopsHeard=true:=by kernel_rfl
theorem q_enter:Tryz.prog.mayEnter=true:=by kernel_rfl
theorem q_lifts:(Rows.convertTypesRow.lifted==Tryz.prog.liftsFinal)=true:=by kernel_rfl
theorem q_make:(Tryz.prog.make==some Rows.convertTypesRow.make)=true:=by kernel_rfl
theorem main_is : Tryz.pinned.checked.prog.mainIs = some (true, ("2cb47cbf95087f7cc8d5ede91c198a947601d35cfd546d8bdc61f47b13d7b636" : String).toList) := by kernel_rfl
theorem looks_is:true=Tryz.pinned.checked.prog.looks []:=by kernel_rfl
end Go.Px
end
noncomputable section
namespace Go.Px
open Go Go.Ab Go.Proofs Go.Shelf Go.ChangeMaps Go.ChangeShapes Go.WideShapes Go.ChangeAt Go.RowKit Go.Joins
open Go.Proofs.YtpflidodnhbeoaaGreatDoor
theorem own:ownKnob Tryz.prog.godebug=none:=by kernel_rfl
def laidL:List (String×DataW Unit):=Rows.convertTypesRow.laid
theorem tab_is {P:Program} {W:World} {name:String} {k:IntKind} {zs:List Int} {g:Nat} {t e:TypeId} {n:Nat}(hr:Lib.VarReads P W name (Lib.tabData k zs))
  (hg:P.globalNamed name=some g) (hty:(P.globals[g]?).map (·.type)=some t) (ht:P.underlying t=some (.array n e)) (he:P.underlying e=some (.int k)) (hce:P.cellsOf e=1) (hct:P.cellsOf t=n):
  g<W.heap.size∧ ∃ty fr,W.heap[g]?=some (.cells ⟨zs.map fun z=>Value.int k z⟩ ty fr):=by
 obtain⟨g',t',cs,fuel,p,h1,h2,h3,h4⟩:=hr;obtain rfl:=Option.some.inj (hg.symm.trans h1);obtain rfl:=Option.some.inj (hty.symm.trans h2);have hc:=Lib.cells_of_tab ht he hce hct h4;unfold World.var? at h3;rw[hg,Option.bind_some]at h3;split at h3
 case h_2=>cases h3
 rename_i cs' ty fr hh;have h3:=Option.some.inj h3;refine⟨(Array.getElem?_eq_some_iff.1 hh).1,ty,fr,?_⟩;rw[hh,h3];congr 2;rw[←hc]
theorem rt : (Tryz.prog.cutTypes.find? (·.1 == "internal/reflectlite.rtype")).map (·.2) = some 229 := by kernel_rfl
theorem tsz:Tryz.prog.types.size=321:=by kernel_rfl
theorem oneRow:((List.range 321).filter fun t=>Tryz.prog.rowNamed t [101,114,114,111,114])=[105]:=by kernel_rfl
theorem hdl:typeHandle Tryz.prog 105= .pointer (some ⟨10,105,none⟩):=by kernel_rfl
theorem gE : Tryz.prog.globalNamed "errors.errorType" = some 0 := by kernel_rfl
theorem laid_h : laidL.filter (fun x => x.2.handleName?.isSome) = [("errors.errorType", Rows.laid_errors_errorType)] := by kernel_rfl
theorem laid_d : laidL.filter (fun x => x.2.handleName?.isNone) = ([("math/bits.deBruijn32tab", YtpflidodnhbeoaaGreatDoor.Rows.laid_math_bits_deBruijn32tab), ("math/bits.deBruijn64tab", YtpflidodnhbeoaaGreatDoor.Rows.laid_math_bits_deBruijn64tab), ("internal/strconv.uint64pow10", YtpflidodnhbeoaaGreatDoor.Rows.laid_internal_strconv_uint64pow10), ("unicode/utf8.acceptRanges", YtpflidodnhbeoaaGreatDoor.Rows.laid_unicode_utf8_acceptRanges), ("strconv.ErrRange", YtpflidodnhbeoaaGreatDoor.Rows.laid_strconv_ErrRange), ("strconv.ErrSyntax", YtpflidodnhbeoaaGreatDoor.Rows.laid_strconv_ErrSyntax), ("pliant/picture.punched", YtpflidodnhbeoaaGreatDoor.Rows.laid_pliant_picture_punched), ("unicode/utf8.first", YtpflidodnhbeoaaGreatDoor.Rows.laid_unicode_utf8_first)]) := by kernel_rfl
theorem handle_of_laid {W : World} (h : handlesMet Tryz.prog [("errors.errorType", Rows.laid_errors_errorType)] W) : 0 < W.heap.size ∧ ∃ ty fr, W.heap[0]? = some (.cells #[.iface 229 (.agg #[.pointer (some ⟨10, 105, none⟩)])] ty fr) := by
 obtain⟨name,u,ty,e1,e2,e3,e4,e5⟩:=h _ (List.mem_singleton.2 rfl);have en:name=[101,114,114,111,114]:=(Option.some.inj e1).symm;subst en;obtain rfl:=Option.some.inj (rt.symm.trans e2);have hm:ty∈(List.range 321).filter fun t=>Tryz.prog.rowNamed t [101,114,114,111,114]:=List.mem_filter.2 ⟨List.mem_range.2 (by rw[←tsz];exact e3),e4⟩
 rw[oneRow]at hm;obtain rfl:=List.mem_singleton.1 hm;rw[hdl]at e5;unfold World.var? at e5;rw[gE,Option.bind_some]at e5;split at e5
 case h_2=>cases e5
 rename_i cs' ty fr hh;have e5:=Option.some.inj e5;exact⟨(Array.getElem?_eq_some_iff.1 hh).1,ty,fr,by rw[hh,e5]⟩
set_option maxRecDepth 100000 in
theorem tabs_of_laid {W:World}(h:laidMetH Tryz.prog laidL W):TabsIn W.heap.size W:=by
 obtain⟨hd,hh⟩:=laidMetH_iff.1 h;rw[laid_h]at hh;rw[laid_d]at hd;intro b r hb
 have key:∀b:Nat,rowsT b=some r→b=5∧r=punchedZ.map (fun n=>Value.int .u8 n)∨b=1∧r=pow10Z.map (fun n=>Value.int .u64 n)∨b=0∧r=[.iface 229 (.agg ⟨[.pointer (some ⟨10,105,none⟩)]⟩)]:=by
  intro b hb;unfold rowsT at hb;split at hb
  ·cases hb;exact .inl ⟨rfl,rfl⟩
  ·cases hb;exact .inr (.inl ⟨rfl,rfl⟩)
  ·cases hb;exact .inr (.inr ⟨rfl,rfl⟩)
  ·cases hb
 have t5:Tryz.prog.cellsOf 5=1:=by kernel_rfl
 rcases key b hb with⟨rfl,rfl⟩ | ⟨rfl,rfl⟩ | ⟨rfl,rfl⟩
 ·have hr : Lib.VarReads Tryz.prog W "pliant/picture.punched" (Lib.tabData .u8 punchedZ) := Lib.laidMet.reads hd (.tail _ (.tail _ (.tail _ (.tail _ (.tail _ (.tail _ (.head _)))))))
  exact tab_is hr (g:=5) (t:=273) (n:=20) (e:=5) (by kernel_rfl) (by kernel_rfl) (by kernel_rfl) (by kernel_rfl) t5 (by kernel_rfl)
 ·have hr : Lib.VarReads Tryz.prog W "internal/strconv.uint64pow10" (Lib.tabData .u64 pow10Z) := Lib.laidMet.reads hd (.tail _ (.tail _ (.head _)))
  exact tab_is hr (g:=1) (t:=262) (n:=20) (e:=90) (by kernel_rfl) (by kernel_rfl) (by kernel_rfl) (by kernel_rfl) (by kernel_rfl) (by kernel_rfl)
 ·exact handle_of_laid hh
noncomputable def handleWorld (os : Os) : World :=
 let w0:=World.holding Tryz.prog os ⟨#[], #[],[]⟩
 {w0 with heap:=w0.heap.modify 0 fun
   | .cells _ t frozen=> .cells #[.iface 229 (.agg #[.pointer (some ⟨10,105,none⟩)])] t frozen
   | o=>o}
def laidD:List (String×DataW Unit):=laidL.filter fun x=>x.2.handleName?.isNone
noncomputable def laidWorld (os : Os) : World := (handleWorld os).layVars Tryz.prog laidD
theorem laidWorld_os (os:Os):(laidWorld os).os=os:=World.layVars_os _ _ _
theorem laidWorld_met (os:Os)(args:Array Value):laidMetH Tryz.prog laidL ((laidWorld os).forCall (fun _ _=>0) ⟨#[],args,[]⟩).memory:=by
 refine laidMetH_of_parts ?_ (by kernel_rfl);have e1:(laidD.filter fun x=>(laidD.map (·.1)).contains x.1)=laidD:=List.filter_eq_self.2 fun x hx=>List.contains_iff_mem.2 (List.mem_map.2 ⟨x,hx,rfl⟩)
 have e2:(laidD.filter fun x=> !(laidD.map (·.1)).contains x.1)=[]:=List.filter_eq_nil_iff.2 fun x hx=>by rw[List.contains_iff_mem.2 (List.mem_map.2 ⟨x,hx,rfl⟩)];simp
 have h:laidMet Tryz.prog laidD (laidWorld os):=laidMet_layVars (w0:=handleWorld os) (laidD.map (·.1)) [] (by rw[e1];rfl) (by rw[e1];kernel_rfl) (by rw[e1];kernel_rfl) (by rw[e2];exact LaidIn.none);exact h.of_heap (by simp[World.memory,World.forCall,Input.heap])
def jfp (P:Program)(t:TypeId)(α:Type) [Enc α](Q:α→Prop):Prop:=
 ∀{H:Type} {enc:TypeId×Value→H} {w:World} {base:Nat} {spare:Nat→Bool} {held:Bool} {r:Reach} {b0:Nat} {v:Value} {d:DataW H} {p:List MemPlace},Value.okWide P w r b0 t v→DataW.Trod enc P w base spare held t v d p→
  ∃a:α,v=Enc.enc a∧Q a∧p=[]∧ ∀(w':World) (b':Nat) (sp':Nat→Bool) (hd':Bool),DataW.Trod enc P w' b' sp' hd' t v d []
theorem opensP_string {P:Program} {t:TypeId}(ht:P.underlying t=some .string):jfp P t ByteArray fun s=>s.size≤9223372036854775807:=by
 intro H enc w base spare held r b0 v d p hv h;obtain⟨n,rfl,rfl,rfl,hw⟩:=open_string ht hv h;exact⟨n,rfl,Nat.le_trans hw (by decide),rfl,fun w' b' sp' hd'=>shut_string ht hw⟩
theorem oS:jfp Tryz.prog 9 ByteArray fun s=>s.size≤9223372036854775807:=opensP_string Tryz.underlying9
theorem opensP_int {P:Program} {t:TypeId}(ht:P.underlying t=some (.int .i64)):jfp P t Int fun n=> -9223372036854775808≤n∧n≤9223372036854775807:=by
 intro H enc w base spare held r b0 v d p hv h;obtain⟨n,rfl,rfl,rfl,hw⟩:=open_int ht hv h;exact⟨n,rfl,by simpa[Lit.wf,IntKind.min,IntKind.max,IntKind.signed,IntKind.bits]using hw,rfl,fun w' b' sp' hd'=>shut_int ht hw⟩
theorem oI:jfp Tryz.prog 3 Int fun n=> -9223372036854775808≤n∧n≤9223372036854775807:=opensP_int Tryz.underlying3
theorem opensP_bool {P:Program} {t:TypeId}(ht:P.underlying t=some .bool):jfp P t Bool fun _=>True:=by
 intro H enc w base spare held r b0 v d p hv h;obtain⟨n,rfl,rfl,rfl⟩:=open_bool ht hv h;exact⟨n,rfl,trivial,rfl,fun w' b' sp' hd'=>shut_bool ht n⟩
theorem oB:jfp Tryz.prog 4 Bool fun _=>True:=opensP_bool Tryz.underlying4
theorem jek {P:Program} {α:Type} [Enc α] {t:TypeId} {fs:Array Field} {Q:α→Prop}(hs:P.underlying t=some (.struct fs))(hl:fs.toList.all (fun f=>leafT P f.type)=true)
  (hc : ∀ cs : Array Value, cs.size = P.cellsOf t → (∀ (i : Nat) (f : Field), fs[i]? = some f → ∃ (H : Type) (enc : TypeId × Value → H) (w : World) (base : Nat) (spare : Nat → Bool) (held : Bool) (n : Nat) (y : DataW H × List MemPlace),
   DataW.trod enc P w base spare held n f.type ((cs.toList.drop f.offset).take (P.cellsOf f.type))=some y)→ ∃a:α,Value.agg cs=Enc.enc a∧Q a):jfp P t α Q:=by
 intro H enc w base spare held r b0 v d p hv h;obtain⟨cs,rfl,hsz⟩:=okWide_struct hs hv;obtain⟨fuel,hf⟩:=h;simp only[Value.cells]at hf;obtain⟨hp,hany⟩:=leaves_any hs hl hf;obtain⟨xs,n,_,_,hlen,hxs,hg⟩:=DataW.trod_struct hs hf
 obtain⟨a,ha,hq⟩:=hc cs hsz fun i f hi=>by
  have hlt:i<xs.length:=by
   have:=(Array.getElem?_eq_some_iff.1 hi).1;omega
  exact⟨H,enc,w,base,spare,held,n,xs[i],by rw[hg i f hi,List.getElem?_eq_getElem hlt]⟩
 simp only at hp;subst hp;exact⟨a,ha,hq,rfl,fun w' b' sp' hd'=>⟨2,by simpa[Value.cells]using hany w' b' sp' hd'⟩⟩
def r64 (n:Int):Prop:= -9223372036854775808≤n∧n≤9223372036854775807
def rS (s:ByteArray):Prop:=s.size≤9223372036854775807
theorem r64_wf {n:Int}(h:(Lit.int .i64 n).wf=true):r64 n:=by simpa[Lit.wf,IntKind.min,IntKind.max,IntKind.signed,IntKind.bits,r64]using h
theorem array5 {α:Type} {cs:Array α}(h:cs.size=5):∃c0 c1 c2 c3 c4,cs= #[c0,c1,c2,c3,c4]:=by
 obtain⟨l⟩:=cs
 match l,h with
 | [c0,c1,c2,c3,c4],_=>exact⟨c0,c1,c2,c3,c4,rfl⟩
theorem array3 {α:Type} {cs:Array α}(h:cs.size=3):∃c0 c1 c2,cs= #[c0,c1,c2]:=by
 obtain⟨l⟩:=cs
 match l,h with
 | [c0,c1,c2],_=>exact⟨c0,c1,c2,rfl⟩
theorem oT:jfp Tryz.prog 23 Fx.Ty fun t=>r64 t.k∧r64 t.p∧r64 t.q∧rS t.s:=by
 refine jek Tryz.underlying23 (by kernel_rfl) fun cs hsz hf=> ?_
 have hc:Tryz.prog.cellsOf 23=5:=by kernel_rfl
 have h3:Tryz.prog.cellsOf 3=1:=by kernel_rfl
 have h4:Tryz.prog.cellsOf 4=1:=by kernel_rfl
 have h9:Tryz.prog.cellsOf 9=1:=by kernel_rfl
 rw[hc]at hsz;obtain⟨c0,c1,c2,c3,c4,rfl⟩:=array5 hsz
 ·obtain ⟨H, enc, w, base, spare, held, n, y, h0⟩ := hf 0 { name := "Kind", type := 3, offset := 0, embedded := false, tag := "", pkgPath := "", byteOffset := 0 } rfl
  obtain ⟨H, enc, w, base, spare, held, n, y, h1⟩ := hf 1 { name := "P", type := 3, offset := 1, embedded := false, tag := "", pkgPath := "", byteOffset := 8 } rfl
  obtain ⟨H, enc, w, base, spare, held, n, y, h2⟩ := hf 2 { name := "Q", type := 3, offset := 2, embedded := false, tag := "", pkgPath := "", byteOffset := 16 } rfl
  obtain ⟨H, enc, w, base, spare, held, n, y, hv⟩ := hf 3 { name := "Vary", type := 4, offset := 3, embedded := false, tag := "", pkgPath := "", byteOffset := 24 } rfl
  obtain ⟨H, enc, w, base, spare, held, n, y, hs⟩ := hf 4 { name := "Pic", type := 9, offset := 4, embedded := false, tag := "", pkgPath := "", byteOffset := 32 } rfl
  obtain⟨k,e0,_,w0⟩:=DataW.trod_int Tryz.underlying3 h0;obtain⟨p,e1,_,w1⟩:=DataW.trod_int Tryz.underlying3 h1;obtain⟨q,e2,_,w2⟩:=DataW.trod_int Tryz.underlying3 h2;obtain⟨v,e3,_⟩:=DataW.trod_bool Tryz.underlying4 hv;obtain⟨s,e4,_,w4⟩:=DataW.trod_string Tryz.underlying9 hs;simp only[h3,h4,h9,List.drop_zero,List.drop_succ_cons,List.take_succ_cons,List.take_zero,List.cons.injEq,and_true]at e0 e1 e2 e3 e4;exact⟨⟨k,p,q,v,s⟩,by rw[e0,e1,e2,e3,e4];rfl,r64_wf w0,r64_wf w1,r64_wf w2,Nat.le_trans w4 (by decide)⟩
theorem oV:jfp Tryz.prog 25 Fx.Vl fun v=>r64 v.n∧rS v.s:=by
 refine jek Tryz.underlying25 (by kernel_rfl) fun cs hsz hf=> ?_
 have hc:Tryz.prog.cellsOf 25=2:=by kernel_rfl
 have h3:Tryz.prog.cellsOf 3=1:=by kernel_rfl
 have h9:Tryz.prog.cellsOf 9=1:=by kernel_rfl
 rw[hc]at hsz;obtain⟨c0,c1,rfl⟩:=array2 hsz
 ·obtain ⟨H, enc, w, base, spare, held, n, y, h0⟩ := hf 0 { name := "N", type := 3, offset := 0, embedded := false, tag := "", pkgPath := "", byteOffset := 0 } rfl
  obtain ⟨H, enc, w, base, spare, held, n, y, h1⟩ := hf 1 { name := "S", type := 9, offset := 1, embedded := false, tag := "", pkgPath := "", byteOffset := 8 } rfl
  obtain⟨k,e0,_,w0⟩:=DataW.trod_int Tryz.underlying3 h0;obtain⟨s,e4,_,w4⟩:=DataW.trod_string Tryz.underlying9 h1;simp only[h3,h9,List.drop_zero,List.drop_succ_cons,List.take_succ_cons,List.take_zero,List.cons.injEq,and_true]at e0 e4;exact⟨⟨k,s⟩,by rw[e0,e4];rfl,r64_wf w0,Nat.le_trans w4 (by decide)⟩
theorem oN:jfp Tryz.prog 33 Cx.Nu fun v=>rS v.d∧r64 v.c:=by
 refine jek Tryz.underlying33 (by kernel_rfl) fun cs hsz hf=> ?_
 have hc:Tryz.prog.cellsOf 33=3:=by kernel_rfl
 have h3:Tryz.prog.cellsOf 3=1:=by kernel_rfl
 have h4:Tryz.prog.cellsOf 4=1:=by kernel_rfl
 have h9:Tryz.prog.cellsOf 9=1:=by kernel_rfl
 rw[hc]at hsz;obtain⟨c0,c1,c2,rfl⟩:=array3 hsz
 ·obtain ⟨H, enc, w, base, spare, held, n, y, hv⟩ := hf 0 { name := "Neg", type := 4, offset := 0, embedded := false, tag := "", pkgPath := "", byteOffset := 0 } rfl
  obtain ⟨H, enc, w, base, spare, held, n, y, hs⟩ := hf 1 { name := "Digits", type := 9, offset := 1, embedded := false, tag := "", pkgPath := "", byteOffset := 8 } rfl
  obtain ⟨H, enc, w, base, spare, held, n, y, h0⟩ := hf 2 { name := "Scale", type := 3, offset := 2, embedded := false, tag := "", pkgPath := "", byteOffset := 24 } rfl
  obtain⟨v,e3,_⟩:=DataW.trod_bool Tryz.underlying4 hv;obtain⟨s,e4,_,w4⟩:=DataW.trod_string Tryz.underlying9 hs;obtain⟨k,e0,_,w0⟩:=DataW.trod_int Tryz.underlying3 h0;simp only[h3,h4,h9,List.drop_zero,List.drop_succ_cons,List.take_succ_cons,List.take_zero,List.cons.injEq,and_true]at e0 e3 e4;exact⟨⟨v,s,k⟩,by rw[e0,e3,e4];rfl,Nat.le_trans w4 (by decide),r64_wf w0⟩
noncomputable def hAB (fn : Func) (s : ChangeSpec) (c : OpenClaim) : Bool := c.wf (OpenSpec.ofChange s) && fn.params.all (Tryz.prog.readableRec ·) && namedTie Tryz.prog c.named s.vars && (c.stops == []) && (c.knobs == [])
noncomputable def hRB (fn : Func) (s : ChangeSpec) (c : OpenClaim) : Bool := (c.maps == (fn.params.toList ++ s.plain.varTypes Tryz.prog).any (Tryz.prog.mapsRec ·)) && (c.ifaces == (fn.params.toList ++ s.plain.varTypes Tryz.prog).any (Tryz.prog.ifacesRec ·)) && (c.mapsOut == Tryz.prog.mapsAmong fn.resultTypes.toList) && (c.loops == (fn.params.toList ++ s.plain.varTypes Tryz.prog).any (Tryz.prog.loopsFrom ·))
noncomputable def hSB (fn : Func) (s : ChangeSpec) (c : OpenClaim) : Bool := (c.wideKeys == (fn.params.toList ++ s.plain.varTypes Tryz.prog ++ fn.resultTypes.toList).any (Tryz.prog.wideKeysFrom ·)) && s.vars.all (Tryz.prog.varReadable ·) && fn.resultTypes.all (fun t => Tryz.prog.readableRec t && decide (t < Tryz.prog.types.size)) && (c.ifacesOut == fn.resultTypes.toList.any (Tryz.prog.ifacesRec ·)) && (c.loopsOut == fn.resultTypes.toList.any (Tryz.prog.loopsFrom ·)) && c.shortTexts.isNone
noncomputable def hTB (fn : Func) (s : ChangeSpec) (c : OpenClaim) : Bool := (c.kinds == (if c.domain.isEmpty then [] else fn.params.toList.map fun t => match Tryz.prog.underlying t with | some (.int k) => some k | _ => none)) && (c.pinned == c.pinnedBy) && (c.veiled == (fn.params.toList ++ s.plain.varTypes Tryz.prog ++ fn.resultTypes.toList).any (Tryz.prog.veiledRec ·)) && c.veiledFits Tryz.prog fn.params.toList (fn.params.toList ++ s.plain.varTypes Tryz.prog ++ fn.resultTypes.toList)
set_option maxRecDepth 100000 in
theorem jf_mk {f:FuncId} {fn:Func} {s:ChangeSpec} {c:OpenClaim}(hA:hAB fn s c=true)(h1:(c.inPlace==Tryz.prog.inPlace f)=true)(h2:(c.unfollowed==Tryz.prog.unfollowed f)=true)(h3:(c.recurses==Tryz.prog.recurses f)=true)(h4:(c.named==Tryz.prog.varsNamed f)=true)
  (hR:hRB fn s c=true) (hS:hSB fn s c=true)
  (hk:(c.plainKeys==Tryz.prog.plainKeys)=true) (hl:(c.lifted==Tryz.prog.liftsFinal)=true) (hm:(Tryz.prog.make==some c.make)=true)
  (hT:hTB fn s c=true):joinedFacts Tryz.prog f fn s c=true:=by
 unfold joinedFacts;simp only[hAB,hRB,hSB,hTB,jaf]at hA hR hS hT;obtain⟨⟨⟨⟨a1,a2⟩,a3⟩,a4⟩,a5⟩:=hA;obtain⟨⟨⟨r1,r2⟩,r3⟩,r4⟩:=hR;obtain⟨⟨⟨⟨⟨s1,s2⟩,s3⟩,s4⟩,s5⟩,s6⟩:=hS;obtain⟨⟨⟨t1,t2⟩,t3⟩,t4⟩:=hT;rw[a1,a2,a3,a4,a5,h1,h2,h3,h4,r1,r2,r3,r4,s1,s2,s3,s4,s5,s6,t2,t3,t4,q_laid,q_maps,q_stop,q_knob,q_heard,q_enter,hk,hl,hm];simp only[Bool.true_and,Bool.and_true];exact t1
end Go.Px
end
section

end
