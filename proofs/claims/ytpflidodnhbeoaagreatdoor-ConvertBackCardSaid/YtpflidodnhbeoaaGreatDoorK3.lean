/-
  Part 3: the run and laws.
-/
import Derived.Test.YtpflidodnhbeoaaGreatDoorK2
set_option linter.unusedVariables false
set_option linter.unusedSimpArgs false
noncomputable section
set_option maxHeartbeats 3200000
namespace Go.Px
open Go Go.Ab Go.Proofs Go.Shelf
def vwN(p:E):Lk:=fun j=>match Nat.beq j 0 with | true=>some ⟨p,255,false⟩ | false=>none
theorem sub_N{m:Lk}{a x:Nat}{nu:Y}{mi:Bool}{us at0 ld:Int}{own:Bool}(hp:m a=some ⟨pnL x nu mi us at0 ld,255,own⟩):SubM m (rho2 a x) (vwN (pnL 1 nu mi us at0 ld)) 2:=by
 have hget:∀j b,vwN (pnL 1 nu mi us at0 ld) j=some b→j=0∧b=⟨pnL 1 nu mi us at0 ld,255,false⟩:=fun j b h=>by
  simp only[vwN]at h;split at h
  ·rename_i h0;cases h;exact⟨jah h0,rfl⟩
  ·cases h
 refine⟨fun j b h=> ?_,fun j b h=> ?_⟩
 ·obtain⟨rfl,rfl⟩:=hget j b h;refine⟨by omega,fun i hi=> ?_⟩;have:i=1:=by simpa[pnL,idsL,ids]using hi
  omega
 ·obtain⟨rfl,rfl⟩:=hget j b h;refine⟨rfl,⟨pnL x nu mi us at0 ld,255,own⟩,?_,fun ι=> ?_⟩
  ·show noIt (m a)=_;rw[hp];simp only[noIt];have:(own&&Nat.beq 255 itTy)=false:=by cases own<;>rfl
   rw[this]
  ·simp[pnL,ren,ren1,rho2]
def sgC(c:Int)(m:Bool):Int:=bif c==83&&m then 45 else bif c==83 then 43 else bif (c==43)==m then 32 else c
theorem v94(nu:Y)(mi:Bool)(us:Int)(at0:Int)(ld:Int)(c:Int)(R:Value→Prop):(ja1 Tryz.prog G33 noL Tryz.f255 [.pointer (some ⟨0,0,some 0⟩),.int .u8 c] (vwN (pnL 1 nu mi us at0 ld)) 2 (fun v _ _=>R v))=(az (c==83) true (c==83&&mi) (R (ao 45)) (bif c==83 then R (ao 43)else f0 ((c==43)==mi) (ao 32) (ao c) R)):=by kernel_rfl
def h94:E→Lk→Nat→(Value→Lk→Nat→Prop)→Prop:=fun args m n K=>match args with
 | [.pointer (some ⟨a,0,some 0⟩),.int .u8 c]=>match m a with
  | some ⟨[.pointer (some ⟨x,0,some 0⟩),.string nu,.bool mi,.int .i64 us,.int .i64 at0,.int .i64 ld],255,own⟩=>∀e,sgC c mi=e→K (.int .u8 e) m n
  | _=>False
 | _=>False
def h90h:E→Lk→Nat→(Value→Lk→Nat→Prop)→Prop:=fun args m n K=>h90 args m n fun v m' n'=>match v with
 | .int .i64 x=>∀e,x=e→K (.int .i64 e) m' n'
 | _=>False
def G36:Env:=((((((Env.nil.add 30 (sp2 s78)).addG 252 (inlQ Tryz.prog G34 noL Tryz.f252)).addG 253 (inlQ Tryz.prog G34 noL Tryz.f253)).addG 254 (inlQ Tryz.prog G34 noL Tryz.f254)).addG 256 (inlQ Tryz.prog G34 noL Tryz.f256)).addG 251 h90h).addG 255 h94
theorem w94(nu:Y)(mi:Bool)(us at0 ld c:Int){R:Value→Prop}(h:R (.int .u8 (sgC c mi))):jeb Tryz.prog G33 noL Tryz.f255 [.pointer (some ⟨0,0,some 0⟩),.int .u8 c] (vwN (pnL 1 nu mi us at0 ld)) 2 (fun v _ _=>R v):=by
 rw[jeb,v94];delta ar az f0 ao;rw[sgC]at h;refine c_t (by simp) (cond_intro (fun q=> ?_) (fun q=>cond_intro (fun q2=> ?_) (fun q2=>cond_intro (fun q3=> ?_) (fun q3=> ?_))))
 ·rw[q]at h;exact h
 ·rw[q,q2]at h;exact h
 ·rw[q,q2,q3]at h;exact h
 ·rw[q,q2,q3]at h;exact h
theorem h94_ok:jc7 Tryz.prog 255 h94:=by
 refine jh1 ok_G33 hmix fn94 jai fun args m n K h=> ?_
 unfold h94 at h;split at h
 case h_2=>exact h.elim
 rename_i a c;split at h
 case h_2=>exact h.elim
 rename_i x nu mi us at0 ld own hm;refine⟨[.pointer (some ⟨0,0,some 0⟩),.int .u8 c],_,2,rho2 a x,.int .u8 (sgC c mi),sub_N hm,fun ι=>by simp[ren,ren1,rho2],jag,fun v hv j hj=> ?_,rfl,w94 nu mi us at0 ld c (R:=fun v=>v= .int .u8 (sgC c mi)) rfl,h _ rfl⟩;simp at hv;rcases hv with rfl | rfl
 ·have:j=0:=by simpa[ids]using hj
  omega
 ·simp[ids]at hj
theorem gen_imp{P:Program}{f:FuncId}{h h':E→Lk→Nat→(Value→Lk→Nat→Prop)→Prop}(hh:∀args m n K,h' args m n K→h args m n K)(hg:jc7 P f h):jc7 P f h':=
 ⟨hg.1,fun args m n K hk=>hg.2 args m n K (hh args m n K hk)⟩
theorem h90h_ok:jc7 Tryz.prog 251 h90h:=by
 refine gen_imp (fun args m n K h=> ?_) h90_ok;unfold h90h h90 at h;unfold h90;split at h
 case h_2=>exact h.elim
 split at h
 case h_2=>exact h.elim
 split at h
 case h_2=>exact h.elim
 split at h
 case h_2=>exact h.elim
 split at h
 case h_2=>exact h.elim
 rename_i hm _ _ _ _ _ _ _ _ _ _ _ _ _ _ _ _ _ hx _ _ hy hc;simp only[*]
theorem ok_G36:jax Tryz.prog G36:=jam (jam (jam (jam (jam (jam (jak jan ok78) (jar ok_G34 hmix fn91 jai)) (jar ok_G34 hmix fn92 jai)) (jar ok_G34 hmix fn93 jai)) (jar ok_G34 hmix fn95 jai)) h90h_ok) h94_ok
theorem lok64:LOKf Tryz.prog (oneL 0 S64_0.hA) Tryz.f207:=l64_0
def rd(a:Prop):Prop:=(((((a∧a)∧a)∧a)∧a)∧a)∧(((((a∧a)∧a)∧a)∧a)∧((((a∧a)∧a)∧a)∧(((a∧a)∧a)∧((a∧a)∧(a∧a)∧a)∧a)∧a)∧a)∧a
def re(a d:Int)(c:E)(b:Nat)(e:Value→Prop):Prop:=bif cl (b8 a 1) (b:Int)then j6 (Nat.ble (dp (b8 a 1)+1) c.length) (jbf (setL c (dp (b8 a 1)) [ao d]) 0 b) (al [.string (jbb (setL c (dp (b8 a 1)) [ao d]) 0 b),ak a]) e else False
theorem v64(s:Y)(nb:Bool)(w:Int)(dg:Int)(sc:Int)(sg:Bool)(k:Nat)(cap:Nat)(dr:Int)(f:Int)(cr:Bool)(fl:Int)(fm:Int)(nu:Y)(mi:Bool)(d:E)(R:Value→Prop):(ja1 Tryz.prog G36 (oneL 0 S64_0.hA) Tryz.f207 [.pointer (some ⟨0,0,some 0⟩),S nu,B mi] (vwF2 (fmL s nb w dg sc sg 1 k cap dr f cr fl fm) d) 2 (fun v _ _=>R v))=(bif jbu d k cap&&decide (k≤1000∧nu.size≤1000∧cn1 (zc d k)≤aq nu)then∀a:Int,enV (bz nu) fm (zc d k)=a→(bif a7 a 0 then jl (km (Utf8.encode fl) w 1000 1000) (S (sz (repZ (bz (Utf8.encode fl)) w.toNat))) (ak w) R else bif jf [] d 210 then j9 (S64_0.toLSpec.pre (mi,(a8,((0:Int),(Rw.nil,(k,(cap,(natO k,((0:Int),(s,(nb,(w,(dg,(sc,(sg,(k,(cap,(dr,(f,(cr,(fl,(fm,(nu,(mi,((0:Int),((0:Int),(a,rlbL [] d))))))))))))))))))))))))))) (Rw.is Rw.nil=false→wrGo f cr (aq s) mi a fl (gv 0 [] d k) (bq s 0) (bq nu 0) 0 0=([]:J)→Int→Int→nj d 210 (az (dr==36) true (dr==36&&dy a 0) False (f8 (dr !=0) true (dr !=0&&dy a 0) (rd (∀b:Int,sgC dr mi=b→False)) (R (al (ax ByteArray.empty [] (ak a))))))) (Int→Int→Int→(∀b:E,∀c:Nat,∀e:Nat,jci b c e=true→zc b c=Rw.z Rw.nil++wrGo f cr (aq s) mi a fl (gv 0 [] d k) (bq s 0) (bq nu 0) 0 0→(bif lq (rlbL [] d) b 210 then Tmps→az (dr==36) true (dr==36&&dy a 0) (re a 36 b c R) (f8 (dr !=0) true (dr !=0&&dy a 0) (rd (∀g:Int,sgC dr mi=g→re a g b c R)) (cu (jbf b 0 c) (al (ax (jbb b 0 c) [] (ak a))) R))else False)))else False)else False):=by kernel_rfl
def wrV(sp:J)(w f:Int)(cr:Bool)(dr fl fm:Int)(ro nu:J)(mi:Bool):J×Int:=
 bif decide (enV nu fm ro<0)then(repZ [fl] w.toNat,w)
 else(bif dr !=0&&decide (enV nu fm ro>0)then(wrGo f cr sp.length mi (enV nu fm ro) fl ro sp nu 0 0).set (enV nu fm ro-1).toNat (bif dr==36 then 36 else sgC dr mi)
  else wrGo f cr sp.length mi (enV nu fm ro) fl ro sp nu 0 0,enV nu fm ro)
def wrR(x:J×Int):Value:= .tuple ⟨[.string (sz x.1),.int .i64 x.2]⟩
def cN:J→Int
 | []=>0
 | r::rs=>(bif r==2 then 0 else 1)+cN rs
theorem jmo:∀l,0≤cN l
 | []=>by simp[cN]
 | r::rs=>by have:=jmo rs;rw[cN];cases r==2<;>simp<;>omega
theorem cn1_cdg:∀l,cn1 l≤cdg l
 | []=>by simp[cn1,cdg]
 | r::rs=>by
  have:=cn1_cdg rs;rw[cn1,cdg];by_cases h1:r=1
  ·subst h1;show 1+_≤1+_;omega
  ·have e:(r==1)=false:=by simpa using h1
   rw[e];cases decide (r=0) || decide (r=1) <;>simp<;>omega
theorem jir{f:Int}{cr:Bool}{n:Int}{mi:Bool}{ld fl:Int}:∀(rs cs ds:J)(i a:Int),((wrGo f cr n mi ld fl rs cs ds i a).length:Int)=cN rs
 | [],_,_,_,_=>rfl
 | r::rs,cs,ds,i,a=>by
  rw[wrGo,cN];cases r==2
  ·simp only[cond_false,List.length_cons];have:=jir (f:=f) (cr:=cr) (n:=n) (mi:=mi) (ld:=ld) (fl:=fl) rs cs.tail (bif wrT f cr n r i then ds.tail else ds) (i+1) (a+1);omega
  ·simp only[cond_true];rw[jir];omega
theorem jjg{ze:Bool}{fm:Int}:∀(ro ds:J)(a:Int),-1≤a→enGo ze fm ro ds a≤a+cN ro
 | [],_,a,h=>by rw[enGo,cN];omega
 | r::rs,ds,a,h=>by
  have h0:=jmo rs;rw[enGo,cN];by_cases h2:r=2
  ·subst h2;have e0:((2:Int)==0)=false:=rfl;have e1:((2:Int)==1)=false:=rfl;have e2:((2:Int)==2)=true:=rfl;rw[e0,e1,e2];simp only[cond_true,cond_false];have:=jjg (ze:=ze) (fm:=fm) rs ds a h;cases decide (fm>0) || !ze<;>simp<;>omega
  ·have e2:(r==2)=false:=by simpa using h2
   rw[e2];have h1:=jjg (ze:=ze) (fm:=fm) rs ds (a+1) (by omega);have h3:=jjg (ze:=ze) (fm:=fm) rs ds.tail (a+1) (by omega);cases r==0
   ·cases r==1
    ·simp only[cond_false];omega
    ·simp only[cond_true,cond_false];cases ds.headD 0 !=48<;>simp<;>omega
   ·simp only[cond_true,cond_false];omega
theorem enV_le{nu:J}{fm:Int}{ro:J}:enV nu fm ro≤cN ro:=by
 rw[enV];have:=jmo ro;have:=jjg (ze:=(jb4 nu [48]).isEmpty) (fm:=fm) ro nu 0 (by omega);cases enOn ro<;>simp<;>omega
theorem enc_fl{fl:Int}(h:fl=32∨fl=42):bz (Utf8.encode fl)=[fl]:=by
 rcases h with rfl | rfl<;>kernel_rfl
theorem w_64(s:Y)(nb:Bool)(w:Int)(dg:Int)(sc:Int)(sg:Bool)(k:Nat)(cap:Nat)(dr:Int)(f:Int)(cr:Bool)(fl:Int)(fm:Int)(nu:Y)(mi:Bool)(d:E)(hR:jbu d k cap=true)(hO:roOK (zc d k)=true)(hD:dgL (bz nu)=true)(hk:k≤1000∧nu.size≤1000∧k≤s.size∧s.size≤1000∧0≤w∧w≤1000)(hc:cdg (zc d k)≤nu.size)(hfl:fl=32∨fl=42)
  {R:Value→Prop} (hV:R (wrR (wrV (bz s) w f cr dr fl fm (zc d k) (bz nu) mi))):
  jeb Tryz.prog G36 (oneL 0 S64_0.hA) Tryz.f207 [.pointer (some ⟨0,0,some 0⟩),.string nu,.bool mi] (vwF2 (fmL s nb w dg sc sg 1 k cap dr f cr fl fm) d) 2 (fun v _ _=>R v):=by
 rw[jeb,v64];delta j9 ar az f8 cu al ax ak rd j6 ao dp b8 cl re dy gm lq bq gv aq ik nj a8 jf jl km a7;have h:=jaw.1 hR;have h1:=cn1_cdg (zc d k);have hl:= @enV_le (bz nu) fm (zc d k);have z0:Int.toNat 0=0:=rfl;have hg:(jav [] d&&true&&true&& (ja0 210 d&&true))=true:=by rw[h.good];simp[ja0,idsL,jaq h.plain]
 have hi:(ja0 210 d&&true)=true:=by simp[ja0,idsL,jaq h.plain]
 have sl:((bz s).length:Int)=s.size:=by rw[jap]
 rw[wrV,wrR,sl]at hV;simp only[h.rlb,z0,List.drop_zero];refine c_t (by rw[hR];simp only[Bool.true_and,jae];omega) fun e he=> ?_
 rw[he]at hV hl;have hw:=fun a=> @jir f cr s.size mi e fl (zc d k) (bz s) (bz nu) 0 a
 have hw:=hw 0;generalize wrGo f cr s.size mi e fl (zc d k) (bz s) (bz nu) 0 0=W at*;apply cond_intro<;>intro q
 ·rw[q,cond_true]at hV;have eb:=enc_fl hfl;have es:(Utf8.encode fl).size=1:=by rw[←jap,eb];rfl
  rw[es,eb];exact c_t (jaa (by omega)) hV
 ·rw[q,cond_false]at hV;refine c_t hg (c_t ?_ ⟨fun _ hn us' at' i'=>c_t hi fun _=>c_t (by simp) ?_,fun us' at' i' od om oc g1 g2=> ?_⟩)
  ·show(Rw.nil.ok&& (jbu d k cap&& (roOK (zc d k) && (dgL (bz nu) &&decide (mi=mi∧(0:Int)≤0∧(0:Int)≤k∧k≤1000∧natO k=k∧k≤s.size∧s.size≤1000∧(0:Int)≤0∧(0:Int)≤0∧(0:Int)≤0∧(0:Int)≤0∧0+cdg ((zc d k).drop (Int.toNat 0))≤nu.size∧((Rw.nil.z.length:Nat):Int)≤0)))))=true;rw[hR,hO,hD,jb6,z0,List.drop_zero];simp only[Bool.true_and,Rw.ok,Rw.z,List.length_nil,jae];exact⟨trivial,by omega,by omega,by omega,trivial,by omega,by omega,by omega,by omega,by omega,by omega,by omega,by omega⟩
  ·rw[hn,List.length_nil]at hw;have e0:decide (e>0)=false:=jad (by omega);rw[e0,Bool.and_false,Bool.and_false,cond_false];rw[e0,Bool.and_false,cond_false,hn]at hV;exact c_t (by simp) hV
  ·have ho:=jat.1 g1;have hzl:=jba ho;rw[g2]at hzl;have g3:zc od om=W:=by rw[g2];rfl
   have hzl:W.length=om:=hzl;have hio:(ja0 210 d&& (ja0 210 od&&true))=true:=by simp[ja0,idsL,jaq h.plain,jaq ho.plain]
   have hset:∀x:Int,e>0→R (.tuple ⟨[.string (sz (W.set (e-1).toNat x)),.int .i64 e]⟩)→
     (bif decide (0 ≤ IntKind.wrap IntKind.i64 (e-1) ∧ IntKind.wrap IntKind.i64 (e-1)<(↑om : Int)) then
      bif Nat.ble (0+Int.toNat (IntKind.wrap IntKind.i64 (e-1))*1+1) (List.length od)then
       bif jbf (setL od (0+Int.toNat (IntKind.wrap IntKind.i64 (e-1))*1) [Value.int IntKind.u8 x]) 0 om then
        R (Value.tuple (Array.mk [Value.string (jbb (setL od (0+Int.toNat (IntKind.wrap IntKind.i64 (e-1))*1) [Value.int IntKind.u8 x]) 0 om),Value.int IntKind.i64 e]))
       else False
      else False
     else False):=fun x h0 hx=>by
    have hb:(W.length:Int)≤1000:=by
     have:=hw
     have h2:cN (zc d k)≤k:=by
      have:∀l:J,cN l≤l.length:=fun l=>by
       induction l with
       | nil=>simp[cN]
       | cons r rs ih=>rw[cN,List.length_cons];cases r==2<;>simp<;>omega
      have:=this (zc d k);rw[jbj h]at this;exact this
     omega
    rw[w64 (n:=e-1) (by omega)];obtain⟨s1,s2,s4⟩:=ho.set x (i:=(e-1).toNat) (by omega);have s3:=s1.str;rw[s2,g3]at s3;exact c_t (jaa (by omega)) (c_t s4 (c_t s3.1 (by rw[s3.2];exact hx)))
   refine c_t hio fun _=>c_t (by simp) (cond_intro (fun p=> ?_) (fun p=>c_t (by simp) (cond_intro (fun p2=> ?_) (fun p2=> ?_))))
   ·obtain⟨p1,p3⟩:=Bool.and_eq_true_iff.1 p;have pe:dr=36:=by simpa using p1
    have pn:(dr !=0)=true:=by rw[pe];rfl
    rw[pn,p3,p1,Bool.true_and,cond_true,cond_true]at hV;exact hset 36 (jab p3) hV
   ·obtain⟨p1,p3⟩:=Bool.and_eq_true_iff.1 p2
    have pe:(dr==36)=false:=by
     rw[p3,Bool.and_true]at p;exact p
    rw[p1,p3,pe,Bool.true_and,cond_true,cond_false]at hV;have hX:∀e_1:Int,sgC dr mi=e_1→_:=fun e_1 h1=>hset e_1 (jab p3) (by rw[←h1];exact hV)
    repeat' (first | exact hX | apply And.intro)
   ·rw[p2,cond_false]at hV;have s3:=ho.str;rw[g3]at s3;exact c_t s3.1 (by rw[s3.2];exact hV)
def w64C(s nu:Y)(k cap:Nat)(w fl:Int)(d:E):Bool:=jbu d k cap&& (roOK (zc d k) && (dgL (bz nu) &&decide ((k≤1000∧nu.size≤1000∧k≤s.size∧s.size≤1000∧0≤w∧w≤1000)∧cdg (zc d k)≤nu.size∧(fl=32∨fl=42))))
def h64:E→Lk→Nat→(Value→Lk→Nat→Prop)→Prop:=fun args m n K=>match args with
 | [.pointer (some ⟨a,0,some 0⟩),.string nu,.bool mi]=>match m a with
  | some ⟨[.string s,.bool nb,.int .i64 w,.int .i64 dg,.int .i64 sc,.bool sg,.slice (some ⟨y,0,some 1⟩) k cap,.int .u8 dr,.int .i64 f,.bool cr,.int .u8 fl,.int .i64 fm],156,own⟩=>match m y with
   | some ⟨d,251,own2⟩=>match cnd (w64C s nu k cap w fl d)with
    | true=>∀(t:Y)(l:Int),sz (wrV (bz s) w f cr dr fl fm (zc d k) (bz nu) mi).1=t→(wrV (bz s) w f cr dr fl fm (zc d k) (bz nu) mi).2=l→K (.tuple ⟨[.string t,.int .i64 l]⟩) m n
    | false=>False
   | _=>False
  | _=>False
 | _=>False
theorem jmc:jc7 Tryz.prog 207 h64:=by
 refine jh1 ok_G36 hmix fn64 lok64 fun args m n K h=> ?_
 unfold h64 at h;split at h
 case h_2=>exact h.elim
 rename_i a nu mi;split at h
 case h_2=>exact h.elim
 rename_i s nb w dg sc sg y k cap dr f cr fl fm own hm;split at h
 case h_2=>exact h.elim
 rename_i d own2 hy;split at h
 case h_2=>exact h.elim
 rename_i hc;simp only[cnd,w64C,jaf,jae]at hc;obtain⟨h1,h2,h3,h4,h5,h6⟩:=hc
 refine⟨[.pointer (some ⟨0,0,some 0⟩),.string nu,.bool mi],_,2,rho2 a y,wrR (wrV (bz s) w f cr dr fl fm (zc d k) (bz nu) mi),sub_F2 (jaw.1 h1).plain hm hy,fun ι=>by simp[ren,ren1,rho2],jag,fun v hv j hj=> ?_,rfl,
  w_64 s nb w dg sc sg k cap dr f cr fl fm nu mi d h1 h2 h3 h4 h5 h6 (R:=fun v=>v=wrR (wrV (bz s) w f cr dr fl fm (zc d k) (bz nu) mi)) rfl,h _ _ rfl rfl⟩
 simp at hv;rcases hv with rfl | rfl | rfl
 ·have:j=0:=by simpa[ids]using hj
  omega
 ·simp[ids]at hj
 ·simp[ids]at hj
def G37:Env:=(((Env.nil.add 248 (sp1 s28)).addG 136 h62).addG 225 h63).addG 207 h64
theorem ok_G37:jax Tryz.prog G37:=jam (jam (jam (jak jan ok28) jmd) h63_ok) jmc
end Go.Px
end
noncomputable section
namespace Go.Px
open Go Go.Ab Go.Proofs Go.Shelf
theorem jh5{ze:Bool}{fm:Int}:∀(rs:J)(ds:J)(a:Int),okR rs→0≤a→(decide (fm>0) || !ze)=true→
  enGo ze fm rs ds a=jea (rs.map rmk) ds a∨(enGo ze fm rs ds a= -1∧0∉rs∧ ∀c∈ds.take (cn1 rs).toNat,c=48)
 | [],ds,a,_,_,_=> .inr ⟨rfl,by simp,by simp[cn1]⟩
 | r::rs,ds,a,hok,ha,hz=>by
  have hok':okR rs:=fun x hx=>hok x (List.mem_cons_of_mem _ hx)
  have h0:=jlm rs;rw[enGo,List.map_cons,jea];rcases jc8 (hok r List.mem_cons_self)with rfl | rfl | rfl | rfl | rfl | rfl
  ·exact .inl rfl
  ·show(bif ds.headD 0 !=48 then a else enGo ze fm rs ds.tail (a+1))=(bif ds.headD 0 !=48 then a else jea (rs.map rmk) ds.tail (a+1))∨((bif ds.headD 0 !=48 then a else enGo ze fm rs ds.tail (a+1))= -1∧_∧ ∀c∈ds.take (1+cn1 rs).toNat,c=48)
   cases hd:ds.headD 0 !=48 with
   | true=>exact .inl rfl
   | false=>
    simp only[cond_false];rcases jh5 rs ds.tail (a+1) hok' (by omega) hz with h | ⟨h1,h2,h3⟩
    ·exact .inl h
    ·refine .inr ⟨h1,by simpa using h2,fun c hc=> ?_⟩;have e:(1+cn1 rs).toNat=(cn1 rs).toNat+1:=by omega
     rw[e]at hc;cases ds with
     | nil=>simp at hc
     | cons x xs=>
      rw[List.take_succ_cons]at hc;rcases List.mem_cons.1 hc with rfl | hc
      ·simpa using hd
      ·exact h3 c hc
  ·show(bif decide (fm>0) || !ze then a else enGo ze fm rs ds a)=a∨_;rw[hz];exact .inl rfl
  ·rcases jh5 rs ds (a+1) hok' (by omega) hz with h | ⟨h1,h2,h3⟩
   ·exact .inl h
   ·exact .inr ⟨h1,by simpa using h2,by simpa[cn1]using h3⟩
  ·rcases jh5 rs ds (a+1) hok' (by omega) hz with h | ⟨h1,h2,h3⟩
   ·exact .inl h
   ·exact .inr ⟨h1,by simpa using h2,by simpa[cn1]using h3⟩
  ·rcases jh5 rs ds (a+1) hok' (by omega) hz with h | ⟨h1,h2,h3⟩
   ·exact .inl h
   ·exact .inr ⟨h1,by simpa using h2,by simpa[cn1]using h3⟩
theorem jgv{fm:Int}(hf:decide (fm>0)=false):∀(rs:J)(ds:J)(a:Int),okR rs→0∉rs→(∀c∈ds,c=48)→cn1 rs≤ds.length→enGo true fm rs ds a= -1
 | [],_,_,_,_,_,_=>rfl
 | r::rs,ds,a,hok,hr,hd,hl=>by
  have hok':okR rs:=fun x hx=>hok x (List.mem_cons_of_mem _ hx)
  have hr':0∉rs:=fun h=>hr (List.mem_cons_of_mem _ h)
  rw[cn1]at hl;have h0:=jlm rs;rw[enGo];rcases jc8 (hok r List.mem_cons_self)with rfl | rfl | rfl | rfl | rfl | rfl
  ·exact absurd List.mem_cons_self hr
  ·have hl:1+cn1 rs≤ds.length:=hl;cases ds with
   | nil=>simp at hl;omega
   | cons x xs=>
    have:x=48:=hd x List.mem_cons_self;subst this;exact jgv hf rs xs (a+1) hok' hr' (fun c hc=>hd c (List.mem_cons_of_mem _ hc)) (by simp at hl;omega)
  ·show(bif decide (fm>0) || !true then a else enGo true fm rs ds a)= -1;rw[hf];exact jgv hf rs ds a hok' hr' hd (by simpa using hl)
  ·exact jgv hf rs ds (a+1) hok' hr' hd (by simpa using hl)
  ·exact jgv hf rs ds (a+1) hok' hr' hd (by simpa using hl)
  ·exact jgv hf rs ds (a+1) hok' hr' hd (by simpa using hl)
theorem jmh:∀(rs:J),okR rs→(∀bh pt dg,(ldGo (rs.map rmk) false bh pt dg).1=true→enOn rs=hasZ (rs.map rmk) 99)
 | [],_,_,_,_,_=>rfl
 | r::rs,hok,bh,pt,dg,h=>by
  have hok':okR rs:=fun x hx=>hok x (List.mem_cons_of_mem _ hx)
  rw[List.map_cons,ldGo]at h;rw[enOn,List.map_cons,jha];rcases jc8 (hok r List.mem_cons_self)with rfl | rfl | rfl | rfl | rfl | rfl
  ·show false=(false || hasZ (rs.map rmk) 99)
   rw[Bool.false_or];cases hq:hasZ (rs.map rmk) 99 with
   | false=>rfl
   | true=>
    have h:(ldGo (rs.map rmk) true bh pt (dg+1)).1=true:=h;rw[jgr _ _ _ _ (ja8.1 hq)]at h;cases h
  ·rfl
  ·exact(jmh rs hok' _ _ _ h).trans (Bool.false_or _).symm
  ·exact(jmh rs hok' _ _ _ h).trans (Bool.false_or _).symm
  ·exact(jmh rs hok' _ _ _ h).trans (Bool.false_or _).symm
  ·exact(jmh rs hok' _ _ _ h).trans (Bool.false_or _).symm
theorem cdg_pd:∀(rs:J),okR rs→cdg rs=pdGo (rs.map rmk)
 | [],_=>rfl
 | r::rs,hok=>by
  have hok':okR rs:=fun x hx=>hok x (List.mem_cons_of_mem _ hx)
  rw[cdg,List.map_cons,pdGo,cdg_pd rs hok'];rcases jc8 (hok r List.mem_cons_self)with rfl | rfl | rfl | rfl | rfl | rfl<;>rfl
theorem jgw:∀(rs:J),0∉rs→cn1 rs=cdg rs
 | [],_=>rfl
 | r::rs,h=>by
  have h1:r≠0:=fun e=>h (by rw[e];exact List.mem_cons_self)
  rw[cn1,cdg,jgw rs fun q=>h (List.mem_cons_of_mem _ q),jad h1,Bool.false_or];by_cases e:r=1
  ·subst e;rfl
  ·rw[jad e];have:(r==1)=false:=by simpa using e
   rw[this]
theorem has_100:∀(rs:J),okR rs→hasZ (rs.map rmk) 100=decide (0∈rs)
 | [],_=>rfl
 | r::rs,hok=>by
  have hok':okR rs:=fun x hx=>hok x (List.mem_cons_of_mem _ hx)
  rw[List.map_cons,jha,has_100 rs hok'];rcases jc8 (hok r List.mem_cons_self)with rfl | rfl | rfl | rfl | rfl | rfl<;>simp[rmk]
theorem jj6:∀(a:J)(fm bh pt:Bool)(dg:Int),(ldGo (a++ [115,115]) fm bh pt dg).1=(ldGo a fm bh pt dg).1
 | [],_,_,_,_=>rfl
 | m::r,fm,bh,pt,dg=>by
  rw[List.cons_append,ldGo,ldGo];cases m==118
  ·cases m==100
   ·cases m==99
    ·exact jj6 r _ _ _ _
    ·cases fm
     ·exact jj6 r _ _ _ _
     ·rfl
   ·exact jj6 r _ _ _ _
  ·exact jj6 r _ _ _ _
theorem cnt_has{l:J}{c:Int}:decide ((cntZ l c:Int)>0)=hasZ l c:=by
 rw[Bool.eq_iff_iff,jae,ja8]
 induction l with
 | nil=>simp[cntZ]
 | cons x l ih=>
  rw[jcg];by_cases e:x=c
  ·subst e;simp;omega
  ·rw[if_neg e,Int.zero_add,ih];simp[Ne.symm e]
theorem jk9:∀{l:J}{k:Nat},l.length=k→(l=rep1 48 k↔ ∀c∈l,c=48)
 | l,k,h=>by
  rw[rep1,List.eq_replicate_iff];exact⟨fun q=>q.2,fun q=>⟨h,q⟩⟩
theorem jhr{l:J}(hl:IsB (pS l)∧(pS l).length≤32)(h:pN l=true):okR (rolF (pS l))∧(rolF (pS l)).map rmk=jas (pS l)∧cdg (rolF (pS l))=pD l∧enOn (rolF (pS l))=hasZ (jas (pS l)) 99∧
  decide ((cntZ (mkGo (drZ (jal (pS l))) false (jal (pS l))) 100:Int)>0)=hasZ (jas (pS l)) 100∧hasZ (jas (pS l)) 100=decide (0∈rolF (pS l))∧(hasZ (jas (pS l)) 99=true→pW l>0):=by
 obtain⟨h1,h2,h3⟩:=jf7 h;have hv:=jc4 h;have hS:pS l=exZ l:=by rw[pS,if_pos hv]
 have hnp:=jfx h;obtain⟨_,_,p3,_⟩:=jht hl h 0;have hW:pW l=(pS l).length-cntZ (pS l) 86:=by rw[pW,if_pos hv,hnp.nch,hS];rfl
 refine⟨h2,h3,by rw[cdg_pd _ h2,h3,p3],?_,?_,by rw[←h3,has_100 _ h2],fun h9=> ?_⟩
 ·have hld:=hnp.ld;rw[←hS]at hld;unfold jdp at hld
  have hL:(ldGo (mkGo (drZ (jal (pS l))) false (jal (pS l))) false false false 0).1=true:=by
   revert hld;cases hasZ (jal (pS l)) 90&&hasZ (jal (pS l)) 42
   ·cases(hasZ (jal (pS l)) 90 || hasZ (jal (pS l)) 42) &&drZ (jal (pS l)) !=0
    ·intro q;have q:((ldGo (mkGo (drZ (jal (pS l))) false (jal (pS l))) false false false 0).1&&_)=true:=q;exact(Bool.and_eq_true_iff.1 q).1
    ·intro q;cases q
   ·intro q;cases q
  have hL2:(ldGo (jas (pS l)) false false false 0).1=true:=by
   unfold jas;split
   ·rw[jj6];exact hL
   ·rw[List.append_nil];exact hL
  rw[←h3]at hL2 ⊢;exact jmh _ h2 _ _ _ hL2
 ·rw[cnt_has,jas]
  have:∀a:J,hasZ (a++(if crZ (pS l)=true then [115,115]else [])) 100=hasZ a 100:=fun a=>by
   split<;>simp[hasZ]
  rw[this]
 ·have hm:=jg9 (pS l)
  have:0<nv (jas (pS l)):=by
   have:=ja8.1 h9;unfold nv;exact List.length_pos_of_mem (List.mem_filter.2 ⟨this,by decide⟩)
  omega
theorem jjm{n:Int}{k:Nat}(hn:(n.natAbs:Int)<tenZ k):(∀c∈digZ n.natAbs k,c=48)↔n=0:=by
 have h1:=jdc k n.natAbs;have h2:=all48 h1;have h3:=jhb k n.natAbs (by omega);rw[Int.emod_eq_of_lt (by omega) hn]at h3;rw[h3]at h2
 have:(∀c∈digZ n.natAbs k,c=48)↔(∀c∈digZ n.natAbs k,hasZ [48] c=true):=
  ⟨fun q c hc=>by rw[q c hc];rfl,fun q c hc=>by have:=ja8.1 (q c hc);simpa using this⟩
 rw[this,h2];omega
theorem en_law{l:J}(hl:IsB (pS l)∧(pS l).length≤32)(h:pN l=true){n:Int}(hn:(n.natAbs:Int)<tenZ (pD l).toNat):
  enV (digZ n.natAbs (pD l).toNat) (cntZ (mkGo (drZ (jal (pS l))) false (jal (pS l))) 100) (rolF (pS l))=(bif fdBl (pS l) (pW l) (pD l).toNat n then -1 else fdLe (pS l) (pW l) (pD l).toNat n)∧
  (fdBl (pS l) (pW l) (pD l).toNat n=true→fdLe (pS l) (pW l) (pD l).toNat n=pW l):=by
 obtain⟨f1,f2,f3,f4,f5,f6,f7⟩:=jhr hl h;have hz:=jjm hn;have hlen:=jcm (pD l).toNat n.natAbs;have hp:=jd5 h
 have hze:(jb4 (digZ n.natAbs (pD l).toNat) [48]).isEmpty=decide (n=0):=by
  rw[Bool.eq_iff_iff,List.isEmpty_iff,jis,jae,←hz];exact⟨fun q c hc=>by have:=ja8.1 (q c hc);simpa using this,fun q c hc=>by rw[q c hc];rfl⟩
 rw[enV,f4,hze,fdBl,fdLe,endZ]
 have hrep:decide (digZ n.natAbs (pD l).toNat=rep1 48 (pD l).toNat)=decide (n=0):=by
  rw[Bool.eq_iff_iff,jae,jae,jk9 hlen,hz]
 rw[hrep];generalize hds:digZ n.natAbs (pD l).toNat=ds at*;cases h9:hasZ (jas (pS l)) 99 with
 | false=>exact⟨rfl,fun q=>by cases q⟩
 | true=>
  have hW:=f7 h9;have e0:(n==0)=decide (n=0):=by rw[Bool.eq_iff_iff];simp
  rw[e0];simp only[Bool.not_true,cond_false,cond_true];cases hq:(!hasZ (jas (pS l)) 100&&decide (n=0))with
  | true=>
   obtain⟨q1,q2⟩:=Bool.and_eq_true_iff.1 hq;rw[q1,q2];have q0:hasZ (jas (pS l)) 100=false:=by simpa using q1
   rw[q0]at f5 f6;have h0:0∉rolF (pS l):=jac f6.symm;have hcn:=jgw _ h0;rw[jgv f5 _ _ _ f1 h0 (hz.2 (jab q2)) (by omega)];simp[hW]
  | false=>
   have hst:(decide ((cntZ (mkGo (drZ (jal (pS l))) false (jal (pS l))) 100:Int)>0) || !decide (n=0))=true:=by
    rw[f5];cases q1:hasZ (jas (pS l)) 100 with
    | true=>rfl
    | false=>
     rw[q1]at hq;have:decide (n=0)=false:=by simpa using hq
     rw[this];rfl
   have hB:(decide ((bif false then pW l else jea (jas (pS l)) ds 0)>0) && ((bif false then pW l else jea (jas (pS l)) ds 0)==pW l&& (decide (n=0) && !hasZ (jas (pS l)) 100)))=false:=by
    rw[Bool.and_comm (decide (n=0)),hq,Bool.and_false,Bool.and_false]
   rw[hB];refine⟨?_,fun q=>by cases q⟩;rcases jh5 (rolF (pS l)) ds 0 f1 (by omega) hst with q | ⟨q1,q2,q3⟩
   ·rw[q,f2];rfl
   ·exfalso;have hcn:=jgw _ q2;rw[f6,jad q2]at f5;rw[f5,Bool.false_or]at hst;have hn0:n≠0:=by simpa using hst
    refine hn0 (hz.1 fun c hc=>q3 c ?_);rw[hcn,f3,List.take_of_length_le (by omega)];exact hc
theorem ro_cases{b pre r:J}{c d f:Int}(h:DrP b d f)(hb:b=pre++c::r):
  ((pre.length:Int)=f∧c=d∧d≠0∧(roP d f c pre.length=4∨roP d f c pre.length=5))∨
  ((pre.length : Int) ≠ f ∧ (roP d f c pre.length = 0 ∨ roP d f c pre.length = 1 ∨ roP d f c pre.length = 2 ∨ roP d f c pre.length = 3 ∨
   (c≠d∧(roP d f c pre.length=4∧(c=83∨c=43∨c=45)∨roP d f c pre.length=5∧c=36)))):=by
 have he:=h.eq hb;have hc0:=h.zero c (by rw[hb];simp);by_cases hf:(pre.length:Int)=f
 ·obtain⟨h1,h2⟩:=he.2.1 hf;have hd:d≠0:=by rw[←h1];exact hc0
  refine .inl ⟨hf,h1,hd,?_⟩
  have hm:d=36∨d=83∨d=43∨d=45:=by
   rcases h.at_ with⟨q,_⟩ | ⟨_,_,_,q⟩
   ·exact absurd q hd
   ·simpa using q
  have hne:((pre.length:Int) !=f)=false:=by simpa using hf
  unfold roP;rw[hne,h1];rcases hm with rfl | rfl | rfl | rfl<;>simp[hasZ]
 ·refine .inr ⟨hf,?_⟩;have hne:((pre.length:Int) !=f)=true:=by simpa using hf
  unfold roP;rw[hne,Bool.and_true];cases q1:hasZ [57,89,84,73,82] c with
  | true=>exact .inl rfl
  | false=>
   cases q2:(c==90 || (c==42 || c==d))with
   | true=>exact .inr (.inl rfl)
   | false=>
    have hcd:c≠d:=fun e=>by rw[e]at q2;simp at q2
    cases q3:c==86 with
    | true=>exact .inr (.inr (.inl rfl))
    | false=>
     cases q4:c==36 with
     | true=>exact .inr (.inr (.inr (.inr ⟨hcd,.inr ⟨rfl,by simpa using q4⟩⟩)))
     | false=>
      cases q5:(c==83 || (c==43 || c==45))with
      | true=>exact .inr (.inr (.inr (.inr ⟨hcd,.inl ⟨rfl,by simpa using q5⟩⟩)))
      | false=>exact .inr (.inr (.inr (.inl rfl)))
theorem sg_eq{c:Int}{m:Bool}(h:c=83∨c=43∨c=45):sgC c m=sgZ c m:=by
 rcases h with rfl | rfl | rfl<;>cases m<;>rfl
theorem wr_body{b t:J}{d f n ld fl dr':Int}{cr mi:Bool}(h:DrP b d f)(hdr:d≠0→dr'=d∧fl=32)(hdr0:d=0→dr'=0)(hn:n=b.length+(bif cr then 2 else 0)):
  ∀(r pre ds:J)(a:Int)(X:J→J→Int→J)(rs' ms':J),b=pre++r→
   (∀ds a,wrGo f cr n mi ld fl rs' t ds b.length a=fdGo ld fl dr' mi ms' t ds a)→
   wrGo f cr n mi ld fl (jbk d f r pre.length++rs') (r++t) ds pre.length a=fdGo ld fl dr' mi ((jbk d f r pre.length).map rmk++ms') (r++t) ds a
 | [],pre,ds,a,X,rs',ms',hb,ht=>by
  rw[List.append_nil]at hb;rw[←hb];exact ht ds a
 | c::r,pre,ds,a,X,rs',ms',hb,ht=>by
  have ih:=fun ds a=>wr_body h hdr hdr0 hn r (pre++ [c]) ds a X rs' ms' (by rw[hb];simp) ht
  have e:((pre++ [c]).length:Int)=pre.length+1:=by simp
  rw[e]at ih
  have hcr:(cr&&decide ((pre.length:Int)≥n-2))=false:=by
   cases cr with
   | false=>rfl
   | true=>
    have:(b.length:Int)=pre.length+(r.length+1):=by rw[hb];simp
    rw[Bool.true_and,decide_eq_false_iff_not];simp only[cond_true]at hn;omega
  rw[jbk,List.cons_append,List.cons_append,List.map_cons,List.cons_append,wrGo,fdGo];simp only[List.headD_cons,List.tail_cons];rcases ro_cases h hb with⟨h1,h2,h3,h4⟩ | ⟨h1,h4⟩
  ·obtain⟨g1,g2⟩:=hdr h3;have hf:((pre.length:Int)==f)=true:=by simpa using h1
   have e1:wrC f cr n mi ld fl (roP d f c pre.length) c (ds.headD 0) pre.length a=32:=by rw[wrC,hf,cond_true,g2]
   have e2:wrT f cr n (roP d f c pre.length) pre.length=false:=by rw[wrT,hf];rfl
   have e3:ssZ c dr' mi=32:=by
    rw[ssZ,g1,h2];have:(d !=0&&d==d)=true:=by simp[h3]
    rw[this];rfl
   rw[e1,e2,e3,ih,ih];rcases h4 with h4 | h4<;>rw[h4] <;>rfl
  ·have hf:((pre.length:Int)==f)=false:=by simpa using h1
   rcases h4 with h4 | h4 | h4 | h4 | ⟨h5,h4⟩
   ·rw[h4];have e1:wrC f cr n mi ld fl 0 c (ds.headD 0) pre.length a=fmZ c (ds.headD 0) mi:=by rw[wrC,hf,hcr];rfl
    have e2:wrT f cr n 0 pre.length=true:=by rw[wrT,hf,hcr];rfl
    rw[e1,e2,ih,ih];rfl
   ·rw[h4];have e1:wrC f cr n mi ld fl 1 c (ds.headD 0) pre.length a=bif decide (a<ld)then fl else ds.headD 0:=by rw[wrC,hf,hcr];rfl
    have e2:wrT f cr n 1 pre.length=true:=by rw[wrT,hf,hcr];rfl
    rw[e1,e2,ih,ih];rfl
   ·rw[h4,ih];rfl
   ·rw[h4];have e1:wrC f cr n mi ld fl 3 c (ds.headD 0) pre.length a=bif c==66 then 32 else bif decide (a<ld)then fl else c:=by rw[wrC,hf,hcr];rfl
    have e2:wrT f cr n 3 pre.length=false:=by rw[wrT,hf,hcr];rfl
    rw[e1,e2,ih,ih];rfl
   ·have hss:ssZ c dr' mi=bif hasZ [67,82,68,66] c then(bif mi then c else 32)else sgZ c mi:=by
     have:(dr' !=0&&c==dr')=false:=by
      by_cases hd:d=0
      ·rw[hdr0 hd];rfl
      ·rw[(hdr hd).1];have:(c==d)=false:=by simpa using h5
       rw[this,Bool.and_false]
     rw[ssZ,this];rfl
    rcases h4 with⟨h4,h6⟩ | ⟨h4,h6⟩
    ·rw[h4];have e1:wrC f cr n mi ld fl 4 c (ds.headD 0) pre.length a=sgC c mi:=by rw[wrC,hf,hcr];rfl
     have e2:wrT f cr n 4 pre.length=false:=by rw[wrT,hf,hcr];rfl
     have e3:ssZ c dr' mi=sgC c mi:=by
      rw[hss,sg_eq h6];rcases h6 with rfl | rfl | rfl<;>rfl
     rw[e1,e2,ih,ih,←e3];rfl
    ·rw[h4];have e1:wrC f cr n mi ld fl 5 c (ds.headD 0) pre.length a=c:=by rw[wrC,hf,hcr];rfl
     have e2:wrT f cr n 5 pre.length=false:=by rw[wrT,hf,hcr];rfl
     have e3:ssZ c dr' mi=c:=by rw[hss,h6];rfl
     rw[e1,e2,ih,ih];show c::_=(ssZ c dr' mi::_)
     rw[e3];rfl
theorem mk_99a{d:Int}(hd:d≠0)(h4:d∈ [36,83,43,(45:Int)]):∀r:J,d∈r→99∈mkGo d true r
 | c::r,h=>by
  rw[mkGo];have hs:∀y:Bool,mkGo d (true || y) r=mkGo d true r:=fun y=>by rw[Bool.true_or]
  rw[hs];rcases List.mem_cons.1 h with e | h
  ·subst e
   have:mk1 d true d=99:=by
    have:d=36∨d=83∨d=43∨d=45:=by simpa using h4
    rcases this with rfl | rfl | rfl | rfl<;>rfl
   rw[this];exact List.mem_cons_self
  ·exact List.mem_cons_of_mem _ (mk_99a hd h4 r h)
theorem mk_99{d:Int}(hd:d≠0)(h4:d∈ [36,83,43,(45:Int)]):∀(r:J)(seen:Bool),¬(cntZ r d:Int)<2→99∈mkGo d seen r
 | [],_,h=>by simp[cntZ]at h
 | c::r,seen,h=>by
  rw[mkGo];rw[jcg]at h;by_cases e:c=d
  ·subst e;rw[if_pos rfl]at h
   have hs:(seen || (c !=0&&c==c))=true:=by
    have:(c !=0)=true:=by simpa using hd
    rw[this];simp
   rw[hs];refine List.mem_cons_of_mem _ (mk_99a hd h4 r ?_);have:(cntZ r c:Int)>0:=by omega
   exact ja8.1 (cnt_has.symm.trans (jaa this))
  ·rw[if_neg e]at h;exact List.mem_cons_of_mem _ (mk_99 hd h4 r _ (by omega))
theorem wr_2(f n:Int)(mi:Bool)(ld fl x y:Int)(ds:J)(i a:Int):∃D,wrGo f true n mi ld fl [4,4] [x,y] ds i a=[wrC f true n mi ld fl 4 x (ds.headD 0) i a,wrC f true n mi ld fl 4 y D (i+1) (a+1)]:=⟨_,rfl⟩
theorem fd_2(le fl dr:Int)(mi:Bool)(x y:Int)(ds:J)(a:Int):fdGo le fl dr mi [115,115] [x,y] ds a=[ssZ x dr mi,ssZ y dr mi]:=rfl
theorem jiz(c:Int):∀k:Nat,repZ [c] k=rep1 c k
 | 0=>rfl
 | k+1=>by rw[repZ,jiz c k];rfl
theorem jjk{s:J}(h:NumP s):(drZ (jal s)≠0→fdDr s=drZ (jal s)∧fdFl s=32)∧(drZ (jal s)=0→fdDr s=0):=by
 have e:=dr_body s;constructor
 ·intro hd;have hld:=h.ld;unfold jdp at hld
  have h1:((hasZ (jal s) 90 || hasZ (jal s) 42) &&drZ (jal s) !=0)=false:=by
   revert hld;cases hasZ (jal s) 90&&hasZ (jal s) 42
   ·cases(hasZ (jal s) 90 || hasZ (jal s) 42) &&drZ (jal s) !=0
    ·exact fun _=>rfl
    ·intro q;cases q
   ·intro q;cases q
  have hdn:(drZ (jal s) !=0)=true:=by simpa using hd
  rw[hdn,Bool.and_true,Bool.or_eq_false_iff]at h1;obtain⟨t,ht,hc⟩:=je1 s
  have ha:∀c:Int,(c=90∨c=42)→hasZ (jal s) c=false→hasZ s c=false:=fun c h0 h1=>by
   have:hasZ s c=hasZ (jal s++t) c:=congrArg (hasZ · c) ht;rw[this];unfold hasZ at h1 ⊢;rw[List.any_append,h1,Bool.false_or];rcases hc with⟨rfl,_⟩ | ⟨rfl | rfl,_⟩ <;>rcases h0 with rfl | rfl<;>rfl
  have a1:=ha 90 (.inl rfl) h1.1;have a2:=ha 42 (.inr rfl) h1.2;obtain⟨f1,f2⟩:=(jgf (jal s) (jal s)).resolve_left hd;obtain⟨f3,f4⟩:=jgt f1
  have h9:hasZ (jas s) 99=true:=ja8.2 (by
   unfold jas;exact List.mem_append_left _ (mk_99 hd f3 _ _ f4))
  rw[fdDr,fdFl,a1,a2,h9,e];exact⟨rfl,rfl⟩
 ·intro hd;rw[fdDr,e,hd];cases !hasZ s 90&& (!hasZ s 42&&hasZ (jas s) 99) <;>rfl
theorem fdLe_nn{sp:J}{w:Int}{k:Nat}{n:Int}(hw:0≤w):0≤fdLe sp w k n:=by
 rw[fdLe,endZ];have:=(jlj (jas sp) (digZ n.natAbs k) 0).1;cases !hasZ (jas sp) 99
 ·cases !hasZ (jas sp) 100&&decide (digZ n.natAbs k=rep1 48 k)
  ·exact this
  ·exact hw
 ·exact Int.le_refl 0
theorem out_law{l:J}(h:pN l=true)(ds:J)(ld:Int)(mi:Bool):
  wrGo (nD (jal (pS l))).2.2 (crZ (pS l)) (pS l).length mi ld (fdFl (pS l)) (rolF (pS l)) (pS l) ds 0 0=fdGo ld (fdFl (pS l)) (fdDr (pS l)) mi (jas (pS l)) (pS l) ds 0:=by
 obtain⟨h1,h2,h3⟩:=jf7 h;have hv:=jc4 h;have hS:pS l=exZ l:=by rw[pS,if_pos hv]
 have hnp:NumP (pS l):=by rw[hS];exact jfx h
 obtain⟨d1,d2⟩:=jjk hnp;obtain⟨t,ht,hc⟩:=je1 (pS l);have hP:=h1.drP
 have hfl:(nD (jal (pS l))).2.2<(jal (pS l)).length:=by
  rcases hP.at_ with⟨_,q⟩ | ⟨_,q1,q2,_⟩
  ·rw[q];omega
  ·rw[q2];exact(jfy _ q1).2
 have hdr':fdDr (pS l)≠67∧fdDr (pS l)≠82∧fdDr (pS l)≠68∧fdDr (pS l)≠66:=by
  by_cases q:drZ (jal (pS l))=0
  ·rw[d2 q];decide
  ·rw[(d1 q).1];rcases hP.at_ with⟨q1,_⟩ | ⟨_,_,_,q4⟩
   ·exact absurd q1 q
   ·have:drZ (jal (pS l))=36∨drZ (jal (pS l))=83∨drZ (jal (pS l))=43∨drZ (jal (pS l))=45:=by simpa using q4
    omega
 have hlen:((pS l).length:Int)=(jal (pS l)).length+(bif crZ (pS l)then 2 else 0):=by
  have:=congrArg List.length ht;rw[List.length_append]at this;rcases hc with⟨rfl,hc⟩ | ⟨rfl | rfl,hc⟩ <;>rw[hc] <;>simp at this ⊢ <;>omega
 have hrol:rolF (pS l)=jbk (drZ (jal (pS l))) (nD (jal (pS l))).2.2 (jal (pS l)) 0++(bif crZ (pS l)then [4,4]else []):=by
  rw[rolF,nR,h1.d]
 have hmk:jas (pS l)=(jbk (drZ (jal (pS l))) (nD (jal (pS l))).2.2 (jal (pS l)) 0).map rmk++(bif crZ (pS l)then [115,115]else []):=by
  rw[←h3,hrol,List.map_append];congr 1;cases crZ (pS l) <;>rfl
 have key:=wr_body (t:=t) (n:=(pS l).length) (ld:=ld) (mi:=mi) hP d1 d2 hlen (jal (pS l)) [] ds 0 (fun _ _ _=> []) (bif crZ (pS l)then [4,4]else []) (bif crZ (pS l)then [115,115]else []) rfl
 have key:=key fun ds a=>by
  rcases hc with⟨rfl,hc⟩ | ⟨ht',hc⟩
  ·rw[hc];rfl
  ·rw[hc]at hlen;simp only[cond_true]at hlen;have f1:(((jal (pS l)).length:Int)==(nD (jal (pS l))).2.2)=false:=by simp;omega
   have f2:(((jal (pS l)).length:Int)+1==(nD (jal (pS l))).2.2)=false:=by simp;omega
   have g1:(true&&decide (((jal (pS l)).length:Int)≥((pS l).length:Int)-2))=true:=by simp;omega
   have g2:(true&&decide (((jal (pS l)).length:Int)+1≥((pS l).length:Int)-2))=true:=by simp;omega
   have ss:∀c:Int,c=67∨c=82∨c=68∨c=66→ssZ c (fdDr (pS l)) mi=bif !mi then 32 else c:=fun c hcc=>by
    have:(fdDr (pS l) !=0&&c==fdDr (pS l))=false:=by
     have:(c==fdDr (pS l))=false:=by simp;omega
     rw[this,Bool.and_false]
    rw[ssZ,this];have h5:hasZ [67,82,68,66] c=true:=by rcases hcc with rfl | rfl | rfl | rfl<;>rfl
    rw[h5];cases mi<;>rfl
   have wc:∀(r c d a:Int)(i:Int),(i==(nD (jal (pS l))).2.2)=false→(true&&decide (i≥((pS l).length:Int)-2))=true→wrC (nD (jal (pS l))).2.2 true (pS l).length mi ld (fdFl (pS l)) r c d i a=bif !mi then 32 else c:=fun r c d a i q1 q2=>by
    rw[wrC,q1,q2];rfl
   rw[hc];simp only[cond_true];rcases ht' with rfl | rfl
   ·obtain⟨D,e⟩:=wr_2 (nD (jal (pS l))).2.2 (pS l).length mi ld (fdFl (pS l)) 67 82 ds (jal (pS l)).length a;rw[e,fd_2,wc _ _ _ _ _ f1 g1,wc _ _ _ _ _ f2 g2,ss 67 (by decide),ss 82 (by decide)]
   ·obtain⟨D,e⟩:=wr_2 (nD (jal (pS l))).2.2 (pS l).length mi ld (fdFl (pS l)) 68 66 ds (jal (pS l)).length a;rw[e,fd_2,wc _ _ _ _ _ f1 g1,wc _ _ _ _ _ f2 g2,ss 68 (by decide),ss 66 (by decide)]
 rw[hrol,hmk];have e0:((([]:J).length:Nat):Int)=0:=rfl;rw[e0,←ht]at key;exact key
theorem wr_law{l:J}(hl:IsB (pS l)∧(pS l).length≤32)(h:pN l=true){n:Int}(hn:(n.natAbs:Int)<tenZ (pD l).toNat):
  wrV (pS l) (pW l) (nD (jal (pS l))).2.2 (crZ (pS l)) (drZ (jal (pS l))) (fdFl (pS l)) (cntZ (mkGo (drZ (jal (pS l))) false (jal (pS l))) 100) (rolF (pS l)) (digZ n.natAbs (pD l).toNat) (decide (n<0))=
   (jdk (pS l) (pW l) (pD l).toNat n,fdLe (pS l) (pW l) (pD l).toNat n):=by
 obtain⟨e1,e2⟩:=en_law hl h hn;obtain⟨_,_,_,p4,_,p6⟩:=jht hl h n;have hv:=jc4 h;have hS:pS l=exZ l:=by rw[pS,if_pos hv]
 have hnp:NumP (pS l):=by rw[hS];exact jfx h
 obtain⟨d1,d2⟩:=jjk hnp;have hP:=(jf7 h).1.drP;rw[wrV,e1,jdk];cases hb:fdBl (pS l) (pW l) (pD l).toNat n with
 | true=>
  rw[e2 hb,←jiz];rfl
 | false=>
  simp only[cond_false];have h0:decide (fdLe (pS l) (pW l) (pD l).toNat n<0)=false:=jad (by have:= @fdLe_nn (pS l) (pW l) (pD l).toNat n p4;omega);rw[h0,cond_false,out_law h];rw[fdOK,hb,Bool.false_or]at p6;by_cases q:drZ (jal (pS l))=0
  ·have q1:=d2 q;have hO:jej (pS l) (pW l) (pD l).toNat n=fdGo (fdLe (pS l) (pW l) (pD l).toNat n) (fdFl (pS l)) 0 (decide (n<0)) (jas (pS l)) (pS l) (digZ n.natAbs (pD l).toNat) 0:=by rw[jej,q1]
   rw[q,q1,hO];have z:((0:Int) !=0)=false:=rfl;rw[z,Bool.false_and];rfl
  ·have q1:=(d1 q).1;rw[q1]at p6 ⊢;have hq:(drZ (jal (pS l)) !=0)=true:=by simpa using q
   have hq2:(drZ (jal (pS l))==0)=false:=by simpa using q
   rw[hq2,Bool.false_or,jae]at p6;have h1:decide (fdLe (pS l) (pW l) (pD l).toNat n>0)=true:=jaa (by omega);rw[hq,h1]
   have hs:(bif drZ (jal (pS l))==36 then 36 else sgC (drZ (jal (pS l))) (decide (n<0)))=sgZ (drZ (jal (pS l))) (decide (n<0)):=by
    rcases hP.at_ with⟨z,_⟩ | ⟨_,_,_,q4⟩
    ·exact absurd z q
    ·have:drZ (jal (pS l))=36∨drZ (jal (pS l))=83∨drZ (jal (pS l))=43∨drZ (jal (pS l))=45:=by simpa using q4
     rcases this with e | e | e | e<;>rw[e] <;>cases decide (n<0) <;>rfl
   rw[hs];have:jej (pS l) (pW l) (pD l).toNat n=fdGo (fdLe (pS l) (pW l) (pD l).toNat n) (fdFl (pS l)) (drZ (jal (pS l))) (decide (n<0)) (jas (pS l)) (pS l) (digZ n.natAbs (pD l).toNat) 0:=by rw[jej,q1]
   rw[this];rfl
end Go.Px
end
noncomputable section
set_option maxHeartbeats 3200000
namespace Go.Px
open Go Go.Ab Go.Proofs Go.Shelf
theorem cuN_lt(n q sc d:Int)(sg:Bool):((cuN n q sc d sg).natAbs:Int)<tenZ d.toNat:=by
 have hm:=Int.emod_nonneg (cuM n q sc) (b:=tenZ d.toNat) (by have:=jcs d.toNat;omega);have hl:=Int.emod_lt_of_pos (cuM n q sc) (jcs d.toNat);unfold cuN cuV;split<;>omega
theorem jk4{s:Y}(h:pN (bz s)=true){k cap:Nat}{d:E}(hR:jbu d k cap=true)(hz:zc d k=rolF (pS (bz s))){m:Int}(hm:(m.natAbs:Int)<tenZ (pD (bz s)).toNat):
  w64C (sz (pS (bz s))) (sz (digZ m.natAbs (pD (bz s)).toNat)) k cap (pW (bz s)) (fdFl (pS (bz s))) d=true∧
  wrV (bz (sz (pS (bz s)))) (pW (bz s)) (nD (jal (pS (bz s)))).2.2 (crZ (pS (bz s))) (drZ (jal (pS (bz s)))) (fdFl (pS (bz s))) (cntZ (mkGo (drZ (jal (pS (bz s)))) false (jal (pS (bz s)))) 100) (zc d k) (bz (sz (digZ m.natAbs (pD (bz s)).toNat))) (decide (m<0))=
   (jdk (pS (bz s)) (pW (bz s)) (pD (bz s)).toNat m,fdLe (pS (bz s)) (pW (bz s)) (pD (bz s)).toNat m):=by
 have hl:=jdv s;have hr:=jaw.1 hR;have hk:k=(pS (bz s)).length:=by rw[←rol_len h,←hz,jbj hr]
 have b1:bz (sz (pS (bz s)))=pS (bz s):=jdd hl.1;have hdd:=jdc (pD (bz s)).toNat m.natAbs;have b2:bz (sz (digZ m.natAbs (pD (bz s)).toNat))=digZ m.natAbs (pD (bz s)).toNat:=jdd (jg1 hdd);have z1:(sz (pS (bz s))).size=(pS (bz s)).length:=by rw[←jap,b1]
 have z2:(sz (digZ m.natAbs (pD (bz s)).toNat)).size=(pD (bz s)).toNat:=by rw[←jap,b2,jcm]
 obtain⟨f1,_,f3,_⟩:=jhr hl h;have hp:=jd5 h;have hw:=jht hl h 0;refine⟨?_,by rw[b1,b2,hz];exact wr_law hl h hm⟩;simp only[w64C,jaf,jae];rw[hz,b2,z1,z2,f3];refine⟨hR,?_,hdd,⟨by omega,by omega,by omega,by omega,hw.2.2.2.1,by omega⟩,by omega,?_⟩
 ·simp only[roOK,List.all_eq_true,jae];exact fun r hr=>by have:=f1 r hr;omega
 ·unfold fdFl;split
  ·exact .inr rfl
  ·exact .inl rfl
def s20(n:Int)(q:Int)(s:Y):Bool×Value:=(decide (s.size≤9223372036854775807∧ -9223372036854775808≤n∧n≤9223372036854775807),.tuple ⟨[.string (sz (edS (bz s) n q)),.bool (edF (bz s) n q),.int .i64 (edE (bz s) q)]⟩)
theorem fn20:Fn1 Tryz.prog 171 Tryz.f171:= .m Tryz.func171
def pf(d e:Y)(a:E)(b c:Nat):Bool:=jbu a b c&& (roOK (zc a b) && (dgL (bz d) &&decide ((b≤1000∧d.size≤1000∧b≤(gp e).size∧(gp e).size≤1000∧0≤pW (bz e)∧pW (bz e)≤1000)∧cdg (zc a b)≤aq d∧(fdFl (pS (bz e))=32∨fdFl (pS (bz e))=42))))
def pb(d e:Y)(a:E)(b c:Nat)(f:Prop):Prop:=bif pf d e a b c then f else False
def mf(e:Bool)(a d:Y)(b:E)(c:Nat):Prod J Int:=wrV (bz (gp a)) (pW (bz a)) (nD (jal (pS (bz a)))).snd.snd (crZ (pS (bz a))) (drZ (jal (pS (bz a)))) (fdFl (pS (bz a))) (cntZ (mkGo (drZ (jal (pS (bz a)))) false (jal (pS (bz a)))) 100:Int) (zc b c) (bz d) e
def qg(a i:Bool)(c:Y)(b:J)(f l:E)(g h:Nat)(k:Value)(j:Value→Prop):Prop:=bif a then pb (sz b) c f g h (∀d:Y,∀e:Int,sz (mf i c (sz b) f g).fst=d→(mf i c (sz b) f g).snd=e→j (al (.string d::k::l)))else False
theorem v20(n:Int)(q:Int)(s:Y)(R:Value→Prop):ja1 Tryz.prog G37 noL Tryz.f171 [Enc.enc n,Enc.enc q,Enc.enc s] (fun _=>none) 0 (fun v _ _=>R v)=(du (pN (bz s)) s (∀a:Nat,∀b:Nat,∀c:E,jbu c a b=true→zc c a=rolF (pS (bz s))→az (a7 q 0) true (a7 q 0 || dy q 9) (R (al [d9,B false,ak 1])) (qg (i64B n&& (gx 0 q 9&& (gx 0 (pQ (bz s)) 9&&gx 0 (pD (bz s)) 9))) (a7 (Px.cuN n q (pQ (bz s)) (pD (bz s)) (pG (bz s))) 0) s (lj (Px.cuN n q (pQ (bz s)) (pD (bz s)) (pG (bz s))) (pD (bz s))) c [ak 0] a b (B (Px.cuF n q (pQ (bz s)) (pD (bz s)) (pG (bz s)))) R)) (R (al [d9,B false,ak 30]))):=by kernel_rfl
theorem ok20:jao Tryz.prog 171 (sp3 s20):=by
 refine jki ok_G37 hmix fn20 jai jag fun n q s hc=> ?_
 rw[ja2,v20];delta ar cm du al ak a8 d9 az aq gp pf pb mf qg lj a7 gx dy;have hc:(s.size≤9223372036854775807∧ -9223372036854775808≤n∧n≤9223372036854775807):=jab hc
 try dsimp only[s20]
 refine c_t (jaa hc.1) (cond_intro (fun h=> ?_) (fun h=> ?_))
 ·intro k cap d hR hz;refine c_t (by simp) (cond_intro (fun hq=> ?_) (fun hq=> ?_))
  ·have hq:q<0∨q>9:=by simpa using hq
   have h1:¬(0≤q∧q≤9):=by omega
   rw[edS,edF,edE,if_neg (fun e=>h1 ⟨e.2.1,e.2.2⟩),if_neg (fun e=>h1 ⟨e.2.1,e.2.2⟩),if_pos h,if_neg h1,jhj]
  ·have hq:0≤q∧q≤9:=by
    simp only[Bool.or_eq_false_iff,decide_eq_false_iff_not]at hq;omega
   have hp:=jd5 h;obtain⟨g1,g2⟩:=jk4 h hR hz (cuN_lt n q (pQ (bz s)) (pD (bz s)) (pG (bz s)));refine c_t (by simp only[i64B,jaf,jae];omega) (c_t g1 fun t l h1 h2=> ?_);rw[g2]at h1 h2;rw[edS,edF,edE,if_pos ⟨h,hq⟩,if_pos ⟨h,hq⟩,if_pos h,if_pos hq,←h1]
 ·have h1:¬pN (bz s)=true:=by rw[h];simp
  rw[edS,edF,edE,if_neg (fun e=>h1 e.1),if_neg (fun e=>h1 e.1),if_neg h1,jhj]
theorem unK_dig{c:Int}(h1:c≥48)(h2:c≤57):unK c=false:=by
 cases h:unK c with
 | false=>rfl
 | true=>
  have:=ja8.1 h;simp only[punchedZ,List.mem_cons,List.not_mem_nil,or_false]at this;omega
def gsGo:J→J→J
 | [],_=> []
 | r::rs,cs=>bif r==2 then gsGo rs cs else bif r !=0&&r !=1 then gsGo rs cs.tail else(48+rdD (cs.headD 0))::gsGo rs cs.tail
def V67_0:Y×Y×Rw×Int×Nat×Nat×Int×Int×E→E:=fun(t,r4,o,aa,k2,cap2,L,i,d)=> [.string t,.string r4,o.v 200,.int .i64 aa,.slice (some ⟨1,0,some 1⟩) k2 cap2,.int .i64 L,.int .i64 i]
def B67_0:Y×Y×Rw×Int×Nat×Nat×Int×Int×E→O:=fun(t,r4,o,aa,k2,cap2,L,i,d)=> [some ⟨d,251,false⟩,o.b]
def S67_0:LSpecA (Y×Y×Rw×Int×Nat×Nat×Int×Int×E) where
 live:=[1,4,5,6,16,17,18]
 mid:=[1,200]
 n:=210
 ap:=[(.tmp 5,200)]
 dec vs bs:=match vs,bs with | [.string t,.string r4,.slice none 0 0,.int .i64 aa,.slice (some ⟨1,0,some 1⟩) k2 cap2,.int .i64 L,.int .i64 i],[some ⟨d,251,false⟩,none]=>some (t,r4,.nil,aa,k2,cap2,L,i,d) | [.string t,.string r4,.slice (some ⟨200,0,some 1⟩) om oc,.int .i64 aa,.slice (some ⟨1,0,some 1⟩) k2 cap2,.int .i64 L,.int .i64 i],[some ⟨d,251,false⟩,some ⟨od,5,true⟩]=>some (t,r4,.own od om oc,aa,k2,cap2,L,i,d) | _,_=>none
 pre:=fun(t,r4,o,aa,k2,cap2,L,i,d)=>o.ok&& (jbu d k2 cap2&&decide (0≤i∧i≤k2∧k2≤1000∧L=k2∧0≤aa∧aa≤i∧aa+cN ((zc d k2).drop i.toNat)≤t.size∧o.z.length≤i))
 fin:=fun(t,r4,o,aa,k2,cap2,L,i,d) Z=>(o.is=false→gsGo ((zc d k2).drop i.toNat) ((bz t).drop aa.toNat)=[]→ ∀a' i',Z (.exit 0) [.string t,.string r4,.slice none 0 0,.int .i64 a',.slice (some ⟨1,0,some 1⟩) k2 cap2,.int .i64 L,.int .i64 i'] [some ⟨d,251,false⟩,none])∧(∀a' i' od' om' oc',jci od' om' oc'=true→zc od' om'=o.z++gsGo ((zc d k2).drop i.toNat) ((bz t).drop aa.toNat)→Z (.exit 0) [.string t,.string r4,.slice (some ⟨200,0,some 1⟩) om' oc',.int .i64 a',.slice (some ⟨1,0,some 1⟩) k2 cap2,.int .i64 L,.int .i64 i'] [some ⟨d,251,false⟩,some ⟨od',5,true⟩])
def nk(e f:Y)(d:Exit→E→O→Prop)(l m:Int)(a b:E)(c g h j k:Nat)(i:Value):Prop:=b9 (jp [] a b c 200&&true) d [mz a c,ie [(c,200)] b] (.string e:: .string f::a9 200 g h::i::a9 1 j k::bv l m)
theorem r67_0n(t:Y)(r4:Y)(aa:Int)(k2:Nat)(cap2:Nat)(L:Int)(i:Int)(d:E)(jk:Tmps)(R:Exit→E→O→Prop):(jbv Tryz.prog G37 noL Tryz.f205.ntmps (ja9 Tryz.f205 0) (tl S67_0.live (V67_0 (t,r4,.nil,aa,k2,cap2,L,i,d)) jk) (ml S67_0.mid (B67_0 (t,r4,.nil,aa,k2,cap2,L,i,d))) S67_0.n fun e t' m' _=>S67_0.out R e t' m')=(lb R i L [] d (j0 t r4 (ak aa::fp L i 1 k2 cap2) jw) k2 0 (jr d) none (bif fy i d==2 then b9 (ip d) R [jr d,none] (j0 t r4 (ak aa::a9 1 k2 cap2::bv L i) jw)else bif bp t aa then az (fy i d !=0) true (fy i d !=0&&fy i d !=1) (b9 (ip d) R [jr d,none] (j0 t r4 (ay aa::a9 1 k2 cap2::bv L i) jw)) (f8 (decide (bu t aa≥48)) true (fq (bu t aa) 48 57) (∀a:Nat,∀b:E,cw b a 1→nk t r4 R L i d (.int .u8 (bu t aa)::b) 248 1 a k2 cap2 (ay aa)) (bif unK (bu t aa)then∀a:Nat,∀b:E,cw b a 1→nk t r4 R L i d (jz (48+dx (unD (bu t aa)) .u8)::b) 252 1 a k2 cap2 (ay aa)else∀a:Nat,∀b:E,cw b a 1→nk t r4 R L i d (ao 48::b) 249 1 a k2 cap2 (ay aa)))else False)):=by kernel_rfl
def qh(j k:Y)(i:Exit→E→O→Prop)(g l o p:Int)(c f:E)(d e h m n:Nat):Prop:=bif gn c d e 1 then∀a:Nat,∀b:E,cw b a (e+1)→b9 (jp [] f (gq c e++ [ao g]++b) h 200&&true) i (mz f h::mb g c b h 200 e) (.string j:: .string k::a9 200 (e+1) a::ay l::a9 1 m n::bv o p)else False
theorem r67_0o(t:Y)(r4:Y)(od:E)(om:Nat)(oc:Nat)(aa:Int)(k2:Nat)(cap2:Nat)(L:Int)(i:Int)(d:E)(jk:Tmps)(R:Exit→E→O→Prop):(jbv Tryz.prog G37 noL Tryz.f205.ntmps (ja9 Tryz.f205 0) (tl S67_0.live (V67_0 (t,r4,(.own od om oc),aa,k2,cap2,L,i,d)) jk) (ml S67_0.mid (B67_0 (t,r4,(.own od om oc),aa,k2,cap2,L,i,d))) S67_0.n fun e t' m' _=>S67_0.out R e t' m')=(d5 (b7 i L) (cl i (k2:Int)) (jp [] d od 200 200&&true) (bif jby .i64 d (dp i)then bif fy i d==2 then nk t r4 R L i d od 200 om oc k2 cap2 (ak aa)else bif bp t aa then az (fy i d !=0) true (fy i d !=0&&fy i d !=1) (nk t r4 R L i d od 200 om oc k2 cap2 (ay aa)) (f8 (decide (bu t aa≥48)) true (fq (bu t aa) 48 57) (qh t r4 R (bu t aa) aa L i od d oc om 248 k2 cap2) (bif unK (bu t aa)then qh t r4 R (dx (48+IntKind.u8.wrap (unD (bu t aa))) .u8) aa L i od d oc om 252 k2 cap2 else qh t r4 R 48 aa L i od d oc om 249 k2 cap2))else False else False) False (R (.exit 0) (j0 t r4 (ak aa::fp L i 1 k2 cap2) (a9 200 om oc)) (mz d 200::ic od))):=by kernel_rfl
theorem l67_0:LOKf Tryz.prog (oneL 0 S67_0.hA) Tryz.f205:=by
 refine jbo (h:=S67_0.hA) (by kernel_rfl) (jbr ok_G37 hmix (by kernel_rfl) (ja7 _) S67_0 V67_0 B67_0 (fun(t,r4,o,aa,k2,cap2,L,i,d)=>(k2-i).toNat) ?_ ?_ ?_)
 ·intro vs bs s h;simp only[S67_0]at h;split at h
  all_goals first | (cases h;exact⟨rfl,rfl⟩) | cases h | (split at h<;>first | (rename_i hq;cases h;have hq:=jah hq;subst hq;exact⟨rfl,rfl⟩) | cases h)
 ·exact fun⟨t,r4,o,aa,k2,cap2,L,i,d⟩ hp=>by
   simp only[S67_0,jaf]at hp;have hr:=jaw.1 hp.2.1;cases o with
   | nil=>simp[V67_0,B67_0,S67_0,ja0,jbz,idsL,ids,Rw.v,Rw.b,jaq hr.plain]
   | own od om oc=>simp[V67_0,B67_0,S67_0,ja0,jbz,idsL,ids,Rw.v,Rw.b,jaq hr.plain,jaq (jat.1 hp.1).plain]
 ·intro⟨t,r4,o,aa,k2,cap2,L,i,d⟩ jk Z hp hf;simp only[S67_0]at hp hf;cases o with
  | nil=>
   rw[r67_0n];delta cq ar d5 dp ip cl b7 lb az f8 b9 aw ay ak bv dv a9 ie mz jp nk ao cw jz dx bu fq j0 jw jr fy aq bp bw fp;simp only[jaf,jae]at hp;obtain⟨-,hR,hp⟩:=hp;have hr:=jaw.1 hR;simp only[Rw.z,List.length_nil]at hp hf;have e0:0+i.toNat*1=i.toNat:=by omega
   rw[e0];apply cond_intro<;>intro h
   ·have h:=jab h;obtain⟨a1,a3⟩:=hr.at hp.1 (by omega);rw[a3,gsGo]at hf;rw[a3,cN]at hp;have hc:=jmo ((zc d k2).drop (i+1).toNat);rw[a1,w64 (n:=i+1) (by omega),w64 (n:=aa+1) (by omega)];generalize jau d i.toNat=r at*;refine c_t (jaa (by omega)) (c_t rfl (cond_intro (fun q=> ?_) (fun q=> ?_)))
    ·rw[q,cond_true]at hf hp;refine c_t (by rw[hr.good];rfl) ?_;rw[hr.rlb];exact⟨(t,r4,.nil,aa,k2,cap2,L,i+1,d),rfl,rfl,by simp only[S67_0,jaf,jae];exact⟨rfl,hR,by simp only[Rw.z,List.length_nil];omega⟩,by simp only;omega,hf⟩
    ·rw[q,cond_false]at hf hp;obtain⟨p1,p2,p3,p4,p5,p6,p7,p8⟩:=hp;rw[jb7 p5 (by omega),List.headD_cons,List.tail_cons]at hf;have hB:=jfs t aa.toNat;generalize jaj t aa.toNat=c at*;have hu:0≤unD c∧unD c≤9:=by unfold unD;split<;>omega
     rw[w8 (n:=unD c) (by omega),w8 (n:=48+unD c) (by omega)];refine c_t (jaa (by omega)) (c_t (by simp) (cond_intro (fun q2=> ?_) (fun q2=>c_t (by simp) (cond_intro (fun q3=> ?_) (fun q3=>cond_intro (fun q4=> ?_) (fun q4=> ?_))))))
     ·rw[q2,cond_true]at hf;refine c_t (by rw[hr.good];rfl) ?_;rw[hr.rlb];exact⟨(t,r4,.nil,aa+1,k2,cap2,L,i+1,d),rfl,rfl,by simp only[S67_0,jaf,jae];exact⟨rfl,hR,by simp only[Rw.z,List.length_nil];omega⟩,by simp only;omega,hf⟩
     ·rw[q2,cond_false]at hf;intro cap1 tail ht;obtain⟨h1,h2⟩:RowP (Value.int IntKind.u8 (c)::tail) 1 cap1∧zc (Value.int IntKind.u8 (c)::tail) 1=[c]:=jgl [c] ht;have hl1:=jba h1;generalize Value.int IntKind.u8 (c)::tail=od' at*
      have e:48+rdD c=c:=by
       have q:=q3;simp only[jaf,jae]at q;unfold rdD;rw[unK_dig q.1 q.2,q3];simp only[cond_true,cond_false];omega
      rw[e]at hf;refine c_t (by rw[hr.good,h1.good];rfl) ?_;rw[hr.rlb,h1.rlb];exact⟨(t,r4,.own od' (1) cap1,aa+1,k2,cap2,L,i+1,d),rfl,rfl,by simp only[S67_0,jaf,jae];exact⟨jat.2 h1,hR,by simp only[Rw.z,hl1];omega⟩,by simp only;omega,⟨fun q=>(by cases q),fun a' i' od'' om'' oc'' g1 g2=>hf.2 a' i' od'' om'' oc'' g1 (by rw[g2];simp only[Rw.z,h2,List.append_assoc,List.cons_append,List.nil_append])⟩⟩
     ·rw[q2,cond_false]at hf;intro cap1 tail ht;obtain⟨h1,h2⟩:RowP (Value.int IntKind.u8 (48+unD c)::tail) 1 cap1∧zc (Value.int IntKind.u8 (48+unD c)::tail) 1=[48+unD c]:=jgl [48+unD c] ht;have hl1:=jba h1;generalize Value.int IntKind.u8 (48+unD c)::tail=od' at*
      have e:48+rdD c=48+unD c:=by
       unfold rdD;rw[q4];rfl
      rw[e]at hf;refine c_t (by rw[hr.good,h1.good];rfl) ?_;rw[hr.rlb,h1.rlb];exact⟨(t,r4,.own od' (1) cap1,aa+1,k2,cap2,L,i+1,d),rfl,rfl,by simp only[S67_0,jaf,jae];exact⟨jat.2 h1,hR,by simp only[Rw.z,hl1];omega⟩,by simp only;omega,⟨fun q=>(by cases q),fun a' i' od'' om'' oc'' g1 g2=>hf.2 a' i' od'' om'' oc'' g1 (by rw[g2];simp only[Rw.z,h2,List.append_assoc,List.cons_append,List.nil_append])⟩⟩
     ·rw[q2,cond_false]at hf;intro cap1 tail ht;obtain⟨h1,h2⟩:RowP (Value.int IntKind.u8 (48)::tail) 1 cap1∧zc (Value.int IntKind.u8 (48)::tail) 1=[48]:=jgl [48] ht;have hl1:=jba h1;generalize Value.int IntKind.u8 (48)::tail=od' at*
      have e:48+rdD c=48:=by
       unfold rdD;rw[q4,q3];rfl
      rw[e]at hf;refine c_t (by rw[hr.good,h1.good];rfl) ?_;rw[hr.rlb,h1.rlb];exact⟨(t,r4,.own od' (1) cap1,aa+1,k2,cap2,L,i+1,d),rfl,rfl,by simp only[S67_0,jaf,jae];exact⟨jat.2 h1,hR,by simp only[Rw.z,hl1];omega⟩,by simp only;omega,⟨fun q=>(by cases q),fun a' i' od'' om'' oc'' g1 g2=>hf.2 a' i' od'' om'' oc'' g1 (by rw[g2];simp only[Rw.z,h2,List.append_assoc,List.cons_append,List.nil_append])⟩⟩
   ·have h:=jac h;rw[hr.end (by omega),gsGo]at hf;refine c_t (by rw[hr.good];rfl) ?_;rw[hr.rlb];exact hf.1 rfl rfl aa i
  | own od om oc=>
   rw[r67_0o];delta cq ar d5 ie ic mz j0 dv a9 ak bw fp az f8 b9 aw ay bv ao gq mb jp cw iq gn qh dx bu fq nk dp fy aq bp cl b7;simp only[jaf,jae]at hp;obtain⟨ho,hR,hp⟩:=hp;have hr:=jaw.1 hR;have ho:=jat.1 ho;have hzl:=jba ho;simp only[Rw.z,hzl]at hp hf;have e0:0+i.toNat*1=i.toNat:=by omega
   rw[e0];apply cond_intro<;>intro h
   ·have h:=jab h;obtain⟨a1,a3⟩:=hr.at hp.1 (by omega);rw[a3,gsGo]at hf;rw[a3,cN]at hp;have hc:=jmo ((zc d k2).drop (i+1).toNat);rw[a1,w64 (n:=i+1) (by omega),w64 (n:=aa+1) (by omega)];generalize jau d i.toNat=r at*;refine c_t (jaa (by omega)) (c_t rfl (cond_intro (fun q=> ?_) (fun q=> ?_)))
    ·rw[q,cond_true]at hf hp;refine c_t (by rw[hr.good,ho.good];rfl) ?_;rw[hr.rlb,ho.rlb];exact⟨(t,r4,.own od om oc,aa,k2,cap2,L,i+1,d),rfl,rfl,by simp only[S67_0,jaf,jae];exact⟨jat.2 ho,hR,by simp only[Rw.z,hzl];omega⟩,by simp only;omega,hf⟩
    ·rw[q,cond_false]at hf hp;obtain⟨p1,p2,p3,p4,p5,p6,p7,p8⟩:=hp;rw[jb7 p5 (by omega),List.headD_cons,List.tail_cons]at hf;have hB:=jfs t aa.toNat;generalize jaj t aa.toNat=c at*;have hu:0≤unD c∧unD c≤9:=by unfold unD;split<;>omega
     rw[w8 (n:=unD c) (by omega),w8 (n:=48+unD c) (by omega)];refine c_t (jaa (by omega)) (c_t (by simp) (cond_intro (fun q2=> ?_) (fun q2=>c_t (by simp) (cond_intro (fun q3=> ?_) (fun q3=>cond_intro (fun q4=> ?_) (fun q4=> ?_))))))
     ·rw[q2,cond_true]at hf;refine c_t (by rw[hr.good,ho.good];rfl) ?_;rw[hr.rlb,ho.rlb];exact⟨(t,r4,.own od om oc,aa+1,k2,cap2,L,i+1,d),rfl,rfl,by simp only[S67_0,jaf,jae];exact⟨jat.2 ho,hR,by simp only[Rw.z,hzl];omega⟩,by simp only;omega,hf⟩
     ·rw[q2,cond_false]at hf;refine c_t (ho.ask (k:=1) (by omega)) (fun cap1 tail ht=> ?_);obtain⟨h1,h2⟩:=ho.app1 (c) ht;have hl1:=jba h1;generalize List.take (om*1) od++ [Value.int IntKind.u8 (c)]++tail=od' at*
      have e:48+rdD c=c:=by
       have q:=q3;simp only[jaf,jae]at q;unfold rdD;rw[unK_dig q.1 q.2,q3];simp only[cond_true,cond_false];omega
      rw[e]at hf;refine c_t (by rw[hr.good,h1.good];rfl) ?_;rw[hr.rlb,h1.rlb];exact⟨(t,r4,.own od' (om+1) cap1,aa+1,k2,cap2,L,i+1,d),rfl,rfl,by simp only[S67_0,jaf,jae];exact⟨jat.2 h1,hR,by simp only[Rw.z,hl1];omega⟩,by simp only;omega,⟨fun q=>(by cases q),fun a' i' od'' om'' oc'' g1 g2=>hf.2 a' i' od'' om'' oc'' g1 (by rw[g2];simp only[Rw.z,h2,List.append_assoc,List.cons_append,List.nil_append])⟩⟩
     ·rw[q2,cond_false]at hf;refine c_t (ho.ask (k:=1) (by omega)) (fun cap1 tail ht=> ?_);obtain⟨h1,h2⟩:=ho.app1 (48+unD c) ht;have hl1:=jba h1;generalize List.take (om*1) od++ [Value.int IntKind.u8 (48+unD c)]++tail=od' at*
      have e:48+rdD c=48+unD c:=by
       unfold rdD;rw[q4];rfl
      rw[e]at hf;refine c_t (by rw[hr.good,h1.good];rfl) ?_;rw[hr.rlb,h1.rlb];exact⟨(t,r4,.own od' (om+1) cap1,aa+1,k2,cap2,L,i+1,d),rfl,rfl,by simp only[S67_0,jaf,jae];exact⟨jat.2 h1,hR,by simp only[Rw.z,hl1];omega⟩,by simp only;omega,⟨fun q=>(by cases q),fun a' i' od'' om'' oc'' g1 g2=>hf.2 a' i' od'' om'' oc'' g1 (by rw[g2];simp only[Rw.z,h2,List.append_assoc,List.cons_append,List.nil_append])⟩⟩
     ·rw[q2,cond_false]at hf;refine c_t (ho.ask (k:=1) (by omega)) (fun cap1 tail ht=> ?_);obtain⟨h1,h2⟩:=ho.app1 (48) ht;have hl1:=jba h1;generalize List.take (om*1) od++ [Value.int IntKind.u8 (48)]++tail=od' at*
      have e:48+rdD c=48:=by
       unfold rdD;rw[q4,q3];rfl
      rw[e]at hf;refine c_t (by rw[hr.good,h1.good];rfl) ?_;rw[hr.rlb,h1.rlb];exact⟨(t,r4,.own od' (om+1) cap1,aa+1,k2,cap2,L,i+1,d),rfl,rfl,by simp only[S67_0,jaf,jae];exact⟨jat.2 h1,hR,by simp only[Rw.z,hl1];omega⟩,by simp only;omega,⟨fun q=>(by cases q),fun a' i' od'' om'' oc'' g1 g2=>hf.2 a' i' od'' om'' oc'' g1 (by rw[g2];simp only[Rw.z,h2,List.append_assoc,List.cons_append,List.nil_append])⟩⟩
   ·have h:=jac h;rw[hr.end (by omega),gsGo]at hf;refine c_t (by rw[hr.good,ho.good];rfl) ?_;rw[hr.rlb,ho.rlb];exact hf.2 aa i od om oc (jat.2 ho) (by simp)
theorem v67(s:Y)(nb:Bool)(w:Int)(dg:Int)(sc:Int)(sg:Bool)(k:Nat)(cap:Nat)(dr:Int)(f:Int)(cr:Bool)(fl:Int)(fm:Int)(t:Y)(d:E)(R:Value→Prop):(ja1 Tryz.prog G37 (oneL 0 S67_0.hA) Tryz.f205 [.pointer (some ⟨0,0,some 0⟩),S t] (vwF2 (fmL s nb w dg sc sg 1 k cap dr f cr fl fm) d) 2 (fun v _ _=>R v))=(bif jf [] d 210 then j9 (S67_0.toLSpec.pre (t,(a8,(Rw.nil,((0:Int),(k,(cap,(natO k,((0:Int),rlbL [] d))))))))) (Rw.is Rw.nil=false→gsGo (gv 0 [] d k) (bq t 0)=([]:J)→Int→Int→jj (gm (rlbL [] d) 210) (S ByteArray.empty) R) (Int→Int→(∀a:E,∀b:Nat,∀c:Nat,lx (gm a 210) (Rw.z Rw.nil) (gsGo (gv 0 [] d k) (bq t 0)) a (rlbL [] d) b c 210 R))else False):=by kernel_rfl
theorem fn67:Fn1 Tryz.prog 205 Tryz.f205:= .m Tryz.func205
theorem w_67(s:Y)(nb:Bool)(w:Int)(dg:Int)(sc:Int)(sg:Bool)(k:Nat)(cap:Nat)(dr:Int)(f:Int)(cr:Bool)(fl:Int)(fm:Int)(t:Y)(d:E)(hR:jbu d k cap=true)(hk:k≤1000)(hc:cN (zc d k)≤t.size)
  {R:Value→Prop} (hV:R (.string (sz (gsGo (zc d k) (bz t))))):
  jeb Tryz.prog G37 (oneL 0 S67_0.hA) Tryz.f205 [.pointer (some ⟨0,0,some 0⟩),.string t] (vwF2 (fmL s nb w dg sc sg 1 k cap dr f cr fl fm) d) 2 (fun v _ _=>R v):=by
 rw[jeb,v67];delta j9 cu lx bq gv gm jj a8 jf;have h:=jaw.1 hR;have z0:Int.toNat 0=0:=rfl;have hg:(jav [] d&&true&&true&& (ja0 210 d&&true))=true:=by rw[h.good];simp[ja0,idsL,jaq h.plain]
 have hg':(jav [] d&&true&& (ja0 210 d&&true))=true:=by rw[h.good];simp[ja0,idsL,jaq h.plain]
 have hi:(ja0 210 d&&true)=true:=by simp[ja0,idsL,jaq h.plain]
 simp only[h.rlb,z0,List.drop_zero];refine c_t (by first | exact hg | exact hg') (c_t ?_ ⟨fun _ hn a' i'=>c_t hi fun _=> ?_,fun a' i' od om oc g1 g2=> ?_⟩)
 ·show(Rw.nil.ok&& (jbu d k cap&&decide ((0:Int)≤0∧(0:Int)≤k∧k≤1000∧natO k=k∧(0:Int)≤0∧(0:Int)≤0∧0+cN ((zc d k).drop (Int.toNat 0))≤t.size∧((Rw.nil.z.length:Nat):Int)≤0)))=true;rw[hR,jb6,z0,List.drop_zero];simp only[Bool.true_and,Rw.ok,Rw.z,List.length_nil,jae];exact⟨by omega,by omega,by omega,trivial,by omega,by omega,by omega,by omega⟩
 ·rw[hn]at hV;exact hV
 ·have ho:=jat.1 g1;have hio:(ja0 210 d&& (ja0 210 od&&true))=true:=by simp[ja0,idsL,jaq h.plain,jaq ho.plain]
  have s3:=ho.str;have g3:zc od om=gsGo (zc d k) (bz t):=by rw[g2];rfl
  rw[g3]at s3;exact c_t hio fun _=>c_t s3.1 (by rw[s3.2];exact hV)
def h67:E→Lk→Nat→(Value→Lk→Nat→Prop)→Prop:=fun args m n K=>match args with
 | [.pointer (some ⟨a,0,some 0⟩),.string t]=>match m a with
  | some ⟨[.string s,.bool nb,.int .i64 w,.int .i64 dg,.int .i64 sc,.bool sg,.slice (some ⟨y,0,some 1⟩) k cap,.int .u8 dr,.int .i64 f,.bool cr,.int .u8 fl,.int .i64 fm],156,own⟩=>match m y with
   | some ⟨d,251,own2⟩=>match cnd (jbu d k cap&&decide (k≤1000∧cN (zc d k)≤t.size))with
    | true=>∀e:Y,sz (gsGo (zc d k) (bz t))=e→K (.string e) m n
    | false=>False
   | _=>False
  | _=>False
 | _=>False
theorem h67_ok:jc7 Tryz.prog 205 h67:=by
 refine jh1 ok_G37 hmix fn67 l67_0 fun args m n K h=> ?_
 unfold h67 at h;split at h
 case h_2=>exact h.elim
 rename_i a t;split at h
 case h_2=>exact h.elim
 rename_i s nb w dg sc sg y k cap dr f cr fl fm own hm;split at h
 case h_2=>exact h.elim
 rename_i d own2 hy;split at h
 case h_2=>exact h.elim
 rename_i hc;simp only[cnd,jaf,jae]at hc;obtain⟨h1,h2,h3⟩:=hc
 refine⟨[.pointer (some ⟨0,0,some 0⟩),.string t],_,2,rho2 a y,.string (sz (gsGo (zc d k) (bz t))),sub_F2 (jaw.1 h1).plain hm hy,fun ι=>by simp[ren,ren1,rho2],jag,fun v hv j hj=> ?_,rfl,
  w_67 s nb w dg sc sg k cap dr f cr fl fm t d h1 h2 h3 (R:=fun v=>v= .string (sz (gsGo (zc d k) (bz t)))) rfl,h _ rfl⟩
 simp at hv;rcases hv with rfl | rfl
 ·have:j=0:=by simpa[ids]using hj
  omega
 ·simp[ids]at hj
def V71_0:Y×Bool×E×Nat×Nat×Int×Int→E:=fun(s,r,d,m,cap,L,i)=> [S s,B r,.slice (some ⟨300,0,some 1⟩) m cap,I L,I i]
def B71_0:Y×Bool×E×Nat×Nat×Int×Int→O:=fun(s,r,d,m,cap,L,i)=> [some ⟨d,5,false⟩]
def S71_0:LSpecA (Y×Bool×E×Nat×Nat×Int×Int) where
 live:=[0,4,15,16,17]
 mid:=[300]
 n:=310
 ap:=[(.tmp 15,300)]
 dec vs bs:=match vs,bs with | [.string s,.bool r,.slice (some ⟨300,0,some 1⟩) m cap,.int .i64 L,.int .i64 i],[some ⟨d,5,false⟩]=>some (s,r,d,m,cap,L,i) | _,_=>none
 pre:=fun(s,r,d,m,cap,L,i)=>vwOK d m&& ((bz s).all (hasZ [65,88,57]) &&decide (0≤i∧i≤m∧L=m∧s.size=m∧m≤1000))
 fin:=fun(s,r,d,m,cap,L,i) Z=>(bif onGo ((bz s).drop i.toNat) ((zc d m).drop i.toNat)then∀i',Z (.exit 0) [S s,B r,.slice (some ⟨300,0,some 1⟩) m cap,I L,I i'] [some ⟨d,5,false⟩]else∀i',Z .ret [S s,B false,.slice (some ⟨300,0,some 1⟩) m cap,I L,I i'] [some ⟨d,5,false⟩])
def rf(d e:Bool)(a:Y)(b:Int)(c:E):Bool:=bif au a b 65 then bk (!(bif decide (fy b c≥65)then decide (fy b c≤90) || fq (fy b c) 97 122 else fq (fy b c) 97 122)) (fy b c !=32 || d&&e) (d&&e)else d&&e
theorem r71_0(s:Y)(r:Bool)(d:E)(m:Nat)(cap:Nat)(L:Int)(i:Int)(jk:Tmps)(R:Exit→E→O→Prop):(jbv Tryz.prog G37 noL Tryz.f147.ntmps (ja9 Tryz.f147 0) (tl S71_0.live (V71_0 (s,r,d,m,cap,L,i)) jk) (ml S71_0.mid (B71_0 (s,r,d,m,cap,L,i))) S71_0.n fun e t' m' _=>S71_0.out R e t' m')=(d5 (b7 i L) (cl i (m:Int)) (f9 d 300 300) (bif jby .u8 d (dp i)then az (decide (fy i d≥48)) true (bk (decide (fy i d≥65)) (decide (fy i d≤90) || jc (fy i d) 97) (jc (fy i d) 97)) (bif bp s i&&rf (bp s i) (bk (au s i 57) (!fq (fy i d) 48 57 || true) true) s i d then lp (rf (au s i 57) (!fq (fy i d) 48 57&&fy i d !=32) s i d) (f9 d 300 300) R [] (bw L i) (bv L i) (kc [] d 300) (S s) (B false) (a9 300 m cap) (S s) (B r) (a9 300 m cap)else False) False else False) False (R (.exit 0) (ax s (fp L i 300 m cap) (B r)) [kc [] d 300])):=by kernel_rfl
theorem l71_0:LOKf Tryz.prog (oneL 0 S71_0.hA) Tryz.f147:=by
 refine jbo (h:=S71_0.hA) (by kernel_rfl) (jbr ok_G37 hmix (by kernel_rfl) (ja7 _) S71_0 V71_0 B71_0 (fun(s,r,d,m,cap,L,i)=>(m-i).toNat) ?_ ?_ ?_)
 ·intro vs bs s h;simp only[S71_0]at h;split at h
  all_goals first | (cases h;exact⟨rfl,rfl⟩) | cases h | (split at h<;>first | (rename_i hq;cases h;have hq:=jah hq;subst hq;exact⟨rfl,rfl⟩) | cases h)
 ·exact fun⟨s,r,d,m,cap,L,i⟩ hp=>by
   simp only[S71_0,jaf]at hp;have hv:=jcx.1 hp.1;simp[V71_0,B71_0,S71_0,ja0,jbz,idsL,ids,jaq hv.plain]
 ·intro⟨s,r,d,m,cap,L,i⟩ jk Z hp hf;rw[r71_0];delta cq ar d5 kc ax ak bw dv a9 fp az b9 lp aw ay bv f9 bk dp fy fq au rf aq bp jc cl b7;simp only[S71_0]at hp hf;simp only[jaf,jae]at hp;obtain⟨hV,hA,hp⟩:=hp;have hv:=jcx.1 hV;have e0:0+i.toNat*1=i.toNat:=by omega
  rw[e0];simp only[hv.rlb];have hg:∀ps,(jav ps d&&true&&true)=true:=fun ps=>by rw[goodL_plain hv.plain];rfl
  apply cond_intro<;>intro h
  ·have h:=jab h;obtain⟨a1,a2,a3⟩:=hv.at hp.1 (by omega)
   have hcb:jaj s i.toNat=65∨jaj s i.toNat=88∨jaj s i.toNat=57:=by
    have hm:jaj s i.toNat∈bz s:=List.drop_subset i.toNat (bz s) (by rw[jb7 hp.1 (by omega)];exact List.mem_cons_self);have:=List.all_eq_true.1 hA _ hm;have:=ja8.1 this;simp only[List.mem_cons,List.not_mem_nil,or_false]at this;omega
   rw[jb7 hp.1 (by omega),a3,onGo]at hf;rw[a1,w64 (n:=i+1) (by omega),jaa (show 0≤i∧i<(m:Int)by omega),jaa (show 0≤i∧i<(s.size:Int)by omega)];generalize jau d i.toNat=b at*;generalize jaj s i.toNat=c at*
   have el:(bif decide (b≥65)then decide (b≤90) || decide (b≥97) &&decide (b≤122)else decide (b≥97) &&decide (b≤122))=letZ b:=by
    unfold letZ;rw[Bool.eq_iff_iff];by_cases h1:b≥65<;>simp[h1] <;>omega
   have ed:(decide (b≥48) &&decide (b≤57))=je3 b:=by
    rw[Bool.eq_iff_iff];simp[je3]
   rw[el,ed]
   have key:(bif c==65 then bif !letZ b then b !=32 || c==57&& (!je3 b&&b !=32)else c==57&& (!je3 b&&b !=32)else c==57&& (!je3 b&&b !=32))= !oneZ c b:=by
    unfold oneZ;rcases hcb with rfl | rfl | rfl<;>by_cases h2:b=32<;>simp[h2] <;>cases letZ b<;>cases je3 b<;>simp
   rw[key];refine c_t rfl (c_t rfl (c_t (by simp) (c_t (by cases decide (b≥65) <;>simp) (c_t (by cases c==65<;>cases !letZ b<;>cases c==57<;>simp) (cond_intro (fun q=>c_t (hg _) ?_) (fun q=>c_t (hg _) ?_))))))
   ·have q:oneZ c b=false:=by simpa using q
    rw[q,Bool.false_and,cond_false]at hf;exact hf i
   ·have q:oneZ c b=true:=by simpa using q
    rw[q,Bool.true_and]at hf;exact⟨(s,r,d,m,cap,L,i+1),rfl,rfl,by simp only[S71_0,jaf,jae];exact⟨hV,hA,by omega⟩,by simp only;omega,hf⟩
  ·have h:=jac h;have hz:(bz s).drop i.toNat=[]:=List.drop_eq_nil_of_le (by rw[jap];omega);rw[hv.end (by omega),hz]at hf;exact c_t (hg _) (hf i)
def s71(s:Y)(t:Y):Bool×Value:=((bz s).all (hasZ [65,88,57]) &&decide (s.size≤1000∧t.size≤9223372036854775807),.bool (decide ((t.size:Int)=s.size) &&onGo (bz s) (bz t)))
theorem fn71:Fn1 Tryz.prog 147 Tryz.f147:= .m Tryz.func147
theorem v71(s:Y)(t:Y)(R:Value→Prop):ja1 Tryz.prog G37 (oneL 0 S71_0.hA) Tryz.f147 [Enc.enc s,Enc.enc t] (fun _=>none) 0 (fun v _ _=>R v)=(bif aq t !=aq s then fk R else∀a:Nat,ol (S71_0.toLSpec.pre (s,(false,(je t 7 300,(t.size,(a,(natO t.size,(0:Int)))))))) (onGo (bq s 0) (kt t 7 300)) t a 7 300 310 (Int→jj (gm (je t 7 300) 310) (B true) R) (jj (gm (je t 7 300) 310) (B false) R)):=by kernel_rfl
theorem ok71:jao Tryz.prog 147 (sp2 s71):=by
 refine jct ok_G37 hmix fn71 l71_0 jag fun s t hc=> ?_
 rw[ja2,v71];delta gm jf jh ol jj je gv kt bq fk aq
 try dsimp only[s71]
 obtain⟨hA,hc⟩:=Bool.and_eq_true_iff.1 hc;have hc:=jab hc;obtain⟨hv,hz⟩:=jk5 t;have hV:=jcx.2 hv;refine cond_intro (fun h=> ?_) (fun h=>fun cap _=> ?_)
 ·have h:¬(t.size:Int)=s.size:=by simpa using h
  rw[jad h];rfl
 ·have h:(t.size:Int)=s.size:=by simpa using h
  have hg:(jav [(7,300)] (Lib.strCells t) &&true&&true&& (ja0 310 (Lib.strCells t) &&true))=true:=by rw[goodL_plain hv.plain];simp[ja0,idsL,jaq hv.plain]
  have hi:(ja0 310 (Lib.strCells t) &&true)=true:=by simp[ja0,idsL,jaq hv.plain]
  have z0:Int.toNat 0=0:=rfl;simp only[hv.rlb,z0,List.drop_zero,hz];refine c_t hg (c_t ?_ ?_)
  ·show(vwOK (Lib.strCells t) t.size&& ((bz s).all (hasZ [65,88,57]) &&decide ((0:Int)≤0∧(0:Int)≤t.size∧natO t.size=t.size∧s.size=t.size∧t.size≤1000)))=true;rw[hV,hA,jb6];simp only[Bool.true_and,jae];exact⟨by omega,by omega,trivial,by omega,by omega⟩
  ·rw[jaa h,Bool.true_and];refine cond_intro (fun q _=>c_t hi fun _=>by rw[q]) (fun q _=>c_t hi fun _=>by rw[q])
end Go.Px
end
noncomputable section
namespace Go.Px
open Go Go.Ab Go.Proofs Go.Shelf
theorem dec_from:∀(l:Yb)(a:Nat),dgL (zl l)=true→Lib.decFrom a l=some (numZ (zl l) a).toNat∧0≤numZ (zl l) a
 | [],a,_=>⟨rfl,Int.natCast_nonneg a⟩
 | b::r,a,h=>by
  have h:dgL ((b.toNat:Int)::zl r)=true:=h
  have h1:48≤b.toNat∧b.toNat≤57:=by
   simp only[dgL,List.all_cons,jaf,jae]at h;omega
  have h2:dgL (zl r)=true:=by
   simp only[dgL,List.all_cons,jaf]at h;exact h.2
  obtain⟨e1,e2⟩:=dec_from r (a*10+(b.toNat-48)) h2;have e:((a*10+(b.toNat-48):Nat):Int)=(a:Int)*10+((b.toNat:Int)-48):=by omega
  rw[e]at e1 e2;have hd:Lib.digitVal b=some (b.toNat-48):=by rw[Lib.digitVal,if_pos h1]
  refine⟨?_,e2⟩;rw[Lib.decFrom,hd];exact e1
theorem atoi_dig{s:Y}(h0:1≤s.size)(h:dgL (bz s)=true):Lib.atoi s.data.toList=some (dval (bz s)):=by
 have hb:bz s=zl s.data.toList:=rfl;have hl:s.data.toList.length=s.size:=rfl;rw[hb]at h ⊢;generalize s.data.toList=l at*;cases l with
 | nil=>simp at hl;omega
 | cons b r=>
  have h1:48≤b.toNat∧b.toNat≤57:=by
   have h:dgL ((b.toNat:Int)::zl r)=true:=h;simp only[dgL,List.all_cons,jaf,jae]at h;omega
  have n45:(b==45)=false:=by
   cases q:b==45 with
   | false=>rfl
   | true=>have:=eq_of_beq q;rw[this]at h1;revert h1;decide
  have n43:(b==43)=false:=by
   cases q:b==43 with
   | false=>rfl
   | true=>have:=eq_of_beq q;rw[this]at h1;revert h1;decide
  obtain⟨e1,e2⟩:=dec_from (b::r) 0 h;rw[Lib.atoi,n45,n43];show(Lib.decNat (b::r)).map (fun m:Nat=>(m:Int))=_;have:Lib.decNat (b::r)=Lib.decFrom 0 (b::r):=rfl;rw[this,e1,Option.map_some,dval];congr 1;exact Int.toNat_of_nonneg e2
def s68(s:Y):Bool×Value:=(decide (1≤s.size∧s.size≤18) &&dgL (bz s),.tuple ⟨[.int .i64 (dval (bz s)),.nilIface]⟩)
theorem ok68:jao Tryz.prog 206 (sp1 s68):=shelf1 c68 fun s hc w _=>by
 simp only[s68,jaf,jae]at hc;refine(Any.strconv_Atoi (ρ:=Tryz.lays172_ren) Tryz.lays172 s (dval (bz s)) hc.1.2 (atoi_dig hc.1.1 hc.2) w).mono fun e w' ⟨h1,t,h2⟩=>⟨h1,?_⟩
 subst h2;exact Lib.bytesWorld_below _ _ _
theorem jh0:∀(ro cs:J)(a:Int),okR ro→((gsGo ro cs).length:Int)=cdg ro∧dgL (gsGo ro cs)=true∧numZ (gsGo ro cs) a=rdGo (ro.map rmk) cs a
 | [],_,_,_=>⟨rfl,rfl,rfl⟩
 | r::rs,cs,a,hok=>by
  have hok':okR rs:=fun x hx=>hok x (List.mem_cons_of_mem _ hx)
  rw[gsGo,cdg,List.map_cons,rdGo];have hr:=jl2 (cs.headD 0)
  have dig:∀l,dgL l=true→dgL ((48+rdD (cs.headD 0))::l)=true:=fun l h=>by
   simp only[dgL,List.all_cons,jaf,jae]at h ⊢;exact⟨by omega,h⟩
  have e:a*10+(48+rdD (cs.headD 0)-48)=a*10+rdD (cs.headD 0):=by omega
  rcases jc8 (hok r List.mem_cons_self)with rfl | rfl | rfl | rfl | rfl | rfl
  ·obtain⟨h1,h2,h3⟩:=jh0 rs cs.tail (a*10+rdD (cs.headD 0)) hok';refine⟨?_,dig _ h2,?_⟩
   ·show(((_::gsGo rs cs.tail).length:Nat):Int)=1+cdg rs;rw[List.length_cons];omega
   ·show numZ (_::gsGo rs cs.tail) a=rdGo (rs.map rmk) cs.tail (a*10+rdD (cs.headD 0));rw[numZ,e];exact h3
  ·obtain⟨h1,h2,h3⟩:=jh0 rs cs.tail (a*10+rdD (cs.headD 0)) hok';refine⟨?_,dig _ h2,?_⟩
   ·show(((_::gsGo rs cs.tail).length:Nat):Int)=1+cdg rs;rw[List.length_cons];omega
   ·show numZ (_::gsGo rs cs.tail) a=rdGo (rs.map rmk) cs.tail (a*10+rdD (cs.headD 0));rw[numZ,e];exact h3
  ·obtain⟨h1,h2,h3⟩:=jh0 rs cs a hok';exact⟨by simpa using h1,h2,h3⟩
  ·obtain⟨h1,h2,h3⟩:=jh0 rs cs.tail a hok';exact⟨by simpa using h1,h2,h3⟩
  ·obtain⟨h1,h2,h3⟩:=jh0 rs cs.tail a hok';exact⟨by simpa using h1,h2,h3⟩
  ·obtain⟨h1,h2,h3⟩:=jh0 rs cs.tail a hok';exact⟨by simpa using h1,h2,h3⟩
end Go.Px
end
noncomputable section
set_option maxHeartbeats 3200000
namespace Go.Px
open Go Go.Ab Go.Proofs Go.Shelf
def G38:Env:=(((Env.nil.addG 136 h62).addG 207 h64).addG 205 h67).add 206 (sp1 s68)
theorem ok_G38:jax Tryz.prog G38:=jak (jam (jam (jam jan jmd) jmc) h67_ok) ok68
theorem cN_nv:∀(rs:J),okR rs→cN rs=nv (rs.map rmk)
 | [],_=>rfl
 | r::rs,hok=>by
  have hok':okR rs:=fun x hx=>hok x (List.mem_cons_of_mem _ hx)
  have ih:=cN_nv rs hok';rw[cN,List.map_cons,jet];rcases jc8 (hok r List.mem_cons_self)with rfl | rfl | rfl | rfl | rfl | rfl<;>simp[rmk] <;>omega
theorem gs_use{s t:Y}(h:pN (bz s)=true):digZ (rdA (bz s) (bz t)) (pD (bz s)).toNat=gsGo (rolF (pS (bz s))) (bz t)∧0≤rdA (bz s) (bz t)∧rdA (bz s) (bz t)<tenZ (pD (bz s)).toNat∧dval (gsGo (rolF (pS (bz s))) (bz t))=rdA (bz s) (bz t)∧cN (rolF (pS (bz s)))=pW (bz s):=by
 have hl:=jdv s;obtain⟨f1,f2,f3,_⟩:=jhr hl h;obtain⟨g1,g2,g3⟩:=jh0 (rolF (pS (bz s))) (bz t) 0 f1;have hp:=jd5 h;have hv:dval (gsGo (rolF (pS (bz s))) (bz t))=rdA (bz s) (bz t):=by rw[dval,g3,f2,rdA]
 have hlen:(gsGo (rolF (pS (bz s))) (bz t)).length=(pD (bz s)).toNat:=by omega
 have hr:=jdq _ g2;rw[hv,hlen]at hr;refine⟨by rw[←hv];exact jia _ _ hlen g2,hr.1,hr.2,hv,by rw[cN_nv _ f1,f2,jm1 h]⟩
def s22(s:Y)(t:Y):Bool×Value:=(decide (s.size≤9223372036854775807∧t.size≤9223372036854775807),.tuple ⟨[.int .i64 (rdV (bz s) (bz t)).1,.int .i64 (rdV (bz s) (bz t)).2]⟩)
theorem fn22:Fn1 Tryz.prog 146 Tryz.f146:= .m Tryz.func146
theorem v22(s:Y)(t:Y)(R:Value→Prop):ja1 Tryz.prog G38 noL Tryz.f146 [Enc.enc s,Enc.enc t] (fun _=>none) 0 (fun v _ _=>R v)=(du (pN (bz s)) s (∀a:Nat,∀b:Nat,∀c:E,jbu c a b=true→zc c a=rolF (pS (bz s))→(bif aq t !=pW (bz s)then R (al (d7 0 31))else bif jbu c a b&&decide (a≤1000∧cN (zc c a)≤aq t)then∀d:Y,sz (gsGo (zc c a) (bz t))=d→(bif iy d 1 d.size 18&&dgL (bz d)then pb d s c a b (∀e:Y,∀f:Int,sz (mf false s d c a).fst=e→(mf false s d c a).snd=f→(bif d4 e t then R (al [I (dval (bz d)),ak 0])else bif pf d s c a b then∀g:Y,∀h:Int,sz (mf true s d c a).fst=g→(mf true s d c a).snd=h→gu (d4 g t) (pG (bz s) || true) true (d4 g t&& (pG (bz s) &&decide (dval (bz d)>0))) (R (al [I (b8 0 (dval (bz d))),ak 0])) (R (al (d7 0 31)))else False))else False)else False)) (R (al (d7 0 30)))):=by kernel_rfl
theorem ok22:jao Tryz.prog 146 (sp2 s22):=by
 refine jct ok_G38 hmix fn22 jai jag fun s t hc=> ?_
 rw[ja2,v22];delta ar cm du al ak d7 aq gp pf pb gu b8 d4 mf iy;have hc:(s.size≤9223372036854775807∧t.size≤9223372036854775807):=jab hc
 try dsimp only[s22]
 refine c_t (jaa hc.1) (cond_intro (fun h=> ?_) (fun h=> ?_))
 ·intro k cap d hR hz;obtain⟨u1,u2,u3,u4,u5⟩:=gs_use (t:=t) h;have hl:=jdv s;have hr:=jaw.1 hR;have hk:k=(pS (bz s)).length:=by rw[←rol_len h,←hz,jbj hr]
  have hp:=jd5 h;have bl:((bz t).length:Int)=t.size:=by rw[jap]
  apply cond_intro<;>intro hw
  ·have hw:¬(t.size:Int)=pW (bz s):=by simpa using hw
   rw[rdV,if_pos h,bl,if_neg hw]
  ·have hw:(t.size:Int)=pW (bz s):=by simpa using hw
   refine c_t (by rw[hR,hz,u5];simp only[Bool.true_and,jae];omega) fun e he=> ?_
   rw[hz,←u1]at he;have hdd:=jdc (pD (bz s)).toNat (rdA (bz s) (bz t));have be:bz e=digZ (rdA (bz s) (bz t)) (pD (bz s)).toNat:=by rw[←he,jdd (jg1 hdd)]
   have ze:e.size=(pD (bz s)).toNat:=by rw[←jap,be,jcm]
   have hv:dval (bz e)=rdA (bz s) (bz t):=by rw[be,u1,u4]
   rw[hv,rdV,if_pos h,bl,if_pos hw];generalize rdA (bz s) (bz t)=m at*;have hm:((m.natAbs:Nat):Int)=m:=by omega
   have hm':(((0-m).natAbs:Nat):Int)=m:=by omega
   obtain⟨g1,g2⟩:=jk4 h hR hz (m:=m) (by omega);obtain⟨k1,k2⟩:=jk4 h hR hz (m:=0-m) (by omega);rw[hm,he]at g1 g2;rw[hm',he]at k2;have d0:decide (m<0)=false:=jad (by omega);rw[d0]at g2;have ht:tenZ (pD (bz s)).toNat≤1000000000:=jit (by omega)
   have hF:∀(a:Y)(n:Int),sz (jdk (pS (bz s)) (pW (bz s)) (pD (bz s)).toNat n)=a→(a.toList==t.toList)=decide (fdN (bz s) n=bz t):=fun a n e=>by
    rw[jcd,←e,jdd (jh3 hl.1 _ _ _)];rfl
   refine c_t (by rw[be,hdd,ze,Bool.and_true,jae];omega) (c_t g1 fun a1 l1 q1 q2=>cond_intro (fun p=> ?_) (fun p=>c_t g1 fun a2 l2 q3 q4=> ?_))
   ·rw[hF _ _ (by rw[←q1,g2])]at p;rw[if_pos (jab p)]
   ·rw[hF _ _ (by rw[←q1,g2])]at p;have p:=jac p;rw[if_neg p];refine c_t (by cases ByteArray.toList a2==ByteArray.toList t<;>simp) ?_;by_cases m0:m>0
    ·have d1:decide (0-m<0)=true:=jaa (by omega);rw[d1]at k2;rw[hF _ _ (by rw[←q3,k2]),w64 (n:=0-m) (by omega)];by_cases r1:fdN (bz s) (0-m)=bz t
     ·cases hG:pG (bz s)with
      | true=>
       have:(decide (fdN (bz s) (0-m)=bz t) && (true&&decide (m>0)))=true:=by rw[jaa r1,jaa m0];rfl
       rw[this,if_pos ⟨rfl,m0,r1⟩];rfl
      | false=>
       rw[Bool.false_and,Bool.and_false,if_neg (fun q=>by cases q.1)];rfl
     ·rw[jad r1,Bool.false_and,if_neg (fun q=>r1 q.2.2)];rfl
    ·rw[jad m0,Bool.and_false,Bool.and_false,if_neg (fun q=>m0 q.2.1)];rfl
 ·have h1:¬pN (bz s)=true:=by rw[h];simp
  rw[rdV,if_neg h1]
def G39:Env:=((((Env.nil.add 30 (sp2 s78)).addG 145 h70).addG 207 h64).add 147 (sp2 s71)).add 146 (sp2 s22)
theorem ok_G39:jax Tryz.prog G39:=jak (jak (jam (jam (jak jan ok78) jmb) jmc) ok71) ok22
theorem ch_all{l:J}(h:vOK l=true)(hn:pN l=false):(pS l).all (hasZ [65,88,57])=true:=by
 have hc:jez (exZ l)=true:=by
  simp only[vOK,jaf,Bool.or_eq_true]at h;simp only[pN]at hn;rcases h.2 with q | q
  ·exact q
  ·rw[h.1,q]at hn;cases hn
 rw[pS,if_pos h];simp only[jez,jaf]at hc;exact hc.1
theorem digZ_0{k:Nat}:digZ (((0:Int).natAbs:Nat):Int) k=rep1 48 k:=(jk9 (jcm _ _)).2 ((jjm (n:=0) (by have:=jcs k;omega)).2 rfl)
def s24(s:Y)(t:Y):Bool×Value:=(decide (s.size≤9223372036854775807∧t.size≤9223372036854775807),.bool (hoZ (bz s) (bz t)))
theorem fn24:Fn1 Tryz.prog 72 Tryz.f72:= .m Tryz.func72
theorem v24(s:Y)(t:Y)(R:Value→Prop):ja1 Tryz.prog G39 noL Tryz.f72 [Enc.enc s,Enc.enc t] (fun _=>none) 0 (fun v _ _=>R v)=(du (vOK (bz s)) s (bif pN (bz s)then∀a:Nat,∀b:Nat,∀c:E,jbu c a b=true→zc c a=rolF (pS (bz s))→cu (kr t s) (B ((rdV (bz s) (bz t)).snd==0)) R else cu ((bz (gp s)).all (hasZ [65,88,57]) &&iy t (gp s).size 1000 9223372036854775807) (B (decide (aq t=ep (gp s)) &&onGo (bz (gp s)) (bz t))) R) (fk R)):=by kernel_rfl
theorem ok24:jao Tryz.prog 72 (sp2 s24):=by
 refine jct ok_G39 hmix fn24 jai jag fun s t hc=> ?_
 rw[ja2,v24];delta ar cm du fk cu gp ep aq iy kr;have hc:(s.size≤9223372036854775807∧t.size≤9223372036854775807):=jab hc
 try dsimp only[s24]
 refine c_t (jaa hc.1) (cond_intro (fun h=>cond_intro (fun hn=> ?_) (fun hn=> ?_)) (fun h=> ?_))
 ·intro k cap d _ _;refine c_t (jaa hc) ?_;rw[hoZ,if_pos h,if_pos hn];rfl
 ·have hl:=jdv s;have b1:bz (sz (pS (bz s)))=pS (bz s):=jdd hl.1;have z1:(sz (pS (bz s))).size=(pS (bz s)).length:=by rw[←jap,b1]
  have hn':¬pN (bz s)=true:=by rw[hn];simp
  rw[b1,z1,ch_all h hn];refine c_t (by simp only[Bool.true_and,jae];omega) ?_;rw[hoZ,if_pos h,if_neg hn',pCh h hn,jap]
 ·have h1:¬vOK (bz s)=true:=by rw[h];simp
  rw[hoZ,if_neg h1]
def s54(s:Y):Bool×Value:=(decide (s.size≤9223372036854775807),.tuple ⟨[.string (sz (zeS (bz s))),.int .i64 (pE (bz s))]⟩)
theorem fn54:Fn1 Tryz.prog 176 Tryz.f176:= .m Tryz.func176
theorem v54(s:Y)(R:Value→Prop):ja1 Tryz.prog G39 noL Tryz.f176 [Enc.enc s] (fun _=>none) 0 (fun v _ _=>R v)=(du (vOK (bz s)) s (bif pN (bz s)then∀a:Nat,∀b:Nat,∀c:E,jbu c a b=true→zc c a=rolF (pS (bz s))→qg (km ⟨#[48]⟩ (pD (bz s)) 1000 1000) false s (repZ (bz ⟨#[48]⟩) (pD (bz s)).toNat) c [] a b (ak 0) R else jl (km ⟨#[32]⟩ (pW (bz s)) 1000 1000) (S (sz (repZ (bz ⟨#[32]⟩) (pW (bz s)).toNat))) (ak 0) R) (R (.tuple ⟨g8 30 []⟩))):=by kernel_rfl
theorem ok54:jao Tryz.prog 176 (sp1 s54):=by
 refine jb8 ok_G39 hmix fn54 jai jag fun s hc=> ?_
 rw[ja2,v54];delta ar cm du ak e8 g8 al jl km aq gp pf pb mf qg;have hc:(s.size≤9223372036854775807):=jab hc
 try dsimp only[s54]
 refine c_t (jaa hc) (cond_intro (fun h=>cond_intro (fun hn=> ?_) (fun hn=> ?_)) (fun h=> ?_))
 ·intro k cap d hR hz;have hp:=jd5 hn
  have e48:repZ (bz (ByteArray.mk #[48])) (pD (bz s)).toNat=digZ (((0:Int).natAbs:Nat):Int) (pD (bz s)).toNat:=by
   rw[digZ_0];exact jiz 48 _
  obtain⟨g1,g2⟩:=jk4 hn hR hz (m:=0) (by have:=jcs (pD (bz s)).toNat;omega);have d0:decide ((0:Int)<0)=false:=rfl;rw[d0]at g2;rw[e48];refine c_t (jaa ⟨by omega,by omega,by decide⟩) (c_t g1 fun t l h1 h2=> ?_);rw[g2]at h1;rw[zeS,if_pos h,if_pos hn,pE,if_pos h,←h1];rfl
 ·have hw:= @jj1 s;have hn':¬pN (bz s)=true:=by rw[hn];simp
  refine c_t (jaa ⟨by omega,by omega,by decide⟩) ?_;have e32:bz (ByteArray.mk #[32])=[32]:=rfl;rw[zeS,if_pos h,if_neg hn',pE,if_pos h,e32,jiz]
 ·have h1:¬vOK (bz s)=true:=by rw[h];simp
  rw[zeS,if_neg h1,pE,if_neg h1,jhj]
end Go.Px
end
section
namespace Go.Fx
open Go Go.Ab
structure Ty where
 k:Int
 p:Int
 q:Int
 v:Bool
 s:Y
structure Vl where
 n:Int
 s:Y
instance:Enc Ty where
 enc t:= .agg ⟨[.int .i64 t.k,.int .i64 t.p,.int .i64 t.q,.bool t.v,.string t.s]⟩
 dec | .agg ⟨[.int .i64 k,.int .i64 p,.int .i64 q,.bool v,.string s]⟩=>some ⟨k,p,q,v,s⟩ | _=>none
 dec_some:=by
  intro v a h;split at h
  ·cases h;rfl
  ·cases h
 plain_enc _:=rfl
instance:Enc Vl where
 enc t:= .agg ⟨[.int .i64 t.n,.string t.s]⟩
 dec | .agg ⟨[.int .i64 n,.string s]⟩=>some ⟨n,s⟩ | _=>none
 dec_some:=by
  intro v a h;split at h
  ·cases h;rfl
  ·cases h
 plain_enc _:=rfl
abbrev I(n:Int):Value:= .int .i64 n
abbrev B(b:Bool):Value:= .bool b
def e0:Y:=⟨#[]⟩
def T0:Ty:=⟨0,0,0,false,⟨#[]⟩⟩
def V0:Vl:=⟨0,⟨#[]⟩⟩
abbrev tv(t:Ty):Value:= .agg ⟨[.int .i64 t.k,.int .i64 t.p,.int .i64 t.q,.bool t.v,.string t.s]⟩
abbrev vv(v:Vl):Value:= .agg ⟨[.int .i64 v.n,.string v.s]⟩
abbrev tup(l:E):Value:= .tuple ⟨l⟩
def most(k:Int):Int:=if k=1 then 9 else 31
def jbd(t:Ty):Prop:=(t.k=1∨t.k=2)∧1≤t.p∧t.p≤most t.k∧0≤t.q∧t.q≤t.p∧(t.k=2→t.q=0)∧t.v=false∧t.s.toList=[]
instance (t:Ty):Decidable (jbd t):=by unfold jbd;infer_instance
def base(k:Int):Int:=if k=1 then 10 else 2
def pw(b n:Int):Int:=b^n.toNat
def bnd(t:Ty):Int:=pw (base t.k) t.p
def check(t:Ty):Int:=if jbd t then 0 else 5
def Fit(v:Vl)(t:Ty):Prop:=v.s.toList=[]∧ -bnd t<v.n∧v.n<bnd t
instance (v:Vl)(t:Ty):Decidable (Fit v t):=by unfold Fit;infer_instance
def fits(v:Vl)(t:Ty):Int:=if jbd t then(if Fit v t then 0 else 6)else 5
def scl(n d:Int):Int:=if 0≤d then n*pw 10 d else n.tdiv (pw 10 (-d))
def InB(n:Int)(t:Ty):Prop:= -bnd t<n∧n<bnd t
instance (n:Int)(t:Ty):Decidable (InB n t):=by unfold InB;infer_instance
def cutN(n:Int)(t:Ty):Int:=if InB n t then n else n.tmod (bnd t)
def cutC(n:Int)(t:Ty)(c:Int):Int:=if InB n t then 0 else c
def tensL:E:=[.int .i64 1,.int .i64 10,.int .i64 100,.int .i64 1000,.int .i64 10000,.int .i64 100000,.int .i64 1000000,.int .i64 10000000,.int .i64 100000000,.int .i64 1000000000,
 .int .i64 10000000000,.int .i64 100000000000,.int .i64 1000000000000,.int .i64 10000000000000,.int .i64 100000000000000,.int .i64 1000000000000000,.int .i64 10000000000000000,.int .i64 100000000000000000,.int .i64 1000000000000000000]
def R64(n:Int):Prop:= -9223372036854775808≤n∧n≤9223372036854775807
instance (n:Int):Decidable (R64 n):=by unfold R64;infer_instance
def zer(op b:Int):Prop:=(op=9∨op=10)∧b=0
instance (op b:Int):Decidable (zer op b):=by unfold zer;infer_instance
def Q18(n:Int):Prop:= -4000000000000000000≤n∧n≤4000000000000000000
instance (n:Int):Decidable (Q18 n):=by unfold Q18;infer_instance
def quoOK(a b up:Int):Prop:=b≠0∧ -18≤up∧up≤18∧Q18 a∧Q18 b∧(0≤up→Q18 (a*pw 10 up))∧(up<0→Q18 (b*pw 10 (-up)))
instance (a b up:Int):Decidable (quoOK a b up):=by unfold quoOK;infer_instance
def dvOK(op y:Int):Prop:=op=10→y≠0
instance (op y:Int):Decidable (dvOK op y):=by unfold dvOK;infer_instance
def rOK(n u:Int):Prop:=1≤u∧u≤1000000000∧ -4000000000000000000≤n∧n≤4000000000000000000
instance (n u:Int):Decidable (rOK n u):=by unfold rOK;infer_instance
theorem w64{n:Int}(h: -9223372036854775808≤n∧n≤9223372036854775807):IntKind.i64.wrap n=n:=by rw[IntKind.wrap_i64];omega
theorem str0(s:Y):(!s.toList==(ByteArray.mk #[]).toList)= !decide (s.toList=[]):=by
 have:(ByteArray.mk #[]).toList=[]:=by kernel_rfl
 rw[this];cases s.toList<;>rfl
end Go.Fx
namespace Go.Fx
open Go Go.Ab
theorem ja6(a b:Int):IntKind.i64.wrap (IntKind.i64.wrap a*b)=IntKind.i64.wrap (a*b):=by
 simp only[IntKind.wrap_i64]
 have h:((a+9223372036854775808)%18446744073709551616-9223372036854775808)*b=a*b+18446744073709551616*(-((a+9223372036854775808)/18446744073709551616)*b):=by
  have:=Int.emod_def (a+9223372036854775808) 18446744073709551616;rw[this];grind
 rw[h];omega
theorem jbe(b:Int){n:Int}(h:n≤0):pw b n=1:=by
 rw[pw,show n.toNat=0 by omega,Int.pow_zero]
theorem jbh(b:Int){n:Int}(h:0≤n):pw b (n+1)=pw b n*b:=by
 rw[pw,pw,show(n+1).toNat=n.toNat+1 by omega,Int.pow_succ]
theorem pw_add(b:Int){n m:Int}(h:0≤n)(h':0≤m):pw b (n+m)=pw b n*pw b m:=by
 rw[pw,pw,pw,show(n+m).toNat=n.toNat+m.toNat by omega,Int.pow_add]
theorem jii{b:Int}(hb:1≤b)(n:Int):1≤pw b n:=by
 have:0<b^n.toNat:=Int.pow_pos (by omega);unfold pw;omega
theorem jkj{b:Int}(hb:1≤b){n m:Int}(h:n≤m):pw b n≤pw b m:=by
 rcases Int.le_total n 0 with hn | hn
 ·rw[jbe b hn];exact jii hb m
 ·have e:m=n+(m-n):=by omega
  rw[e,pw_add b hn (by omega)];have h1:=jii hb n;have h2:=jii hb (m-n);have:=Int.mul_le_mul_of_nonneg_left h2 (show 0≤pw b n by omega);omega
theorem pw10_18:pw 10 18=1000000000000000000:=by decide
theorem pw10_9:pw 10 9=1000000000:=by decide
theorem pw2_31:pw 2 31=2147483648:=by decide
end Go.Fx
namespace Go.Fx
open Go Go.Ab
theorem tens_nat:∀n:Nat,n<19→jby .i64 tensL n=true∧jau tensL n=10^n:=by decide
theorem tens_at{p:Int}(h:0≤p)(h':p<19):jby .i64 tensL p.toNat=true∧jau tensL p.toNat=pw 10 p:=tens_nat _ (by omega)
theorem shl_pw{p:Int}(h:0≤p)(h':p≤62):IntKind.i64.wrap (1*2^min p.toNat 64)=pw 2 p:=by
 have h1:=jkj (b:=2) (by omega) h';have h2:=jii (b:=2) (by omega) p;have h3:pw 2 62=4611686018427387904:=by decide
 rw[show min p.toNat 64=p.toNat by omega,Int.one_mul];exact w64 (by show _≤pw 2 p∧pw 2 p≤_;omega)
theorem jbt{b p:Int}(h:b=10∧p≤18∨b=2∧p≤62):IntKind.i64.wrap (pw b p)=pw b p:=by
 have h3:pw 2 62=4611686018427387904:=by decide
 have h4:=pw10_18;rcases h with⟨rfl,h⟩ | ⟨rfl,h⟩
 ·have h1:=jkj (b:=10) (by omega) h;have h2:=jii (b:=10) (by omega) p;exact w64 (by omega)
 ·have h1:=jkj (b:=2) (by omega) h;have h2:=jii (b:=2) (by omega) p;exact w64 (by omega)
end Go.Fx
namespace Go.Fx
open Go Go.Ab
theorem bnd_range{t:Ty}(h:jbd t):2≤bnd t∧bnd t≤2147483648:=by
 obtain⟨hk,h1,h2,_⟩:=h;unfold bnd;rcases hk with hk | hk
 ·simp only[hk,most,base]at*;have a:=jkj (b:=10) (by omega) h1;have b:=jkj (b:=10) (by omega) (show t.p≤9 by simpa using h2);have c:=pw10_9;have d:pw 10 1=10:=by decide
  simp only[if_true];omega
 ·simp only[hk,most,base]at*;have a:=jkj (b:=2) (by omega) h1;have b:=jkj (b:=2) (by omega) (show t.p≤31 by simpa using h2);have c:=pw2_31;have d:pw 2 1=2:=by decide
  simp only[show¬((2:Int)=1)by decide,if_false];omega
end Go.Fx
namespace Go.Fx
end Go.Fx
namespace Go.Fx
open Go Go.Ab
theorem imax_max(x y:Int):imax x y=max x y:=by unfold imax;grind
theorem imin_min(x y:Int):imin x y=min x y:=by unfold imin;grind
theorem valid_r{t:Ty}(h:jbd t):1≤t.p∧t.p≤31∧0≤t.q∧t.q≤t.p∧t.q≤9:=by grind [jbd,most]
end Go.Fx
namespace Go.Fx
open Go Go.Ab
end Go.Fx
end
section
namespace Go.Cv
open Go.Ab (jac jae jaf)
def dig(c:Int):Bool:=decide (48≤c∧c≤57)
def jco(l:List Int):Bool:=l.all fun c=>decide (c=48∨c=49)
def jbm(l:List Int):Bool:=l.all dig
def trL(l:List Int):List Int:=l.dropWhile (· ==32)
def trR(l:List Int):List Int:=(l.reverse.dropWhile (· ==32)).reverse
def ahead(c:Int)(l:List Int):List Int:=l.takeWhile (· !=c)
def past(c:Int)(l:List Int):Option (List Int):=match l.dropWhile (· !=c)with
 | []=>none
 | _::r=>some r
def expD(l:List Int):Option Int:=if 1≤l.length∧l.length≤2∧jbm l=true then some (l.foldl (fun a c=>10*a+(c-48)) 0)else none
def expZ:List Int→Option Int
 | 43::l=>expD l
 | 45::l=>(expD l).map fun n=> -n
 | l=>expD l
abbrev Num:=Bool×List Int×Int
section
variable (ja4 : Bool → List Int → Int → Num) (binD : List Int → List Int)
def decR(neg:Bool)(l:List Int):Option Num:=
 match (match past 69 l with | none=>some 0 | some x=>expZ x)with
 | none=>none
 | some e=>
  let s:=ahead 69 l
  let whole:=ahead 46 s
  let part:=(past 46 s).getD []
  if whole++part≠ []∧jbm whole=true∧jbm part=true then some (ja4 neg (whole++part) (part.length-e))else none
def bodR(neg:Bool)(l:List Int):Option Num:=
 if 2≤l.length∧l.getLast?=some 66 then
  if l.length-1≤31∧jco l.dropLast=true then some (ja4 neg (binD l.dropLast) 0)else none
 else decR ja4 neg l
def sgnR:List Int→Option Num
 | []=>some (false,[],0)
 | 45::l=>bodR ja4 binD true l
 | 43::l=>bodR ja4 binD false l
 | l=>bodR ja4 binD false l
def numR(l:List Int):Option Num:=sgnR ja4 binD (trR (trL l))
inductive St where
 | beg | bod (some pt:Bool) | exq (sg:Bool) (many:Nat) | beh | ded
structure Rd where
 neg:Bool:=false
 bin:Bool:=false
 down:Bool:=false
 ds:List Int:=[]
 sc:Int:=0
 pw:Int:=0
def bodN(r:Rd)(c:Int)(s p:Bool):St×Rd:=
 if dig c=true then(.bod true p,{r with ds:=r.ds++ [c],sc:=if p=true then r.sc+1 else r.sc})
 else if c=46∧p=false then(.bod s true,r)
 else if s=false then(.ded,r)
 else if c=69 then(.exq false 0,r)
 else if c=66∧p=false then(.beh,{r with bin:=true})
 else if c=32 then(.beh,r)else(.ded,r)
def jca:St→Rd→Int→St×Rd
 | .beg,r,c=>if c=32 then(.beg,r)else if c=43∨c=45 then(.bod false false,{r with neg:=decide (c=45)})else bodN r c false false
 | .bod s p,r,c=>bodN r c s p
 | .exq sg m,r,c=>if dig c=true∧m<2 then(.exq true (m+1),{r with pw:=10*r.pw+(c-48)})
  else if(c=43∨c=45)∧sg=false then(.exq true 0,{r with down:=decide (c=45)})
  else if c=32∧0<m then(.beh,r)else(.ded,r)
 | .beh,r,c=>if c=32 then(.beh,r)else(.ded,r)
 | .ded,r,_=>(.ded,r)
def endP:St→Bool
 | .beg=>true
 | .bod s _=>s
 | .exq _ m=>decide (0<m)
 | .beh=>true
 | .ded=>false
def runP:List Int→St→Rd→Option Rd
 | [],st,r=>if endP st=true then some r else none
 | c::l,st,r=>runP l (jca st r c).1 (jca st r c).2
def finP(r:Rd):Option Num:=
 if r.bin=true then(if r.ds.length≤31∧jco r.ds=true then some (ja4 r.neg (binD r.ds) 0)else none)
 else some (ja4 r.neg r.ds (r.sc-if r.down=true then -r.pw else r.pw))
def numP(l:List Int):Option Num:=(runP l .beg {}).bind (finP ja4 binD)
end
theorem jc6:∀(l:List Int)(r:Rd),runP l .ded r=none
 | [],_=>rfl
 | c::l,r=>by rw[runP];exact jc6 l r
theorem jf1:∀(l:List Int)(r:Rd),runP l .beh r=if l.all (· ==32)=true then some r else none
 | [],_=>rfl
 | c::l,r=>by
  rw[runP,jca];by_cases h:c=32
  ·subst h;rw[if_pos rfl,jf1 l r];rfl
  ·rw[if_neg h,jc6,if_neg];simp[h]
theorem jhm(b:List Int)(hb:b.all (· ==32)=true):∀(l:List Int)(st:St)(r:Rd),runP (l++b) st r=runP l st r
 | [],st,r=>by
  cases b with
  | nil=>rfl
  | cons c b=>
   simp only[List.all_cons,jaf,beq_iff_eq]at hb;obtain⟨rfl,hb⟩:=hb;show runP b (jca st r 32).1 (jca st r 32).2=if endP st=true then some r else none
   cases st with
   | beg=>
    have ih:=jhm b hb [] .beg r;exact ih
   | bod s p=>
    cases s with
    | true=>
     show runP b (bodN r 32 true p).1 (bodN r 32 true p).2=_;cases p<;>exact(jf1 b r).trans (by rw[if_pos hb];rfl)
    | false=>
     show runP b (bodN r 32 false p).1 (bodN r 32 false p).2=_;cases p<;>exact jc6 b r
   | exq sg m=>
    show runP b (jca (.exq sg m) r 32).1 (jca (.exq sg m) r 32).2=_;have hd:dig 32=false:=by decide
    have e:jca (.exq sg m) r 32=if 0<m then(.beh,r)else(.ded,r):=by
     rw[jca,if_neg (fun q=>by rw[hd]at q;cases q.1),if_neg (fun q=>absurd q.1 (by decide))];by_cases h:0<m
     ·rw[if_pos ⟨rfl,h⟩,if_pos h]
     ·rw[if_neg (fun q=>h q.2),if_neg h]
    rw[e];by_cases h:0<m
    ·rw[if_pos h,jf1,if_pos hb];simp[endP,h]
    ·rw[if_neg h,jc6];simp[endP,h]
   | beh=>
    exact(jf1 b r).trans (by rw[if_pos hb];rfl)
   | ded=>exact jc6 b r
 | c::l,st,r=>by
  rw[List.cons_append,runP,runP,jhm b hb l]
theorem run_lead:∀(l:List Int),runP l .beg {}=runP (trL l) .beg {}
 | []=>rfl
 | c::l=>by
  by_cases h:c=32
  ·subst h;rw[show trL (32::l)=trL l from rfl,←run_lead l];rfl
  ·rw[show trL (c::l)=c::l from List.dropWhile_cons_of_neg (by simpa using h)]
theorem trR_spec(l:List Int):∃b:List Int,b.all (· ==32)=true∧l=trR l++b∧((trR l).getLast?≠some 32):=by
 refine⟨(l.reverse.takeWhile (· ==32)).reverse,?_,?_,?_⟩
 ·rw[List.all_reverse];exact List.all_takeWhile
 ·rw[trR,←List.reverse_append,List.takeWhile_append_dropWhile,List.reverse_reverse]
 ·rw[trR,List.getLast?_reverse];intro h;have:=List.head?_dropWhile_not (p:=(· ==(32:Int))) (l:=l.reverse);rw[h]at this;simp at this
theorem jiy:∀(d l:List Int)(s p:Bool)(r:Rd),jbm d=true→
  runP (d++l) (.bod s p) r=runP l (.bod (s || !d.isEmpty) p) {r with ds:=r.ds++d,sc:=if p=true then r.sc+d.length else r.sc}
 | [],l,s,p,r,_=>by
  cases p<;>simp
 | c::d,l,s,p,r,h=>by
  simp only[jbm,List.all_cons,jaf]at h
  have e:jca (.bod s p) r c=(.bod true p,{r with ds:=r.ds++ [c],sc:=if p=true then r.sc+1 else r.sc}):=by
   rw[jca,bodN,if_pos h.1]
  rw[List.cons_append,runP,e];have:=jiy d l true p {r with ds:=r.ds++ [c],sc:=if p=true then r.sc+1 else r.sc} h.2;rw[this];have e2:r.sc+1+(d.length:Int)=r.sc+((d.length:Int)+1):=by omega
  cases p<;>simp[e2]
theorem split_digs(l:List Int):∃d v:List Int,l=d++v∧jbm d=true∧(v=[]∨ ∃c r,v=c::r∧dig c=false):=by
 refine⟨l.takeWhile dig,l.dropWhile dig,(List.takeWhile_append_dropWhile).symm,List.all_takeWhile,?_⟩;cases h:l.dropWhile dig with
 | nil=>exact .inl rfl
 | cons c r=>
  refine .inr ⟨c,r,rfl,?_⟩;have:=List.head?_dropWhile_not (p:=dig) (l:=l);rw[h]at this;simpa using this
theorem jgg{a b:List Int}:jbm (a++b)=(jbm a&&jbm b):=List.all_append
theorem run_exp(x:List Int)(hx:x.getLast?≠some 32)(r:Rd)(h0:r.pw=0∧r.down=false):
  (runP x (.exq false 0) r).map (fun r'=>(r'.neg,r'.bin,r'.ds,r'.sc,if r'.down=true then -r'.pw else r'.pw))=(expZ x).map fun e=>(r.neg,r.bin,r.ds,r.sc,e):=by
 have two:∀(l:List Int)(sg:Bool)(r:Rd),l.getLast?≠some 32→r.pw=0→(∀c t,l=c::t→sg=false→c≠43∧c≠45)→
   runP l (.exq sg 0) r=(expD l).map fun e=>{r with pw:=e}:=by
  intro l sg r hl hr hs
  match l with
  | []=>rfl
  | [a]=>
   rw[runP,jca];cases ha:dig a with
   | true=>
    rw[if_pos ⟨rfl,by decide⟩];simp[runP,endP,expD,jbm,ha,hr]
   | false=>
    rw[if_neg (fun q=>by cases q.1),if_neg,if_neg (fun q=>absurd q.2 (by decide))]
    ·simp[runP,endP,expD,jbm,ha]
    ·intro q;have:=hs a [] rfl q.2;omega
  | [a,b]=>
   rw[runP,jca];cases ha:dig a with
   | true=>
    rw[if_pos ⟨rfl,by decide⟩];show runP [b] (.exq true 1) _=_;rw[runP,jca];cases hb:dig b with
    | true=>
     rw[if_pos ⟨rfl,by decide⟩];simp[runP,endP,expD,jbm,ha,hb,hr]
    | false=>
     have hb32:b≠32:=fun q=>hl (by rw[q];rfl)
     rw[if_neg (fun q=>by cases q.1),if_neg (fun q=>by cases q.2),if_neg (fun q=>hb32 q.1)];simp[runP,endP,expD,jbm,ha,hb]
   | false=>
    rw[if_neg (fun q=>by cases q.1),if_neg,if_neg (fun q=>absurd q.2 (by decide))]
    ·show runP [b] .ded r=_;rw[jc6];simp[expD,jbm,ha]
    ·intro q;have:=hs a [b] rfl q.2;omega
  | a::b::c::t=>
   have en:expD (a::b::c::t)=none:=by
    rw[expD,if_neg];intro q;have:=q.2.1;simp at this
   rw[en,runP,jca];cases ha:dig a with
   | false=>
    rw[if_neg (fun q=>by cases q.1),if_neg,if_neg (fun q=>absurd q.2 (by decide))]
    ·exact jc6 _ _
    ·intro q;have:=hs a _ rfl q.2;omega
   | true=>
    rw[if_pos ⟨rfl,by decide⟩];show runP (b::c::t) (.exq true 1) _=none
    have hbl:∀r',runP (c::t) .beh r'=none:=fun r'=>by
     rw[jf1,if_neg];intro q
     have:(c::t).getLast?=some 32:=by
      have hne:c::t≠ []:=by simp
      rw[List.getLast?_eq_some_getLast hne];have:=List.all_eq_true.1 q _ (List.getLast_mem hne);rw[eq_of_beq this]
     refine hl ?_;rw[←this];simp[List.getLast?_cons_cons]
    rw[runP,jca];cases hb:dig b with
    | false=>
     rw[if_neg (fun q=>by cases q.1),if_neg (fun q=>by cases q.2)];by_cases h32:b=32
     ·rw[if_pos ⟨h32,by decide⟩];exact hbl _
     ·rw[if_neg (fun q=>h32 q.1)];exact jc6 _ _
    | true=>
     rw[if_pos ⟨rfl,by decide⟩];show runP (c::t) (.exq true 2) _=none;rw[runP,jca,if_neg (fun q=>absurd q.2 (by decide)),if_neg (fun q=>by cases q.2)];by_cases h32:c=32
     ·rw[if_pos ⟨h32,by decide⟩];have:=hbl;have e:=this {r with pw:=0};rw[runP,jca,if_pos h32]at e;rw[jf1]at e ⊢;split at e
      ·cases e
      ·rename_i q;rw[if_neg q]
     ·rw[if_neg (fun q=>h32 q.1)];exact jc6 _ _
 obtain⟨hp,hd⟩:=h0
 match x,hx with
 | [],_=>rfl
 | c::l,hx=>
  by_cases h43:c=43
  ·subst h43
   have e:jca (.exq false 0) r 43=(.exq true 0,{r with down:=false}):=by
    rw[jca,if_neg (fun q=>absurd q.1 (by decide)),if_pos ⟨.inl rfl,rfl⟩];rfl
   have hl:l.getLast?≠some 32:=by
    intro q;cases l with
    | nil=>cases q
    | cons a t=>exact hx (by rw[List.getLast?_cons_cons];exact q)
   have tt:=two l true {r with down:=false} hl hp (fun _ _ _ q=>by cases q);rw[runP,e];show Option.map _ (runP l (.exq true 0) {r with down:=false})=(expD l).map _;rw[tt];cases expD l<;>simp
  ·by_cases h45:c=45
   ·subst h45
    have e:jca (.exq false 0) r 45=(.exq true 0,{r with down:=true}):=by
     rw[jca,if_neg (fun q=>absurd q.1 (by decide)),if_pos ⟨.inr rfl,rfl⟩];rfl
    have hl:l.getLast?≠some 32:=by
     intro q;cases l with
     | nil=>cases q
     | cons a t=>exact hx (by rw[List.getLast?_cons_cons];exact q)
    have tt:=two l true {r with down:=true} hl hp (fun _ _ _ q=>by cases q);rw[runP,e];show Option.map _ (runP l (.exq true 0) {r with down:=true})=((expD l).map _).map _;rw[tt];cases expD l<;>simp
   ·rw[two (c::l) false r hx hp (fun a t e _=>by cases e;exact⟨h43,h45⟩)]
    have:expZ (c::l)=expD (c::l):=by
     unfold expZ;split
     ·rename_i e;cases e;exact absurd rfl h43
     ·rename_i e;cases e;exact absurd rfl h45
     ·rfl
    rw[this];cases expD (c::l) <;>simp[hd]
theorem jc1{c:Int}:∀{l:List Int},c∉l→ahead c l=l∧past c l=none
 | [],_=>⟨rfl,rfl⟩
 | a::l,h=>by
  simp only[List.mem_cons,not_or]at h;have ha:(a !=c)=true:=by simpa using Ne.symm h.1
  obtain⟨h1,h2⟩:=jc1 h.2;refine⟨?_,?_⟩
  ·show List.takeWhile _ (a::l)=_;rw[List.takeWhile_cons_of_pos (p:=fun x=>x !=c) ha];exact congrArg _ h1
  ·unfold past at h2 ⊢;rw[List.dropWhile_cons_of_pos (p:=fun x=>x !=c) ha];exact h2
theorem jc2{c:Int}:∀{d:List Int}{r:List Int},c∉d→ahead c (d++c::r)=d∧past c (d++c::r)=some r
 | [],r,_=>by
  have:(c !=c)=false:=by simp
  refine⟨?_,?_⟩
  ·show List.takeWhile _ (c::r)=_;rw[List.takeWhile_cons_of_neg (p:=fun x=>x !=c) (by simp)]
  ·unfold past;rw[List.nil_append,List.dropWhile_cons_of_neg (p:=fun x=>x !=c) (by simp)]
 | a::d,r,h=>by
  simp only[List.mem_cons,not_or]at h;have ha:(a !=c)=true:=by simpa using Ne.symm h.1
  obtain⟨h1,h2⟩:=jc2 (r:=r) h.2;refine⟨?_,?_⟩
  ·show List.takeWhile _ (a::(d++c::r))=_;rw[List.takeWhile_cons_of_pos (p:=fun x=>x !=c) ha];exact congrArg _ h1
  ·unfold past at h2 ⊢;rw[List.cons_append,List.dropWhile_cons_of_pos (p:=fun x=>x !=c) ha];exact h2
theorem jdn{d:List Int}(h:jbm d=true){c:Int}(hc:dig c=false):c∉d:=fun q=>by
 have:=List.all_eq_true.1 h c q;rw[hc]at this;cases this
theorem jep{c:Int}:∀{d l:List Int},c∉d→ahead c (d++l)=d++ahead c l
 | [],_,_=>rfl
 | a::d,l,h=>by
  simp only[List.mem_cons,not_or]at h;have ha:(a !=c)=true:=by simpa using Ne.symm h.1
  have:=jep (l:=l) h.2;show List.takeWhile _ (a::(d++l))=_;rw[List.takeWhile_cons_of_pos (p:=fun x=>x !=c) ha];exact congrArg _ this
theorem jeo{c a:Int}(l:List Int)(h:a≠c):ahead c (a::l)=a::ahead c l:=
 jep (d:=[a]) (by simpa using Ne.symm h)
section
variable {ja4 : Bool → List Int → Int → Num} {binD : List Int → List Int}
theorem dec_bad{d w:List Int}{c:Int}(hd:jbm d=true)(hc:dig c=false)(h69:c≠69)(h46:c≠46)(neg:Bool):decR ja4 neg (d++c::w)=none:=by
 have n69:(69:Int) ∉d:=jdn hd (by decide);have n46:(46:Int) ∉d:=jdn hd (by decide);unfold decR;split
 ·rfl
 ·dsimp only;rw[jep n69,jeo _ h69,jep n46,jeo _ h46,if_neg];intro q;have:=q.2.1;rw[jgg]at this;simp only[jbm,List.all_cons,hc,Bool.false_and,Bool.and_false]at this;cases this
theorem dec_bad2{d d2 w:List Int}{c:Int}(hd:jbm d=true)(hd2:jbm d2=true)(hc:dig c=false)(h69:c≠69)(neg:Bool):decR ja4 neg (d++46::(d2++c::w))=none:=by
 have n69:(69:Int) ∉d:=jdn hd (by decide);have n46:(46:Int) ∉d:=jdn hd (by decide);have m69:(69:Int) ∉d2:=jdn hd2 (by decide);unfold decR;split
 ·rfl
 ·dsimp only;rw[jep n69,jeo _ (by decide),jep m69,jeo _ h69,(jc2 n46).1,(jc2 n46).2,if_neg];intro q;have:=q.2.2;rw[Option.getD_some,jgg]at this;simp only[jbm,List.all_cons,hc,Bool.false_and,Bool.and_false]at this;cases this
theorem drop_mem(d w:List Int)(c:Int)(h:w≠ []):c∈(d++c::w).dropLast:=by
 rw[List.dropLast_append_of_ne_nil (by simp),List.dropLast_cons_of_ne_nil h];simp
theorem bits_no{l:List Int}{c:Int}(h:c∈l)(hc:c≠48∧c≠49):jco l=false:=by
 cases e:jco l with
 | false=>rfl
 | true=>
  have:=List.all_eq_true.1 e c h;simp only[jae]at this;omega
theorem not_dig{c:Int}(h:dig c=false):c≠48∧c≠49:=by
 unfold dig at h;have:=jac h;omega
theorem jjv{d w:List Int}{c:Int}(hc:dig c=false)(hw:w≠ []∨c≠66)(neg:Bool):
  (bodR ja4 binD neg (d++c::w)=none∧(d++c::w).getLast?=some 66)∨(bodR ja4 binD neg (d++c::w)=decR ja4 neg (d++c::w)):=by
 unfold bodR;by_cases h:2≤(d++c::w).length∧(d++c::w).getLast?=some 66
 ·rw[if_pos h];left
  have hw:w≠ []:=by
   rcases hw with q | q
   ·exact q
   ·intro e;subst e;have:=h.2;simp at this;exact q this
  refine⟨?_,h.2⟩;rw[if_neg];intro q;rw[bits_no (drop_mem d w c hw) (not_dig hc)]at q;cases q.2
 ·rw[if_neg h];exact .inr rfl
theorem bod_bad{d w:List Int}{c:Int}(hd:jbm d=true)(hc:dig c=false)(h69:c≠69)(h46:c≠46)(hw:w≠ []∨c≠66)(neg:Bool):bodR ja4 binD neg (d++c::w)=none:=by
 rcases jjv (ja4:=ja4) (binD:=binD) (d:=d) hc hw neg with h | h
 ·exact h.1
 ·rw[h,dec_bad hd hc h69 h46]
theorem jkg{w:List Int}(h:w.getLast?≠some 32)(h0:w≠ [])(r:Rd):runP w .beh r=none:=by
 rw[jf1,if_neg];intro q;rw[List.getLast?_eq_some_getLast h0]at h;have:=List.all_eq_true.1 q _ (List.getLast_mem h0);exact h (congrArg some (eq_of_beq this))
theorem jdx{d w:List Int}{c:Int}(h:w≠ []):(d++c::w).getLast?=w.getLast?:=by
 cases w with
 | nil=>exact absurd rfl h
 | cons a t=>
  rw[List.getLast?_append,List.getLast?_cons_cons,List.getLast?_eq_some_getLast (l:=a::t) (by simp)];rfl
theorem exp_last{x:List Int}{e:Int}(h:expZ x=some e):x.getLast?≠some 66:=by
 have key:∀l:List Int,∀e,expD l=some e→l.getLast?≠some 66:=by
  intro l e h q;unfold expD at h;split at h
  ·rename_i hh;have hm:(66:Int)∈l:=List.mem_of_getLast? q;have:=List.all_eq_true.1 hh.2.2 66 hm;revert this;decide
  ·cases h
 unfold expZ at h;split at h
 ·rename_i l;intro q;cases l with
  | nil=>cases h
  | cons a t=>exact key _ _ h (by rw[List.getLast?_cons_cons]at q;exact q)
 ·rename_i l;intro q;cases hl:expD l with
  | none=>rw[hl]at h;cases h
  | some z=>
   cases l with
   | nil=>cases hl
   | cons a t=>exact key _ _ hl (by rw[List.getLast?_cons_cons]at q;exact q)
 ·exact key _ _ h
theorem fin_exp{x:List Int}(hx:x.getLast?≠some 32){r:Rd}(h:r.pw=0∧r.down=false∧r.bin=false):
  (runP x (.exq false 0) r).bind (finP ja4 binD)=(expZ x).map fun e=>ja4 r.neg r.ds (r.sc-e):=by
 have q:=run_exp x hx r ⟨h.1,h.2.1⟩;cases h1:runP x (.exq false 0) r with
 | none=>
  rw[h1]at q;cases h2:expZ x with
  | none=>rfl
  | some e=>rw[h2]at q;cases q
 | some r'=>
  rw[h1]at q;cases h2:expZ x with
  | none=>rw[h2]at q;cases q
  | some e=>
   rw[h2]at q;simp only[Option.map_some,Option.some.injEq,Prod.mk.injEq]at q;obtain⟨q1,q2,q3,q4,q5⟩:=q;show finP ja4 binD r'=some _;rw[finP,if_neg (by rw[q2,h.2.2];decide),q1,q3,q4,q5]
theorem run_body{u:List Int}(hu:u.getLast?≠some 32)(neg:Bool):(runP u (.bod false false) {neg:=neg}).bind (finP ja4 binD)=bodR ja4 binD neg u:=by
 obtain⟨d,v,rfl,hd,hv⟩:=split_digs u;have n69:(69:Int) ∉d:=jdn hd (by decide);have n46:(46:Int) ∉d:=jdn hd (by decide);rw[jiy d v false false _ hd];simp only[List.nil_append,Bool.false_or,Bool.false_eq_true,if_false];rcases hv with rfl | ⟨c,w,rfl,hc⟩
 ·-- digits alone
  have hl:¬(2≤(d++ []).length∧(d++ []).getLast?=some 66):=by
   rw[List.append_nil];intro q;have:=List.mem_of_getLast? q.2;exact jdn hd (by decide) this
  unfold bodR decR;rw[if_neg hl,List.append_nil,(jc1 n69).1,(jc1 n69).2];dsimp only;rw[(jc1 n46).1,(jc1 n46).2];cases d with
  | nil=>rfl
  | cons a t=>
   have hn:jbm []=true:=rfl;rw[if_pos ⟨by simp,hd,hn⟩];show finP ja4 binD _=_;simp[finP]
 ·have hw32:w≠ []→w.getLast?≠some 32:=fun h q=>hu (by rw[jdx h];exact q)
  rw[runP];show(runP w (bodN _ c _ _).1 (bodN _ c _ _).2).bind _=_;unfold bodN;rw[if_neg (by rw[hc];decide)];by_cases h46:c=46
  ·subst h46;rw[if_pos ⟨rfl,rfl⟩];obtain⟨d2,v2,rfl,hd2,hv2⟩:=split_digs w;have m69:(69:Int) ∉d2:=jdn hd2 (by decide);dsimp only;rw[jiy d2 v2 _ true _ hd2];simp only[if_true];rcases hv2 with rfl | ⟨c2,x,rfl,hc2⟩
   ·have hl:¬(2≤(d++46::(d2++ [])).length∧(d++46::(d2++ [])).getLast?=some 66):=by
     rw[List.append_nil];intro q;have:=List.mem_of_getLast? q.2;simp only[List.mem_append,List.mem_cons]at this;rcases this with q | q | q
     ·exact jdn hd (by decide) q
     ·cases q
     ·exact jdn hd2 (by decide) q
    unfold bodR decR;have no:(69:Int) ∉d++46::d2:=by simp[n69,m69]
    rw[if_neg hl,List.append_nil,(jc1 no).1,(jc1 no).2];dsimp only;rw[(jc2 n46).1,(jc2 n46).2];rw[Option.getD_some];by_cases he:d++d2=[]
    ·have h1:d=[]:=(List.append_eq_nil_iff.1 he).1;have h2:d2=[]:=(List.append_eq_nil_iff.1 he).2;subst h1 h2;rw[if_neg (fun q=>q.1 rfl)];rfl
    ·rw[if_pos ⟨he,hd,hd2⟩]
     have hs:(!d.isEmpty || !d2.isEmpty)=true:=by
      cases d with
      | nil=>cases d2 with
       | nil=>exact absurd rfl he
       | cons=>rfl
      | cons=>rfl
     rw[hs];show finP ja4 binD _=_;simp[finP]
   ·rw[runP];show(runP x (bodN _ c2 _ _).1 (bodN _ c2 _ _).2).bind _=_;unfold bodN;rw[if_neg (by rw[hc2];decide),if_neg (fun q=>by cases q.2)];have hx32:x≠ []→x.getLast?≠some 32:=fun h q=>hu (by rw[jdx (by simp),jdx h];exact q)
    have hne:d2++c2::x≠ []:=by simp
    by_cases h69:c2=69
    ·subst h69
     have hx:x.getLast?≠some 32:=by
      cases x with
      | nil=>simp
      | cons a t=>exact hx32 (by simp)
     have hR:bodR ja4 binD neg (d++46::(d2++69::x))=if d++d2=[]then none else(expZ x).map fun e=>ja4 neg (d++d2) (d2.length-e):=by
      have e1:decR ja4 neg (d++46::(d2++69::x))=if d++d2=[]then none else(expZ x).map fun e=>ja4 neg (d++d2) (d2.length-e):=by
       have no:(69:Int) ∉d++46::d2:=by simp[n69,m69]
       have ea:d++46::(d2++69::x)=(d++46::d2)++69::x:=by simp
       unfold decR;rw[ea,(jc2 no).1,(jc2 no).2];dsimp only;cases hx:expZ x with
       | none=>by_cases he:d++d2=[] <;>simp[he]
       | some e=>
        dsimp only;rw[(jc2 n46).1,(jc2 n46).2,Option.getD_some];by_cases he:d++d2=[]
        ·rw[if_pos he,if_neg (fun q=>q.1 he)]
        ·rw[if_neg he,if_pos ⟨he,hd,hd2⟩];rfl
      rcases jjv (ja4:=ja4) (binD:=binD) (d:=d) (w:=d2++69::x) (c:=46) (by decide) (.inl hne) neg with⟨h1,h2⟩ | h1
      ·rw[h1]
       have hxx:expZ x=none:=by
        cases hx:expZ x with
        | none=>rfl
        | some e=>
         have:=exp_last hx;rw[jdx hne]at h2;cases x with
         | nil=>simp at h2
         | cons a t=>rw[jdx (by simp)]at h2;exact absurd h2 this
       rw[hxx];split<;>rfl
      ·rw[h1,e1]
     rw[hR];by_cases he:d++d2=[]
     ·have h1:d=[]:=(List.append_eq_nil_iff.1 he).1;have h2:d2=[]:=(List.append_eq_nil_iff.1 he).2;subst h1 h2;show(runP x .ded _).bind _=_;rw[jc6,if_pos he];rfl
     ·have hs:(!d.isEmpty || !d2.isEmpty)=true:=by
       cases d with
       | nil=>cases d2 with
        | nil=>exact absurd rfl he
        | cons=>rfl
       | cons=>rfl
      rw[hs,if_neg (by decide),if_pos rfl,if_neg he];rw[fin_exp hx ⟨rfl,rfl,rfl⟩];simp
    ·have hR:bodR ja4 binD neg (d++46::(d2++c2::x))=none:=by
      rcases jjv (ja4:=ja4) (binD:=binD) (d:=d) (w:=d2++c2::x) (c:=46) (by decide) (.inl hne) neg with⟨h1,_⟩ | h1
      ·exact h1
      ·rw[h1,dec_bad2 hd hd2 hc2 h69]
     rw[hR];by_cases hs:(!d.isEmpty || !d2.isEmpty)=false
     ·rw[if_pos hs,jc6];rfl
     ·rw[if_neg hs,if_neg h69,if_neg (fun q=>by cases q.2)];by_cases h32:c2=32
      ·have hx0:x≠ []:=fun q=>hu (by subst q h32;rw[jdx (by simp)];simp)
       rw[if_pos h32,jkg (hx32 hx0) hx0];rfl
      ·rw[if_neg h32,jc6];rfl
  ·rw[if_neg (fun q=>h46 q.1)];by_cases h69:c=69
   ·subst h69
    have hw:w.getLast?≠some 32:=by
     cases w with
     | nil=>simp
     | cons a t=>exact hw32 (by simp)
    have hR:bodR ja4 binD neg (d++69::w)=if d=[]then none else(expZ w).map fun e=>ja4 neg d (0-e):=by
     have e1:decR ja4 neg (d++69::w)=if d=[]then none else(expZ w).map fun e=>ja4 neg d (0-e):=by
      unfold decR;rw[(jc2 n69).1,(jc2 n69).2];dsimp only;cases hx:expZ w with
      | none=>by_cases he:d=[] <;>simp[he]
      | some e=>
       dsimp only;rw[(jc1 n46).1,(jc1 n46).2,Option.getD_none,List.append_nil];by_cases he:d=[]
       ·rw[if_pos he,if_neg (fun q=>q.1 he)]
       ·rw[if_neg he,if_pos ⟨he,hd,rfl⟩];rfl
     rcases jjv (ja4:=ja4) (binD:=binD) (d:=d) (w:=w) (c:=69) (by decide) (.inr (by decide)) neg with⟨h1,h2⟩ | h1
     ·rw[h1]
      have hxx:expZ w=none:=by
       cases hx:expZ w with
       | none=>rfl
       | some e=>
        have:=exp_last hx;cases w with
        | nil=>simp at h2
        | cons a t=>rw[jdx (by simp)]at h2;exact absurd h2 this
      rw[hxx];split<;>rfl
     ·rw[h1,e1]
    rw[hR];cases d with
    | nil=>
     rw[if_pos rfl,if_pos rfl];show(runP w .ded _).bind _=none;rw[jc6];rfl
    | cons a t=>
     rw[if_neg (by simp),if_pos rfl,if_neg (by simp),fin_exp hw ⟨rfl,rfl,rfl⟩]
   ·by_cases h66:c=66∧w=[]
    ·obtain⟨rfl,rfl⟩:=h66;cases d with
     | nil=>rfl
     | cons a t=>
      rw[if_neg (by simp),if_neg (by decide),if_pos ⟨rfl,rfl⟩];unfold bodR;rw[if_pos ⟨by simp,List.getLast?_concat⟩];have e1:((a::t)++ [66]).dropLast=a::t:=List.dropLast_concat;have e2:((a::t)++ [(66:Int)]).length-1=(a::t).length:=by simp
      rw[e1,e2];show finP ja4 binD _=_;rw[finP,if_pos rfl]
    ·have hor:w≠ []∨c≠66:=by
      by_cases q:w=[]
      ·exact .inr fun e=>h66 ⟨e,q⟩
      ·exact .inl q
     rw[bod_bad hd hc h69 h46 hor];by_cases hs:(!d.isEmpty)=false
     ·rw[if_pos hs,jc6];rfl
     ·rw[if_neg hs,if_neg h69];by_cases hb:c=66
      ·have hw0:w≠ []:=fun q=>h66 ⟨hb,q⟩
       rw[if_pos ⟨hb,rfl⟩,jkg (hw32 hw0) hw0];rfl
      ·rw[if_neg (fun q=>hb q.1)];by_cases h32:c=32
       ·have hw0:w≠ []:=fun q=>hu (by subst q h32;simp)
        rw[if_pos h32,jkg (hw32 hw0) hw0];rfl
       ·rw[if_neg h32,jc6];rfl
theorem num_eq(hn:∀neg,ja4 neg [] 0=(false,[],0))(l:List Int):numP ja4 binD l=numR ja4 binD l:=by
 unfold numP numR;rw[run_lead];obtain⟨b,hb,e,hl⟩:=trR_spec (trL l)
 have hL:trL l≠ []→(trL l).head?≠some 32:=by
  intro _ q;have:=List.head?_dropWhile_not (p:=(· ==(32:Int))) (l:=l);unfold trL at q;rw[q]at this;simp at this
 rw[e,jhm b hb]
 have hh:(trR (trL l)).head?≠some 32:=by
  intro q
  have:(trL l).head?=some 32:=by
   rw[e];cases h:trR (trL l)with
   | nil=>rw[h]at q;cases q
   | cons a t=>rw[h]at q;exact q
  exact hL (fun z=>by rw[z]at this;cases this) this
 rw[←e];generalize trR (trL l)=u at*
 match u,hl,hh with
 | [],_,_=>
  show finP ja4 binD _=_;simp[finP,hn,sgnR]
 | c::t,hl,hh=>
  have hc:c≠32:=fun q=>hh (by rw[q];rfl)
  have ht:t.getLast?≠some 32:=by
   intro q;cases t with
   | nil=>cases q
   | cons a r=>exact hl (by rw[List.getLast?_cons_cons];exact q)
  rw[runP];by_cases h:c=43∨c=45
  ·have e:jca .beg {} c=(.bod false false,{neg:=decide (c=45)}):=by
    rw[jca,if_neg hc,if_pos h]
   rw[e];show(runP t (.bod false false) {neg:=decide (c=45)}).bind _=_;rw[run_body ht];rcases h with rfl | rfl<;>rfl
  ·have e:jca .beg {} c=jca (.bod false false) {} c:=by
    rw[jca,if_neg hc,if_neg h];rfl
   rw[e];have:=run_body (ja4:=ja4) (binD:=binD) hl false;rw[runP]at this;rw[this];unfold sgnR;split
   ·rename_i q;cases q
   ·rename_i q;cases q;exact absurd (.inr rfl) h
   ·rename_i q;cases q;exact absurd (.inl rfl) h
   ·rfl
end
end Go.Cv
end
section
namespace Go.Cv
def jmw(l:List Int):List Int:=l.dropWhile (· ==48)
def rep48(n:Nat):List Int:=List.replicate n 48
def intP(ds:List Int)(sc q:Int):List Int:=if sc≤q then jmw (ds++rep48 (q-sc).toNat)else jmw (ds.take (max (ds.length-(sc-q)) 0).toNat)
def plcZ(ds:List Int)(sc q:Int):List Int:=if ds=[]then []else ds++rep48 (q-sc).toNat
def plcR(ds:List Int)(sc q:Int):List Int:=(plcZ ds sc q).take ((plcZ ds sc q).length-max 0 (min ((plcZ ds sc q).length:Int) (sc-q))).toNat
theorem trim_rep:∀n,jmw (rep48 n)=[]
 | 0=>rfl
 | n+1=>by
  show List.dropWhile _ (48::rep48 n)=[]
  rw[List.dropWhile_cons_of_pos (p:=fun x=>x==48) (by decide)];exact trim_rep n
theorem trim_head{l:List Int}(h:l.head?≠some 48):jmw l=l:=by
 cases l with
 | nil=>rfl
 | cons c r=>
  show List.dropWhile _ (c::r)=c::r;rw[List.dropWhile_cons_of_neg (p:=fun x=>x==48)];intro q;exact h (congrArg some (eq_of_beq q))
theorem place_eq{ds:List Int}{sc q:Int}(h0:ds=[]→sc=0)(hh:ds.head?≠some 48):intP ds sc q=plcR ds sc q:=by
 unfold intP plcR plcZ;by_cases he:ds=[]
 ·subst he;rw[if_pos rfl];split
  ·rw[List.nil_append,trim_rep,List.take_nil]
  ·rw[List.take_nil,List.take_nil];rfl
 ·rw[if_neg he];split
  ·rename_i h;have e:((ds++rep48 (q-sc).toNat).length-max 0 (min ((ds++rep48 (q-sc).toNat).length:Int) (sc-q))).toNat=(ds++rep48 (q-sc).toNat).length:=by omega
   rw[e,List.take_of_length_le (Nat.le_refl _),trim_head];cases ds with
   | nil=>exact absurd rfl he
   | cons c r=>exact hh
  ·rename_i h;have e:(q-sc).toNat=0:=by omega
   rw[e,show rep48 0=[]from rfl,List.append_nil];have e2:(max ((ds.length:Int)-(sc-q)) 0).toNat=((ds.length:Int)-max 0 (min (ds.length:Int) (sc-q))).toNat:=by omega
   rw[e2];generalize ((ds.length:Int)-max 0 (min (ds.length:Int) (sc-q))).toNat=k;refine trim_head ?_;cases ds with
   | nil=>exact absurd rfl he
   | cons c r=>
    cases k with
    | zero=>simp
    | succ k=>exact hh
end Go.Cv
end
noncomputable section
namespace Go.Cx
open Go Go.Ab Go.Proofs Go.Shelf Go.Px
open Go.Fx (Ty Vl)
structure Nu where
 g:Bool
 d:Y
 c:Int
instance:Enc Nu where
 enc t:= .agg ⟨[.bool t.g,.string t.d,.int .i64 t.c]⟩
 dec | .agg ⟨[.bool g,.string d,.int .i64 c]⟩=>some ⟨g,d,c⟩ | _=>none
 dec_some:=by
  intro v a h;split at h
  ·cases h;rfl
  ·cases h
 plain_enc _:=rfl
theorem c154:jbw Tryz.prog 154:=cal Tryz.func154 (by kernel_rfl) (by kernel_rfl)
theorem c131:jbw Tryz.prog 131:=cal Tryz.func131 (by kernel_rfl) (by kernel_rfl)
theorem c55:jbw Tryz.prog 55:=cal Tryz.func55 (by kernel_rfl) (by kernel_rfl)
theorem c30:jbw Tryz.prog 30:=cal Tryz.func30 (by kernel_rfl) (by kernel_rfl)
theorem c29:jbw Tryz.prog 29:=cal Tryz.func29 (by kernel_rfl) (by kernel_rfl)
def tlZ(l:J)(c:Int):J:=l.dropWhile (· ==c)
def trZ(l:J)(c:Int):J:=(l.reverse.dropWhile (· ==c)).reverse
noncomputable def s154 (s t : Y) : Bool × Value := (oneB t && asc (bz t), .string (szO (tlZ (bz s) ((bz t).getD 0 0))))
theorem ok154:jao Tryz.prog 154 (sp2 s154):=jdu c154 fun s t hc w _=>by
 simp only[s154,jaf]at hc;obtain⟨c,h1,h2⟩:=jef hc.1;have hlt:c.toNat<128:=jd7 hc.2 0 c (by rw[h1];rfl);have e:Enc.enc t=Value.string ⟨#[c]⟩:=congrArg Value.string h1;rw[e];refine(Any.strings_TrimLeft_one Tryz.lays161 s c hlt w).mono fun e w' ⟨h3,h4⟩=>⟨?_,jcp h4⟩
 rw[h3,jg4];simp only[s154,Lib.trimLeftB,jc3,tlZ];rw[jex (q:=(· ==(bz t).getD 0 0)) (fun b=>by rw[←h2,Bool.eq_iff_iff,beq_iff_eq,beq_iff_eq,jlq]),jm9]
noncomputable def s131 (s t : Y) : Bool × Value := (decide (s.size ≤ 9223372036854775807) && (oneB t && asc (bz t)), .string (szO (trZ (bz s) ((bz t).getD 0 0))))
theorem ok131:jao Tryz.prog 131 (sp2 s131):=jdu c131 fun s t hc w _=>by
 simp only[s131,jaf,jae]at hc;obtain⟨c,h1,h2⟩:=jef hc.2.1;have hlt:c.toNat<128:=jd7 hc.2.2 0 c (by rw[h1];rfl);have e:Enc.enc t=Value.string ⟨#[c]⟩:=congrArg Value.string h1;rw[e];refine(Any.strings_TrimRight_one Tryz.lays162 s c hlt w hc.1).mono fun e w' ⟨h3,h4⟩=>⟨?_,jcp h4⟩
 rw[h3,jg4];simp only[s131,Lib.trimRightB,jc3,trZ];rw[zl,List.map_reverse];have hq:∀b:UInt8,(b==c)=((b.toNat:Int)==(bz t).getD 0 0):=fun b=>by rw[←h2,Bool.eq_iff_iff,beq_iff_eq,beq_iff_eq,jlq]
 have:=jex (p:=(· ==c)) (q:=(· ==(bz t).getD 0 0)) hq s.data.toList.reverse;rw[zl,zl,List.map_reverse]at this;rw[this];rfl
noncomputable def s55 (s t : Y) : Bool × Value := (decide (s.size ≤ 9223372036854775807) && (decide (t.size ≤ 1000) && asc (bz t)), .string (szO (jb4 (bz s) (bz t))))
theorem ok55:jao Tryz.prog 55 (sp2 s55):=jdu c55 fun s t hc w _=>by
 simp only[s55,jaf,jae]at hc;obtain⟨h1,h2,h3⟩:=hc;refine(Any.strings_Trim_laid Tryz.lays160 ji8 s t w (by omega) (by omega) (jd7 h3)).mono fun e w' ⟨h5,h6⟩=>⟨?_,h6⟩
 rw[h5,jg4,trim_zl];simp only[s55,jc3];rfl
def s30(s:Y)(n:Int):Bool×Value:=(decide (0≤n∧n≤1000∧s.size≤1000),.string (szO (repZ (bz s) n.toNat)))
theorem ok30:jao Tryz.prog 30 (sp2 s30):=jdu c30 fun s n hc w _=>by
 obtain⟨h1,h2,h3⟩:=jab hc
 have e:Enc.enc n=Value.int .i64 (n.toNat:Int):=by
  show Value.int .i64 n=_;rw[Int.toNat_of_nonneg h1]
 rw[e];have hm:s.size*n.toNat≤1000*1000:=Nat.mul_le_mul h3 (by omega);refine(Any.strings_Repeat Tryz.lays105 Tryz.Builder_Extra_105 s n.toNat w (by omega) (by omega)).mono fun e w' ⟨h4,h5⟩=>⟨?_,h5⟩
 rw[h4,jg4,jl0];simp only[s30,jc3];rfl
def itoZ(n:Int):J:=zl (Lib.itoa n)
def s29(n:Int):Bool×Value:=(decide (-9223372036854775808≤n∧n≤9223372036854775807),.string (szO (itoZ n)))
theorem ok29:jao Tryz.prog 29 (sp1 s29):=shelf1 c29 fun n hc w ht=>by
 obtain⟨h0,h1⟩:=jab hc;refine(Any.strconv_Itoa (ρ:=Tryz.laysM171_ren) Tryz.laysM171 n h0 h1 w (tab_pow ht)).mono fun e w' ⟨h2,k,os,h3⟩=>⟨?_,by rw[h3];exact Lib.below_grow _ _ (Nat.le_refl _) _ _⟩
 rw[h2,jg4];simp only[s29,jc3];rfl
end Go.Cx
end
noncomputable section
set_option maxHeartbeats 3200000
namespace Go.Cx
open Go Go.Ab Go.Proofs Go.Shelf Go.Px Go.Cv
open Go.Fx (Ty Vl check jbd most base pw bnd Fit fits tv vv tup V0 T0 jbe jbh ja6 jbt str0)
def G0:Env:=Env.nil
theorem ok_G0:jax Tryz.prog G0:=jan
theorem dropW0(l:J):List.drop (Int.toNat 0) l=l:=rfl
def binG:J→Int→Int
 | [],a=>a
 | c::r,a=>binG r (2*a+(c-48))
theorem w8s{c:Int}(h:48≤c∧c<256):IntKind.wrap .u8 (c-48)=c-48:=w8 (by omega)
theorem bit_cases{s:Y}{i:Nat}(h:i<s.size)(hb:jco (bz s)=true):jaj s i=48∨jaj s i=49:=by
 have hl:i<(bz s).length:=by rw[jap];exact h
 have e:jaj s i=(bz s)[i]:=by rw[jen,List.getD_eq_getElem?_getD,List.getElem?_eq_getElem hl];rfl
 rw[jco,List.all_eq_true]at hb;have:=hb (bz s)[i] (List.getElem_mem hl);rw[e];simpa using this
theorem dig_cases{s:Y}{i:Nat}(h:i<s.size)(hb:jbm (bz s)=true):48≤jaj s i∧jaj s i≤57:=by
 have hl:i<(bz s).length:=by rw[jap];exact h
 have e:jaj s i=(bz s)[i]:=by rw[jen,List.getD_eq_getElem?_getD,List.getElem?_eq_getElem hl];rfl
 rw[jbm,List.all_eq_true]at hb;have:=hb (bz s)[i] (List.getElem_mem hl);rw[e];simpa[dig]using this
theorem bz_slice1{s:Y}:bz (s.extract 1 s.size)=(bz s).drop 1:=by
 rw[jcb,List.take_of_length_le (by rw[jap];omega)]
theorem jie{s:Y}(n:Nat):bz (s.extract 0 n)=(bz s).take n:=by rw[jcb];rfl
theorem ex_size(s:Y)(i j:Nat):(s.extract i j).size=min j s.size-i:=ByteArray.size_extract
theorem jcv(s:Y):(s.toList==(ByteArray.mk #[]).toList)=decide (bz s=[]):=by
 rw[jcd];rfl
def s152(c:U8):Bool×Value:=(true,B (c.n==32))
theorem fn152:Fn1 Tryz.prog 152 Tryz.f152:= .m Tryz.func152
theorem v152(c:U8)(R:Value→Prop):ja1 Tryz.prog G0 noL Tryz.f152 [Enc.enc c] (fun _=>none) 0 (fun v _ _=>R v)=(R (B (U8.n c==32))):=by kernel_rfl
theorem ok152:jao Tryz.prog 152 (sp1 s152):=by
 refine jb8 ok_G0 hmix fn152 jai jag fun c hc=> ?_
 rw[ja2,v152]
 try dsimp only[s152]
def s213(c:U8):Bool×Value:=(true,B (dig c.n))
theorem fn213:Fn1 Tryz.prog 213 Tryz.f213:= .m Tryz.func213
theorem v213(c:U8)(R:Value→Prop):ja1 Tryz.prog G0 noL Tryz.f213 [Enc.enc c] (fun _=>none) 0 (fun v _ _=>R v)=(bif decide (U8.n c≥48) || true then R (B (decide (U8.n c≥48) &&decide (U8.n c≤57)))else False):=by kernel_rfl
theorem ok213:jao Tryz.prog 213 (sp1 s213):=by
 refine jb8 ok_G0 hmix fn213 jai jag fun c hc=> ?_
 rw[ja2,v213]
 try dsimp only[s213]
 refine c_t (by simp) ?_;show Value.bool _=Value.bool _;congr 1;rw[Bool.eq_iff_iff];simp[dig]
def s141(k:Int):Bool×Value:=(true,I (most k))
theorem fn141:Fn1 Tryz.prog 141 Tryz.f141:= .m Tryz.func141
theorem v141(k:Int)(R:Value→Prop):ja1 Tryz.prog G0 noL Tryz.f141 [Enc.enc k] (fun _=>none) 0 (fun v _ _=>R v)=(bif k==1 then R (I 9)else R (I 31)):=by kernel_rfl
theorem ok141:jao Tryz.prog 141 (sp1 s141):=by
 refine jb8 ok_G0 hmix fn141 jai jag fun k hc=> ?_
 rw[ja2,v141]
 try dsimp only[s141]
 repeat' apply cond_intro<;>intro h
 all_goals grind [s141,most]
def s208(k:Int):Bool×Value:=(true,I (base k))
theorem fn208:Fn1 Tryz.prog 208 Tryz.f208:= .m Tryz.func208
theorem v208(k:Int)(R:Value→Prop):ja1 Tryz.prog G0 noL Tryz.f208 [Enc.enc k] (fun _=>none) 0 (fun v _ _=>R v)=(bif k==1 then R (I 10)else R (I 2)):=by kernel_rfl
theorem ok208:jao Tryz.prog 208 (sp1 s208):=by
 refine jb8 ok_G0 hmix fn208 jai jag fun k hc=> ?_
 rw[ja2,v208]
 try dsimp only[s208]
 repeat' apply cond_intro<;>intro h
 all_goals grind [s208,base]
def G1:Env:=Env.nil.add 141 (sp1 s141)
theorem ok_G1:jax Tryz.prog G1:=jak jan ok141
def s66(t:Ty):Bool×Value:=(true,I (check t))
theorem fn66:Fn1 Tryz.prog 66 Tryz.f66:= .m Tryz.func66
def cv(a:Fx.Ty)(b:Int):Bool:=Fx.Ty.k a==b
def pg(b:Bool)(a:Fx.Ty):Bool:=decide (Fx.Ty.p a>Fx.most (Fx.Ty.k a)) || (a7 (Fx.Ty.q a) 0 || (decide (Fx.Ty.q a>Fx.Ty.p a) || bk (cv a 2) (Fx.Ty.q a !=0 || (Fx.Ty.v a || b)) (Fx.Ty.v a || b)))
theorem v66(t:Ty)(R:Value→Prop):ja1 Tryz.prog G1 noL Tryz.f66 [Enc.enc t] (fun _=>none) 0 (fun v _ _=>R v)=(gu (!cv t 1) (!cv t 2 || (a7 (Fx.Ty.p t) 1 || pg true t)) (a7 (Fx.Ty.p t) 1 || pg true t) (bk (!cv t 1) (!cv t 2 || (a7 (Fx.Ty.p t) 1 || pg (!d4 (Fx.Ty.s t) a8) t)) (a7 (Fx.Ty.p t) 1 || pg (!d4 (Fx.Ty.s t) a8) t)) (R (ak 5)) (R (ak 0))):=by kernel_rfl
theorem ok66:jao Tryz.prog 66 (sp1 s66):=by
 refine jb8 ok_G1 hmix fn66 jai jag fun t hc=> ?_
 rw[ja2,v66];delta ar gu ak bk cv a7 pg d4 a8
 try dsimp only[s66]
 repeat' apply cond_intro<;>intro h
 all_goals grind [s66,check,jbd,str0]
def s142(t:Ty):Bool×Value:=(true,I (check t))
theorem fn142:Fn1 Tryz.prog 142 Tryz.f142:= .m Tryz.func142
theorem v142(t:Ty)(R:Value→Prop):ja1 Tryz.prog G1 noL Tryz.f142 [Enc.enc t] (fun _=>none) 0 (fun v _ _=>R v)=(az (Fx.Ty.v t) true (Fx.Ty.v t || !d4 (Fx.Ty.s t) a8) (R (ak 5)) (gu (cv t 1) (nf (decide (Fx.Ty.q t≥0)) (Fx.Ty.p t)) true (cv t 1&& (decide (Fx.Ty.p t≥1) && (decide (Fx.Ty.p t≤9) &&fq (Fx.Ty.q t) 0 (Fx.Ty.p t)))) (R (ak 0)) (bif bk (cv t 2) (bif decide (Fx.Ty.p t≥1)then decide (Fx.Ty.p t≤31) || true else true) true then f0 (cv t 2&& (decide (Fx.Ty.p t≥1) && (decide (Fx.Ty.p t≤31) &&Fx.Ty.q t==0))) (ak 0) (ak 5) R else False))):=by kernel_rfl
theorem ok142:jao Tryz.prog 142 (sp1 s142):=by
 refine jb8 ok_G1 hmix fn142 jai jag fun t hc=> ?_
 rw[ja2,v142];delta ar az gu f0 ak cv bk fq nf d4 a8
 try dsimp only[s142]
 repeat' apply cond_intro<;>intro h
 all_goals grind [s142,check,jbd,str0,most]
def G2:Env:=(Env.nil.add 66 (sp1 s66)).add 142 (sp1 s142)
theorem ok_G2:jax Tryz.prog G2:=jak (jak jan ok66) ok142
def s85(t:Ty):Bool×Value:=(true,B (decide (jbd t)))
theorem fn85:Fn1 Tryz.prog 85 Tryz.f85:= .m Tryz.func85
theorem v85(t:Ty)(R:Value→Prop):ja1 Tryz.prog G2 noL Tryz.f85 [Enc.enc t] (fun _=>none) 0 (fun v _ _=>R v)=(R (B (check t==0))):=by kernel_rfl
theorem ok85:jao Tryz.prog 85 (sp1 s85):=by
 refine jb8 ok_G2 hmix fn85 jai jag fun t hc=> ?_
 rw[ja2,v85]
 try dsimp only[s85]
 show Value.bool _=Value.bool _;congr 1;rw[check];split<;>simp_all
def s68(t:Ty):Bool×Value:=(true,B (decide (jbd t)))
theorem fn68:Fn1 Tryz.prog 68 Tryz.f68:= .m Tryz.func68
theorem v68(t:Ty)(R:Value→Prop):ja1 Tryz.prog G2 noL Tryz.f68 [Enc.enc t] (fun _=>none) 0 (fun v _ _=>R v)=(R (B (check t==0))):=by kernel_rfl
theorem ok68:jao Tryz.prog 68 (sp1 s68):=by
 refine jb8 ok_G2 hmix fn68 jai jag fun t hc=> ?_
 rw[ja2,v68]
 try dsimp only[s68]
 show Value.bool _=Value.bool _;congr 1;rw[check];split<;>simp_all
def V178_0:Int×Int×Int×Int×Int→E:=fun(b,k,r,x,i)=> [I b,I k,I r,I x,I i]
def B178_0:Int×Int×Int×Int×Int→O:=fun _=> []
def S178_0:LSpec (Int×Int×Int×Int×Int) where
 live:=[0,1,4,5,6]
 mid:=[]
 n:=40
 dec vs bs:=match vs,bs with | [.int .i64 b,.int .i64 k,.int .i64 r,.int .i64 x,.int .i64 i],[]=>some (b,k,r,x,i) | _,_=>none
 pre:=fun(b,k,r,x,i)=>decide (0≤i∧i≤max k 0∧k≤1000) &&x==IntKind.i64.wrap (pw b i)
 fin:=fun(b,k,r,x,i) Z=>Z (.exit 0) [I b,I k,I r,I (IntKind.i64.wrap (pw b k)),I (max k 0)] []
theorem r178_0(b:Int)(k:Int)(r:Int)(x:Int)(i:Int)(jk:Tmps)(R:Exit→E→O→Prop):(jbv Tryz.prog G2 noL Tryz.f178.ntmps (ja9 Tryz.f178 0) (tl S178_0.live (V178_0 (b,k,r,x,i)) jk) (ml S178_0.mid (B178_0 (b,k,r,x,i))) S178_0.n fun e t' m' _=>R e (List.map t' S178_0.live) (List.map m' S178_0.mid))=(bif b7 i k then R .normal [ak b,ak k,ak r,jv (x*b),ay i] []else R (.exit 0) (ak b::ak k::ak r::bw x i) []):=by kernel_rfl
theorem l178_0:LOKf Tryz.prog (oneL 0 S178_0.h) Tryz.f178:=by
 refine jbo (h:=S178_0.h) (by kernel_rfl) (jbl ok_G2 hmix (by kernel_rfl) (ja7 _) S178_0 V178_0 B178_0 (fun(b,k,r,x,i)=>(k-i).toNat) ?_ ?_ ?_)
 ·intro vs bs s h;simp only[S178_0]at h;split at h
  all_goals first | (cases h;exact⟨rfl,rfl⟩) | cases h | (split at h<;>first | (rename_i hq;cases h;have hq:=jah hq;subst hq;exact⟨rfl,rfl⟩) | cases h)
 ·exact fun _ _ _ h=>h
 ·intro⟨b,k,r,x,i⟩ jk Z hp hf;rw[r178_0];delta ak bw aw ay jv b7;simp only[S178_0]at hp hf
  repeat' apply cond_intro<;>intro h
  ·have h:=jab h;simp only[jaf,jae,beq_iff_eq]at hp;have hw:IntKind.i64.wrap (i+1)=i+1:=w64 (by omega);refine⟨(b,k,r,IntKind.i64.wrap (x*b),i+1),by rw[hw];rfl,rfl,?_,by simp only;omega,hf⟩;simp only[S178_0,jaf,jae,beq_iff_eq];exact⟨by omega,by rw[hp.2,ja6,jbh b hp.1.1]⟩
  ·have h:=jac h;simp only[jaf,jae,beq_iff_eq]at hp;show Z _ _ _;obtain rfl:i=max k 0:=by omega
   rw[hp.2];rcases Int.le_total k 0 with hk | hk
   ·rw[show max k 0=0 by omega]at hp ⊢;rw[jbe b hk,←jbe b (Int.le_refl 0)]at hf;rw[show max k 0=0 by omega]at hf;exact hf
   ·rw[show max k 0=k by omega]at hf ⊢;exact hf
def s178(b:Int)(k:Int):Bool×Value:=(decide (k≤1000),I (IntKind.i64.wrap (pw b k)))
theorem fn178:Fn1 Tryz.prog 178 Tryz.f178:= .m Tryz.func178
theorem v178(b:Int)(k:Int)(R:Value→Prop):ja1 Tryz.prog G2 (oneL 0 S178_0.h) Tryz.f178 [Enc.enc b,Enc.enc k] (fun _=>none) 0 (fun v _ _=>R v)=(jj (S178_0.pre (b,(k,((0:Int),((1:Int),(0:Int)))))) (jv (Fx.pw b k)) R):=by kernel_rfl
theorem ok178:jao Tryz.prog 178 (sp2 s178):=by
 refine jct ok_G2 hmix fn178 l178_0 jag fun b k hc=> ?_
 rw[ja2,v178];delta jj jv;have hc:(k≤1000):=jab hc
 try dsimp only[s178]
 refine cond_intro (fun _ _=>rfl) (fun h=> ?_);have h1:IntKind.i64.wrap (pw b 0)=1:=by rw[jbe b (Int.le_refl 0)];rfl
 simp only[S178_0,h1,Bool.and_eq_false_iff,decide_eq_false_iff_not,beq_eq_false_iff_ne]at h;omega
def G3:Env:=(Env.nil.add 208 (sp1 s208)).add 178 (sp2 s178)
theorem ok_G3:jax Tryz.prog G3:=jak (jak jan ok208) ok178
def s148(t:Ty):Bool×Value:=(decide (t.p≤1000),I (IntKind.i64.wrap (bnd t)))
theorem fn148:Fn1 Tryz.prog 148 Tryz.f148:= .m Tryz.func148
theorem v148(t:Ty)(R:Value→Prop):ja1 Tryz.prog G3 noL Tryz.f148 [Enc.enc t] (fun _=>none) 0 (fun v _ _=>R v)=(cu (decide (Fx.Ty.p t≤1000)) (jv (Fx.pw (Fx.base (Fx.Ty.k t)) (Fx.Ty.p t))) R):=by kernel_rfl
theorem ok148:jao Tryz.prog 148 (sp1 s148):=by
 refine jb8 ok_G3 hmix fn148 jai jag fun t hc=> ?_
 rw[ja2,v148];delta cu jv;have hc:(t.p≤1000):=jab hc
 try dsimp only[s148]
 exact c_t (jaa hc) rfl
def V74_0:Y×Bool×Int→E:=fun(s,b,i)=> [S s,B b,I i]
def B74_0:Y×Bool×Int→O:=fun _=> []
def S74_0:LSpec (Y×Bool×Int) where
 live:=[0,2,3]
 mid:=[]
 n:=60
 dec vs bs:=match vs,bs with | [.string s,.bool b,.int .i64 i],[]=>some (s,b,i) | _,_=>none
 pre:=fun(s,b,i)=>decide (0≤i∧i≤s.size∧s.size≤9223372036854775807)
 fin:=fun(s,b,i) Z=>(bif jco ((bz s).drop i.toNat)then Z (.exit 0) [S s,B b,I s.size] []else(∀i',Z .ret [S s,B false,I i'] []))
theorem r74_0(s:Y)(b:Bool)(i:Int)(jk:Tmps)(R:Exit→E→O→Prop):(jbv Tryz.prog G3 noL Tryz.f74.ntmps (ja9 Tryz.f74 0) (tl S74_0.live (V74_0 (s,b,i)) jk) (ml S74_0.mid (B74_0 (s,b,i))) S74_0.n fun e t' m' _=>R e (List.map t' S74_0.live) (List.map m' S74_0.mid))=(mj (j7 (k8 s i) true s s i i) (k8 s i&&bu s i !=49) s s R i [] [] (B false) (ak i) (B b) (ay i) (ak i)):=by kernel_rfl
theorem l74_0:LOKf Tryz.prog (oneL 0 S74_0.h) Tryz.f74:=by
 refine jbo (h:=S74_0.h) (by kernel_rfl) (jbl ok_G3 hmix (by kernel_rfl) (ja7 _) S74_0 V74_0 B74_0 (fun(s,b,i)=>(s.size-i).toNat) ?_ ?_ ?_)
 ·intro vs bs s h;simp only[S74_0]at h;split at h
  all_goals first | (cases h;exact⟨rfl,rfl⟩) | cases h | (split at h<;>first | (rename_i hq;cases h;have hq:=jah hq;subst hq;exact⟨rfl,rfl⟩) | cases h)
 ·exact fun _ _ _ h=>h
 ·intro⟨s,b,i⟩ jk Z hp hf;rw[r74_0];delta ko a7 aq mj ak aw ay bu k8 bk bp j7;simp only[S74_0]at hp hf;simp only[jae]at hp;apply cond_intro<;>intro h
  ·have h:=jab h;rw[jb7 hp.1 h,jco,List.all_cons]at hf;refine c_t (by rw[jaa (show 0≤i∧i<(s.size:Int)by omega)];simp) ?_;apply cond_intro<;>intro hd
   ·have e:decide (jaj s i.toNat=48∨jaj s i.toNat=49)=false:=by rw[decide_eq_false_iff_not];simp at hd;omega
    rw[e]at hf;exact hf i
   ·have e:decide (jaj s i.toNat=48∨jaj s i.toNat=49)=true:=by rw[jae];simp at hd;omega
    rw[e,Bool.true_and]at hf;rw[w64 (by omega)];exact⟨(s,b,i+1),rfl,rfl,by simp only[S74_0,jae];omega,by simp only;omega,hf⟩
  ·have h:=jac h;rw[jcq (by omega)]at hf;obtain rfl:i=s.size:=by omega
   exact hf
def s74(s:Y):Bool×Value:=(decide (s.size≤9223372036854775807),B (jco (bz s)))
theorem fn74:Fn1 Tryz.prog 74 Tryz.f74:= .m Tryz.func74
theorem v74(s:Y)(R:Value→Prop):ja1 Tryz.prog G3 (oneL 0 S74_0.h) Tryz.f74 [Enc.enc s] (fun _=>none) 0 (fun v _ _=>R v)=(ib (Cx.S74_0.pre (s,(false,(0:Int)))) (jco (bq s 0)) (Tmps→R (B true)) (fu (fk R))):=by kernel_rfl
theorem ok74:jao Tryz.prog 74 (sp1 s74):=by
 refine jb8 ok_G3 hmix fn74 l74_0 jag fun s hc=> ?_
 rw[ja2,v74];delta ar ib fu fk bq;have hc:(s.size≤9223372036854775807):=jab hc
 try dsimp only[s74]
 refine c_t (by simp only[S74_0,jae];omega) ?_;rw[dropW0];refine cond_intro (fun h=> ?_) (fun h _=> ?_)
 ·rw[h];exact fun _=>rfl
 ·rw[h];exact fun _=>rfl
def s82(s:Y):Bool×Value:=(jco (bz s) &&decide (s.size≤64),C64 (binG (bz s) 0))
def G4:Env:=(Env.nil.add 142 (sp1 s142)).add 148 (sp1 s148)
theorem ok_G4:jax Tryz.prog G4:=jak (jak jan ok142) ok148
def nz(l:J):J:=trZ (tlZ l 48) 48
def ja4(g:Bool)(l:J)(q:Int):Num:=if nz l=[]then(false,[],0)else(g,nz l,q-((tlZ l 48).length-(nz l).length))
def binD(l:J):J:=decZ (binG l 0)
def decG:J→Int→Int
 | [],a=>a
 | c::r,a=>decG r (10*a+(c-48))
abbrev numV(x:Num):Value:= .agg ⟨[.bool x.1,.string (szO x.2.1),.int .i64 x.2.2]⟩
def num0:Num:=(false,[],0)
def rdN(l:J):Option Num:=if 255<l.length then none else numR ja4 binD l
theorem tl_cons(c:Int)(l:J):tlZ (c::l) c=tlZ l c:=by simp[tlZ]
theorem tl_ne{c d:Int}(h:d≠c)(l:J):tlZ (d::l) c=d::l:=by simp[tlZ,h]
theorem jlx(l:J)(c:Int):(trZ l c).length≤l.length:=by
 rw[trZ,List.length_reverse];exact Nat.le_trans (List.dropWhile_sublist _).length_le (by rw[List.length_reverse];omega)
theorem jk6(l:J)(c:Int):(tlZ l c).length≤l.length:=(List.dropWhile_sublist _).length_le
theorem trL_eq(l:J):trL l=tlZ l 32:=rfl
theorem trR_eq(l:J):trR l=trZ l 32:=rfl
theorem bz_last{s:Y}{n:Int}(h:(s.size:Int)=n+1)(h0:0≤n):bz s=bz (s.extract 0 n.toNat)++ [jaj s n.toNat]:=by
 have e:=List.take_append_drop n.toNat (bz s);have d:=jb7 (s:=s) (i:=n) h0 (by omega);rw[jcq (s:=s) (i:=n+1) (by omega)]at d;rw[jie,←d,e]
theorem bz_head{s:Y}(h:0<s.size):bz s=jaj s 0::bz (s.extract 1 s.size):=by
 rw[bz_slice1];exact jb7 (s:=s) (i:=0) (by omega) (by omega)
theorem bz_nil{s:Y}(h:s.size=0):bz s=[]:=List.length_eq_zero_iff.1 (by rw[jap];exact h)
theorem jcy(l:J):(szO l).size=l.length:=by rw[jc3,jcr]
def s79(s:Y):Bool×Value:=(decide (s.size≤9223372036854775807),S (szO (trZ (tlZ (bz s) 32) 32)))
def s80(g:Bool)(s:Y)(q:Int):Bool×Value:=(decide (s.size≤1000∧ -100000≤q∧q≤100000),numV (ja4 g (bz s) q))
theorem jjp:∀(l:J)(a:Int),decG l a=l.foldl (fun a c=>10*a+(c-48)) a
 | [],_=>rfl
 | c::l,a=>jjp l _
def s73(v:Vl)(t:Ty):Bool×Value:=(true,I (Fx.fits v t))
theorem fn73:Fn1 Tryz.prog 73 Tryz.f73:= .m Tryz.func73
theorem v73(v:Vl)(t:Ty)(R:Value→Prop):ja1 Tryz.prog G4 noL Tryz.f73 [Enc.enc v,Enc.enc t] (fun _=>none) 0 (fun v _ _=>R v)=(bif Fx.check t !=0 then R (I (Fx.check t))else az (!d4 (Fx.Vl.s v) a8) (decide (Fx.Ty.p t≤1000) && (decide (Fx.Vl.n v≥IntKind.i64.wrap (Fx.bnd t)) || decide (Fx.Ty.p t≤1000) &&true)) (!d4 (Fx.Vl.s v) a8 || (decide (Fx.Vl.n v≥IntKind.i64.wrap (Fx.bnd t)) || decide (Fx.Vl.n v≤b8 0 (IntKind.i64.wrap (Fx.bnd t))))) (R (ak 6)) (R (ak 0))):=by kernel_rfl
theorem ok73:jao Tryz.prog 73 (sp2 s73):=by
 refine jct ok_G4 hmix fn73 jai jag fun v t hc=> ?_
 rw[ja2,v73];delta ar az ak b8 d4 a8
 try dsimp only[s73]
 rw[str0];by_cases hv:jbd t
 ·obtain⟨h1,h2,h3,h4⟩:=Fx.valid_r hv;have hb:=Fx.bnd_range hv;have hc:check t=0:=if_pos hv;rw[hc,w64 (n:=bnd t) (by omega),w64 (n:=0-bnd t) (by omega),jaa (show t.p≤1000 by omega)];refine c_f rfl (c_t (by simp) ?_);unfold Fx.fits;rw[if_pos hv];apply cond_intro<;>intro h
  ·rw[if_neg];intro hf;unfold Fit at hf;simp[hf.1]at h;omega
  ·rw[if_pos];unfold Fit;simp at h;grind
 ·have hc:check t=5:=if_neg hv;rw[hc];refine c_t rfl ?_;unfold Fx.fits;rw[if_neg hv]
def chk4(t:Ty):Int:=if jbd t then 0
 else if t.k=3∧t.q=0∧bz t.s=[]∧0≤t.p∧t.p≤255 then 0
 else if t.k=4∧t.q=0∧bz t.s=[]∧t.v=false∧0≤t.p∧t.p≤64 then 0
 else if t.k=5∧t.p=0∧t.q=0∧t.v=false∧pE (bz t.s)=0 then 0
 else if t.k=6∧t.q=0∧bz t.s=[]∧t.p=0∧t.v=false then 0 else 5
def is4(v:Vl)(t:Ty):Bool:=
 if t.k=1∨t.k=2 then Fx.fits v t==0
 else if t.k=3 then decide (v.n=0∧((v.s.size:Int)=t.p∨t.v=true∧(v.s.size:Int)<t.p))
 else if t.k=4 then decide (v.n=0∧(v.s.size:Int)=t.p) &&jco (bz v.s)
 else if t.k=5 then decide (v.n=0) &&hoZ (bz t.s) (bz v.s)
 else decide (bz v.s=[]∧0≤v.n∧v.n≤524288)
def fit4(v:Vl)(t:Ty):Int:=if chk4 t≠0 then chk4 t else if is4 v t=true then 0 else 6
def G30:Env:=(Env.nil.add 68 (sp1 s68)).add 69 (sp1 Px.s48)
theorem ok_G30:jax Tryz.prog G30:=jak (jak jan ok68) Px.ok48
def s21(t:Ty):Bool×Value:=(decide (t.s.size≤9223372036854775807),I (chk4 t))
theorem fn21:Fn1 Tryz.prog 21 Tryz.f21:= .m Tryz.func21
def nl(a:Fx.Ty):Bool:=Fx.Ty.q a==0&&d4 (Fx.Ty.s a) a8
theorem v21(t:Ty)(R:Value→Prop):ja1 Tryz.prog G30 noL Tryz.f21 [Enc.enc t] (fun _=>none) 0 (fun v _ _=>R v)=(bif decide (Fx.jbd t)then R (ak 0)else az (Fx.Ty.q t==0) true (cv t 3) (gu (nl t) (jc (Fx.Ty.p t) 0) true (nl t&&fq (Fx.Ty.p t) 0 255) (R (ak 0)) (R (ak 5))) (bif cv t 4 then gu (nl t) (bk (!Fx.Ty.v t) (jc (Fx.Ty.p t) 0) true) true (nl t&& (!Fx.Ty.v t&&fq (Fx.Ty.p t) 0 64)) (R (ak 0)) (R (ak 5))else bif cv t 5 then gu (Fx.Ty.p t==0) (bk (Fx.Ty.q t==0) (bif !Fx.Ty.v t then cm (Fx.Ty.s t) &&true else true) true) true (Fx.Ty.p t==0&& (Fx.Ty.q t==0&& (!Fx.Ty.v t&&pE (bz (Fx.Ty.s t))==0))) (R (ak 0)) (R (ak 5))else bif cv t 6 then gu (nl t) (Fx.Ty.p t==0 || true) true (nl t&& (Fx.Ty.p t==0&& !Fx.Ty.v t)) (R (ak 0)) (R (ak 5))else R (ak 5))):=by kernel_rfl
theorem ok21:jao Tryz.prog 21 (sp1 s21):=by
 refine jb8 ok_G30 hmix fn21 jai jag fun t hc=> ?_
 rw[ja2,v21];delta ar az ak gu d4 a8 nl cv bk cm fq jc;have hc:(t.s.size≤9223372036854775807):=jab hc
 try dsimp only[s21]
 rw[jcv];unfold chk4;by_cases hv:jbd t
 ·rw[if_pos hv];exact c_t (jaa hv) rfl
 rw[if_neg hv];refine c_f (jad hv) (c_t (Bool.or_true _) ?_);simp only[Bool.or_true,Bool.and_true,Bool.cond_self,jaa hc]
 repeat' apply cond_intro<;>intro h
 all_goals first | (exfalso;simp at h;done) | (congr 1;grind)
def G31:Env:=(((Env.nil.add 74 (sp1 s74)).add 73 (sp2 s73)).add 75 (sp2 Px.s25)).add 21 (sp1 s21)
theorem ok_G31:jax Tryz.prog G31:=jak (jak (jak (jak jan ok74) ok73) Px.ok25) ok21
def s23(v:Vl)(t:Ty):Bool×Value:=(decide (t.s.size≤9223372036854775807∧v.s.size≤9223372036854775807),I (fit4 v t))
theorem fn23:Fn1 Tryz.prog 23 Tryz.f23:= .m Tryz.func23
def rp(a b:Bool)(c:Value→Prop):Prop:=bif !(a&&b)then c (ak 6)else c (ak 0)
def o3(a b c:Bool)(d:Value→Prop):Prop:=bif bif a then b else true then rp a c d else False
def kz(b:Fx.Ty)(a:Fx.Vl)(c d:Nat):Bool:=iy (Fx.Vl.s a) (Fx.Ty.s b).size c d
def qi(d:Bool)(a:Fx.Ty)(b:Fx.Vl)(e:Prop)(c:Value→Prop):Prop:=bif cv a 3 then o3 (Fx.Vl.n b==0) (ep (Fx.Vl.s b)==Fx.Ty.p a || (Fx.Ty.v a || true)) (ep (Fx.Vl.s b)==Fx.Ty.p a || Fx.Ty.v a&&a7 (ep (Fx.Vl.s b)) (Fx.Ty.p a)) c else bif cv a 4 then o3 (Fx.Vl.n b==0) (bk (ep (Fx.Vl.s b)==Fx.Ty.p a) (d&&true) true) (ep (Fx.Vl.s b)==Fx.Ty.p a&&jco (bz (Fx.Vl.s b))) c else bif cv a 5 then o3 (Fx.Vl.n b==0) (kz a b 9223372036854775807 9223372036854775807&&true) (hoZ (bz (Fx.Ty.s a)) (bz (Fx.Vl.s b))) c else bif cv a 6 then o3 (d4 (Fx.Vl.s b) a8) (jc (Fx.Vl.n b) 0) (fq (Fx.Vl.n b) 0 524288) c else e
theorem v23(v:Vl)(t:Ty)(R:Value→Prop):ja1 Tryz.prog G31 noL Tryz.f23 [Enc.enc v,Enc.enc t] (fun _=>none) 0 (fun v _ _=>R v)=(du (chk4 t !=0) (Fx.Ty.s t) (R (I (chk4 t))) (bif cv t 1 then f0 (!Fx.fits v t==0) (ak 6) (ak 0) R else bif cv t 2 then f0 (!Fx.fits v t==0) (ak 6) (ak 0) R else qi (cm (Fx.Vl.s v)) t v (R (ak 6)) R)):=by kernel_rfl
theorem ok23:jao Tryz.prog 23 (sp2 s23):=by
 refine jct ok_G31 hmix fn23 jai jag fun v t hc=> ?_
 rw[ja2,v23];delta ar cm du ak rp o3 fq jc d4 a8 cv iy kz ep bk a7 qi f0;have hc:(t.s.size≤9223372036854775807∧v.s.size≤9223372036854775807):=jab hc
 try dsimp only[s23]
 rw[jcv];unfold fit4 is4;refine c_t (jaa hc.1) ?_
 have hk:chk4 t=0→t.k=1∨t.k=2∨t.k=3∨t.k=4∨t.k=5∨t.k=6:=fun h=>by
  unfold chk4 at h;have hv:jbd t→t.k=1∨t.k=2:=fun h=>h.1
  grind
 apply cond_intro<;>intro h
 ·rw[if_pos (by simpa using h)]
 have h0:chk4 t=0:=by simpa using h
 rw[if_neg (fun z=>z h0)];have hk:=hk h0;simp only[Bool.or_true,Bool.and_true,Bool.cond_self,jaa hc.2,jaa hc]
 repeat' apply cond_intro<;>intro h
 all_goals first | (exfalso;simp at h;done) | (congr 1;grind)
def H1:Env:=(Env.nil.add 154 (sp2 s154)).add 131 (sp2 s131)
theorem ok_H1:jax Tryz.prog H1:=jak (jak jan ok154) ok131
theorem isB_tl{l:J}(h:IsB l)(c:Int):IsB (tlZ l c):=fun x hx=>h x ((List.dropWhile_sublist _).subset hx)
theorem isB_tr{l:J}(h:IsB l)(c:Int):IsB (trZ l c):=fun x hx=>by
 rw[trZ,List.mem_reverse]at hx;exact h x (List.mem_reverse.1 ((List.dropWhile_sublist _).subset hx))
theorem jdf{l:J}(h:IsB l):bz (szO l)=l:=by rw[jc3,jdd h]
theorem jgk:szO []=⟨#[]⟩:=jc3 []
def dz(n:Int):J:=if n=0 then []else decZ n
theorem jkt{n:Int}(h:0<n):dz n=dz (n/10)++ [48+n%10]:=by
 obtain⟨k,rfl⟩:∃k:Nat,n=(k:Int):=⟨n.toNat,by omega⟩
 have hu:∀j:Nat,j<10→((UInt8.ofNat (48+j)).toNat:Int)=48+j:=fun j hj=>by rw[UInt8.toNat_ofNat'];omega
 rw[dz,if_neg (by omega),decZ,Int.toNat_natCast,Lib.decDigits];by_cases h1:k<10
 ·have e:(k:Int)/10=0:=by omega
  rw[dif_pos h1,dz,e,if_pos rfl,zl,List.map_cons,List.map_nil,hu k h1,List.nil_append];congr 1;omega
 ·have e:(k:Int)/10=((k/10:Nat):Int):=by omega
  rw[dif_neg h1,dz,e,if_neg (by omega),decZ,Int.toNat_natCast,zl,List.map_append,List.map_cons,List.map_nil,hu (k%10) (by omega)];rfl
theorem row_pre{d:E}{m cap:Nat}(h:RowP d m cap)(x:Int){tail:E}{cap':Nat}(ht:jay tail cap' (1+m) 1=true):
  RowP ([.int .u8 x]++d.take m++tail) (1+m) cap'∧zc ([.int .u8 x]++d.take m++tail) (1+m)=x::zc d m:=by
 obtain⟨t1,t2,t3,t4⟩:=je6 ht;have hz:=jba h;have:=jj0 (x::zc d m) (tail:=tail) (cap:=cap') t1 (by simp only[List.length_cons,hz];omega) t4;simp only[List.length_cons,hz]at this;rw[h.take,Nat.add_comm 1 m];exact this
def s77(g:Bool)(s:Y)(q:Int):Bool×Value:=(decide (s.size≤100000∧ -100000≤q∧q≤100000),numV (ja4 g (bz s) q))
theorem fn77:Fn1 Tryz.prog 77 Tryz.f77:= .m Tryz.func77
def mg(a:Y):Y:=szO (tlZ (bz a) (ja 48))
def jy(a:Bool)(b:Int)(c:Yb):Array Value:=⟨.bool a::g8 b c⟩
theorem v77(g:Bool)(s:Y)(q:Int)(R:Value→Prop):ja1 Tryz.prog H1 noL Tryz.f77 [Enc.enc g,Enc.enc s,Enc.enc q] (fun _=>none) 0 (fun v _ _=>R v)=(i7 (cm (mg s)) (oneB ⟨#[48]⟩ &&asc (bz ⟨#[48]⟩)) (l5 (trZ (bz (mg s)) (ja 48))) (R (.agg (jy false 0 []))) (R (.agg ⟨B g::ax (szO (trZ (bz (mg s)) (ja 48))) [] (I (b8 q (e7 (ep (mg s)) (ep (szO (trZ (bz (mg s)) (ja 48)))))))⟩))):=by kernel_rfl
theorem ok77:jao Tryz.prog 77 (sp3 s77):=by
 refine jki ok_H1 hmix fn77 jai jag fun g s q hc=> ?_
 rw[ja2,v77];delta ar i7 ax b8 e7 ep ja mg ak e8 g8 jy a8 l5 cm;have hc:(s.size≤100000∧ -100000≤q∧q≤100000):=jab hc
 try dsimp only[s77]
 have d:(bz ⟨#[48]⟩).getD 0 0=48:=rfl;have iA:IsB (tlZ (bz s) 48):=isB_tl (jd1 s) 48;have eA:bz (szO (tlZ (bz s) 48))=tlZ (bz s) 48:=jdf iA;have h1:=jk6 (bz s) 48;rw[jap]at h1;have h2:=jlx (tlZ (bz s) 48) 48;rw[d,eA,jcy];refine c_t (by rw[jaa (show(tlZ (bz s) 48).length≤9223372036854775807 by omega),Bool.true_and];kernel_rfl) ?_;rw[jcv,jdf (isB_tr iA 48),jcy];apply cond_intro<;>intro h
 ·have h:nz (bz s)=[]:=jab h;rw[ja4,if_pos h];show _=Value.agg ⟨[.bool false,.string (szO []),.int .i64 0]⟩;rw[jgk]
 ·have h:¬nz (bz s)=[]:=jac h;rw[ja4,if_neg h,w64 (n:=((tlZ (bz s) 48).length:Int)-(trZ (tlZ (bz s) 48) 48).length) (by omega),w64 (by omega)];rfl
def V78_0:Y×Y×Int×Int×Int→E:=fun(s,r,n,L,i)=> [S s,S r,C64 n,I L,I i]
def B78_0:Y×Y×Int×Int×Int→O:=fun _=> []
def S78_0:LSpec (Y×Y×Int×Int×Int) where
 live:=[0,2,3,7,8]
 mid:=[]
 n:=60
 dec vs bs:=match vs,bs with | [.string s,.string r,.int .u64 n,.int .i64 L,.int .i64 i],[]=>some (s,r,n,L,i) | _,_=>none
 pre:=fun(s,r,n,L,i)=>decide (0≤i∧i≤L∧L=s.size∧s.size≤64∧0≤n∧n<2^i.toNat) &&jco (bz s)
 fin:=fun(s,r,n,L,i) Z=>Z (.exit 0) [S s,S r,C64 (binG ((bz s).drop i.toNat) n),I L,I L] []
theorem r78_0(s:Y)(r:Y)(n:Int)(L:Int)(i:Int)(jk:Tmps)(R:Exit→E→O→Prop):(jbv Tryz.prog H1 noL Tryz.f78.ntmps (ja9 Tryz.f78 0) (tl S78_0.live (V78_0 (s,r,n,L,i)) jk) (ml S78_0.mid (B78_0 (s,r,n,L,i))) S78_0.n fun e t' m' _=>R e (List.map t' S78_0.live) (List.map m' S78_0.mid))=(bif b7 i L then b9 (bp s i) R [] (j0 s r (bv L i) (.int .u64 (dx (IntKind.u64.wrap (2*n)+IntKind.u64.wrap (IntKind.u8.wrap (bu s i-48))) .u64)))else R (.exit 0) (j0 s r (bw L i) (.int .u64 n)) []):=by kernel_rfl
theorem l78_0:∀t m n K,S78_0.h t m n K→Ab.Sem Tryz.prog Tryz.f78.ntmps (.loop (ja9 Tryz.f78 0)) t m n K:=by
 refine jbl ok_H1 hmix (by kernel_rfl) (ja7 _) S78_0 V78_0 B78_0 (fun(s,r,n,L,i)=>(s.size-i).toNat) ?_ ?_ ?_
 ·intro vs bs s h;simp only[S78_0]at h;split at h
  all_goals first | (cases h;exact⟨rfl,rfl⟩) | cases h | (split at h<;>first | (rename_i hq;cases h;have hq:=jah hq;subst hq;exact⟨rfl,rfl⟩) | cases h)
 ·exact fun _ _ _ h=>h
 ·intro⟨s,r,n,L,i⟩ jk Z hp hf;rw[r78_0];delta j0 ak bw b9 dx bu aw ay bv aq bp b7;simp only[S78_0]at hp hf;simp only[jaf,jae]at hp;obtain⟨hp,hb⟩:=hp;apply cond_intro<;>intro h
  ·have h:=jab h;rw[jb7 hp.1 (by omega),binG]at hf;refine c_t (jaa (by omega)) ?_;have hc:=bit_cases (s:=s) (i:=i.toNat) (by omega) hb
   have h2:(2:Int) ^ (i+1).toNat=2*2^i.toNat:=by
    rw[show(i+1).toNat=i.toNat+1 by omega,Int.pow_succ,Int.mul_comm]
   have h3:(2:Int) ^ (i+1).toNat≤2^64:=by
    have:(2:Nat) ^ (i+1).toNat≤2^64:=Nat.pow_le_pow_right (by omega) (by omega);have h':((2^ (i+1).toNat:Nat):Int)≤((2^64:Nat):Int):=Int.ofNat_le.2 this;simpa using h'
   have h4:(2:Int) ^64=18446744073709551616:=by decide
   rw[w64 (n:=i+1) (by omega),w8s (by omega),wu64 (n:=jaj s i.toNat-48) (by omega),wu64 (n:=2*n) (by omega),wu64 (by omega)];exact⟨(s,r,2*n+(jaj s i.toNat-48),L,i+1),rfl,rfl,by simp only[S78_0,jaf,jae];exact⟨by omega,hb⟩,by simp only;omega,hf⟩
  ·have h:=jac h;rw[jcq (by omega)]at hf;obtain rfl:i=L:=by omega
   exact hf
def V78_2:Int×Rw→E:=fun(n,o)=> [C64 n,o.v 200]
def B78_2:Int×Rw→O:=fun(n,o)=> [o.b]
def S78_2:LSpecA (Int×Rw) where
 live:=[3,5]
 mid:=[200]
 n:=210
 ap:=[(.tmp 5,200)]
 dec vs bs:=match vs,bs with
  | [.int .u64 n,.slice none 0 0],[none]=>some (n,.nil)
  | [.int .u64 n,.slice (some ⟨200,0,some 1⟩) m cap],[some ⟨d,5,true⟩]=>some (n,.own d m cap)
  | _,_=>none
 pre:=fun(n,o)=>o.ok&&decide (0≤n∧(o.is=true→o.z≠ [])∧o.z.length≤20∧n<10^ (20-o.z.length))
 fin:=fun(n,o) Z=>(dz n++o.z=[]→Z (.exit 2) [C64 0,.slice none 0 0] [none])∧(∀d' m' cap',jci d' m' cap'=true→zc d' m'=dz n++o.z→dz n++o.z≠ []→Z (.exit 2) [C64 0,.slice (some ⟨200,0,some 1⟩) m' cap'] [some ⟨d',5,true⟩])
theorem r78_2n(n:Int)(jk:Tmps)(R:Exit→E→O→Prop):(jbv Tryz.prog H1 noL Tryz.f78.ntmps (ja9 Tryz.f78 2) (tl S78_2.live (V78_2 (n,.nil)) jk) (ml S78_2.mid (B78_2 (n,.nil))) S78_2.n fun e t' m' _=>S78_2.out R e t' m')=(bif dy n 0 then∀a:Nat,∀b:E,cw b a (1+0)→mn R n 10 .u64 (jz (dx (48+n.tmod 10) .u64)::b) [] 218 (a9 200 1 a)else R (.exit 2) [.int .u64 n,jw] [none]):=by kernel_rfl
theorem r78_2o(n:Int)(d:E)(m:Nat)(cap:Nat)(jk:Tmps)(R:Exit→E→O→Prop):(jbv Tryz.prog H1 noL Tryz.f78.ntmps (ja9 Tryz.f78 2) (tl S78_2.live (V78_2 (n,.own d m cap)) jk) (ml S78_2.mid (B78_2 (n,.own d m cap))) S78_2.n fun e t' m' _=>S78_2.out R e t' m')=(d5 (dy n 0) (Nat.ble (0+m*1) d.length&& ((d.drop 0).take (m*1)).all jfz&&jbx (1+m) 1) (f9 d 200 200) (∀a:Nat,∀b:E,cw b a (1+m)→mn R n 10 .u64 (jz (dx (48+n.tmod 10) .u64)::((d.drop 0).take (m*1)++b)) [] 218 (a9 200 (1+m) a)) False (R (.exit 2) [.int .u64 n,a9 200 m cap] (ic d))):=by kernel_rfl
theorem l78_2:∀t m n K,S78_2.hA t m n K→Ab.Sem Tryz.prog Tryz.f78.ntmps (.loop (ja9 Tryz.f78 2)) t m n K:=by
 refine jbr ok_H1 hmix (by kernel_rfl) (ja7 _) S78_2 V78_2 B78_2 (fun(n,o)=>n.toNat) ?_ ?_ ?_
 ·intro vs bs s h;simp only[S78_2]at h;split at h
  all_goals first | (cases h;exact⟨rfl,rfl⟩) | cases h | (split at h<;>first | (rename_i hq;cases h;have hq:=jah hq;subst hq;exact⟨rfl,rfl⟩) | cases h)
 ·exact fun⟨n,o⟩ hp=>by
   simp only[S78_2,jaf]at hp;cases o with
   | nil=>simp[V78_2,B78_2,S78_2,ja0,jbz,idsL,ids,Rw.v,Rw.b]
   | own d m cap=>simp[V78_2,B78_2,S78_2,ja0,jbz,idsL,ids,Rw.v,Rw.b,jaq (jat.1 hp.1).plain]
 ·intro⟨n,o⟩ jk Z hp hf;simp only[S78_2]at hp hf;simp only[jaf,jae]at hp;obtain⟨hr,h0,his,h20,hlt⟩:=hp
  have hten:0<n→o.z.length<20∧n/10<10^ (20-(o.z.length+1)):=fun hn=>by
   rcases Nat.lt_or_ge o.z.length 20 with q | q
   ·refine⟨q,?_⟩;rw[show 20-o.z.length=(20-(o.z.length+1))+1 by omega,Int.pow_succ]at hlt;omega
   ·rw[show 20-o.z.length=0 by omega]at hlt;omega
  have hw:IntKind.u8.wrap (IntKind.u64.wrap (48+n.tmod 10))=48+n%10:=by
   rw[Int.tmod_eq_emod_of_nonneg h0,wu64 (by omega),w8 (by omega)]
  have hq:n<18446744073709551616*10→IntKind.u64.wrap (n.tdiv 10)=n/10:=fun h=>by
   rw[Int.tdiv_eq_ediv_of_nonneg h0,wu64 (by omega)]
  have h64:n<18446744073709551616*10:=by
   have:(10:Int) ^ (20-o.z.length)≤10^20:=by
    have:(10:Nat) ^ (20-o.z.length)≤10^20:=Nat.pow_le_pow_right (by omega) (by omega);have h':((10^ (20-o.z.length):Nat):Int)≤((10^20:Nat):Int):=Int.ofNat_le.2 this;simpa using h'
   have h5:(10:Int) ^20=100000000000000000000:=by decide
   omega
  cases o with
  | nil=>
   rw[r78_2n];delta jw b9 ie mn dv a9 jz dx cw dy;rw[hw,hq h64];apply cond_intro<;>intro h
   ·have h:n>0:=jab h;intro cap tail ht;obtain⟨g1,g2⟩:=jgl [48+n%10] (tail:=tail) (cap':=cap) ht;have g1:RowP (.int .u8 (48+n%10)::tail) 1 cap:=g1;have g2:zc (.int .u8 (48+n%10)::tail) 1=[48+n%10]:=g2;rw[g1.good,g1.rlb];refine c_t rfl ⟨(n/10,.own _ 1 cap),rfl,rfl,?_,by simp only;omega,?_⟩
    ·simp only[S78_2,jaf,jae];refine⟨jat.2 g1,by omega,?_⟩;simp only[Rw.z,g2];exact⟨fun _=>by simp,by simp,(hten h).2⟩
    ·have e:dz (n/10)++(Rw.own (.int .u8 (48+n%10)::tail) 1 cap).z=dz n++Rw.nil.z:=by
      rw[jkt h];simp only[Rw.z,g2,List.append_nil]
     simp only[S78_2];rw[e];exact hf
   ·have h:n=0:=by have:=jac h;omega
    subst h;exact hf.1 rfl
  | own d m cap=>
   rw[r78_2o];delta cq ar d5 ie ic dv a9 b9 mn jz dx cw f9 dy;rw[hw,hq h64];have hr:RowP d m cap:=jat.1 hr;have hzl:=jba hr;have hm:m≤20:=by rw[←hzl];exact h20
   apply cond_intro<;>intro h
   ·have h:n>0:=jab h
    refine c_t (by
     have e1:Nat.ble (0+m*1) d.length=true:=by rw[Nat.ble_eq];have:=hr.len;have:=hr.le;omega
     have e2:(List.take (m*1) (List.drop 0 d)).all jfz=true:=by
      rw[Nat.mul_one,List.drop_zero,hr.take];exact cz_cell _
     have e3:jbx (1+m) 1=true:=by simp only[jbx,jaf,Nat.ble_eq];omega
     rw[e1,e2,e3];rfl) fun cap1 tail ht=> ?_
    obtain⟨g1,g2⟩:=row_pre hr (48+n%10) ht;have g1:RowP (.int .u8 (48+n%10)::(List.take (m*1) (List.drop 0 d)++tail)) (1+m) cap1:=by rw[Nat.mul_one];exact g1
    have g2:zc (.int .u8 (48+n%10)::(List.take (m*1) (List.drop 0 d)++tail)) (1+m)=(48+n%10)::zc d m:=by rw[Nat.mul_one];exact g2
    rw[g1.good,g1.rlb];refine c_t rfl ⟨(n/10,.own _ (1+m) cap1),rfl,rfl,?_,by simp only;omega,?_⟩
    ·simp only[S78_2,jaf,jae];refine⟨jat.2 g1,by omega,?_⟩;simp only[Rw.z,g2,List.length_cons];exact⟨fun _=>by simp,by have:=(hten h).1;simp only[Rw.z]at this;omega,(hten h).2⟩
    ·have e:dz (n/10)++(Rw.own (.int .u8 (48+n%10)::(List.take (m*1) (List.drop 0 d)++tail)) (1+m) cap1).z=dz n++(Rw.own d m cap).z:=by
      rw[jkt h];simp only[Rw.z,g2,List.append_assoc,List.cons_append,List.nil_append]
     simp only[S78_2];rw[e];exact hf
   ·have h:n=0:=by have:=jac h;omega
    subst h;rw[hr.good,hr.rlb];refine c_t rfl ?_;exact hf.2 d m cap (jat.2 hr) rfl (his rfl)
theorem jms:∀(l:J)(a:Int),jco l=true→0≤a→0≤binG l a∧binG l a<(a+1)*2^l.length
 | [],a,_,h=>by simp[binG];omega
 | c::r,a,hb,h=>by
  simp only[jco,List.all_cons,jaf,jae]at hb;obtain⟨h1,h2⟩:=jms r (2*a+(c-48)) hb.2 (by omega);rw[binG];refine⟨h1,Int.lt_of_lt_of_le h2 ?_⟩;rw[List.length_cons,Int.pow_succ,Int.mul_comm (2^r.length) 2,←Int.mul_assoc];exact Int.mul_le_mul_of_nonneg_right (by omega) (Int.le_of_lt (Int.pow_pos (by omega)))
theorem jlo{l:J}(hb:jco l=true)(h:l.length≤64):0≤binG l 0∧binG l 0<18446744073709551616:=by
 obtain⟨h1,h2⟩:=jms l 0 hb (by omega);refine⟨h1,Int.lt_of_lt_of_le h2 ?_⟩;have:(2:Nat) ^l.length≤2^64:=Nat.pow_le_pow_right (by omega) h;have h':((2^l.length:Nat):Int)≤((2^64:Nat):Int):=Int.ofNat_le.2 this;have h4:(2:Int) ^64=18446744073709551616:=by decide
 simp at h';omega
theorem lok78:LOKf Tryz.prog (twoL 0 S78_0.h 2 S78_2.hA) Tryz.f78:=jga (by kernel_rfl) (by kernel_rfl) l78_0 l78_2
def s78(s:Y):Bool×Value:=(jco (bz s) &&decide (s.size≤64),S (szO (dz (binG (bz s) 0))))
theorem fn78:Fn1 Tryz.prog 78 Tryz.f78:= .m Tryz.func78
theorem v78(s:Y)(R:Value→Prop):ja1 Tryz.prog H1 (twoL 0 S78_0.h 2 S78_2.hA) Tryz.f78 [Enc.enc s] (fun _=>none) 0 (fun v _ _=>R v)=(bif S78_0.pre (s,(a8,((0:Int),(aq s,(0:Int)))))then Tmps→j9 (S78_2.toLSpec.pre (binG (bq s 0) 0,Rw.nil)) (Decidable.rec (fun a:Not (Eq (Cx.binG (List.drop (Int.toNat 0) (Px.bz s)) 0) 0)=>decZ (binG (bq s 0) 0)) (fun a:Eq (Cx.binG (List.drop (Int.toNat 0) (Px.bz s)) 0) 0=> []) ((binG (bq s 0) 0).instDecidableEq 0)++([]:J)=([]:J)→Tmps→R (S ByteArray.empty)) (∀a:E,∀b:Nat,∀c:Nat,jci a b c=true→zc a b=dz (binG (bq s 0) 0)++Rw.z Rw.nil→Decidable.rec (fun d:Not (Eq (Cx.binG (List.drop (Int.toNat 0) (Px.bz s)) 0) 0)=>decZ (binG (bq s 0) 0)) (fun d:Eq (Cx.binG (List.drop (Int.toNat 0) (Px.bz s)) 0) 0=> []) ((binG (bq s 0) 0).instDecidableEq 0)++([]:J)≠([]:J)→ik a 210 (cu (jbf a 0 b) (S (jbb a 0 b)) R))else False):=by kernel_rfl
theorem ok78:jao Tryz.prog 78 (sp1 s78):=by
 refine jb8 ok_H1 hmix fn78 lok78 jag fun s hc=> ?_
 rw[ja2,v78];delta j9 gm ik cu bq aq a8
 try dsimp only[s78]
 simp only[s78,jaf,jae]at hc;obtain⟨hb,hl⟩:=hc;obtain⟨b1,b2⟩:=jlo (l:=bz s) hb (by rw[jap];exact hl);refine c_t (by simp only[S78_0,jaf,jae];exact⟨by simp;omega,hb⟩) fun _=> ?_
 refine c_t ?_ ⟨fun hz _=> ?_,fun d' m' cap' hr hz hne=> ?_⟩
 ·simp only[S78_2,jaf,jae];refine⟨rfl,b1,⟨(fun h=>by cases h),⟨by simp[Rw.z],?_⟩⟩⟩;have h5:(10:Int) ^20=100000000000000000000:=by decide
  show binG (bz s) 0<10^20;omega
 ·have hz:dz (binG (bz s) 0)++ []=[]:=hz;rw[List.append_nil]at hz;rw[hz,jgk];rfl
 ·have hr:=jat.1 hr;have hz:zc d' m'=dz (binG (bz s) 0)++ []:=hz;rw[List.append_nil]at hz;refine c_t (by rw[jbi hr.plain];rfl) fun _=>c_t hr.str.1 ?_
  rw[hr.str.2,hz,jc3]
end Go.Cx
end
section
namespace Go.Cv
def je4:St→Bool
 | .ded=>true
 | _=>false
def runQ:List Int→St→Rd→Option (St×Rd)
 | [],st,r=>some (st,r)
 | c::l,st,r=>if je4 (jca st r c).1=true then none else runQ l (jca st r c).1 (jca st r c).2
theorem run_Q:∀(l:List Int)(st:St)(r:Rd),je4 st=false→runP l st r=(runQ l st r).bind fun x=>if endP x.1=true then some x.2 else none
 | [],st,r,_=>rfl
 | c::l,st,r,_=>by
  rw[runP,runQ];by_cases h:je4 (jca st r c).1=true
  ·rw[if_pos h];cases hs:(jca st r c).1 with
   | ded=>rw[jc6];rfl
   | _=>rw[hs]at h;cases h
  ·rw[if_neg h];exact run_Q l _ _ (by simpa using h)
section
variable {l : List Int} {r : Rd} {c : Int}
theorem q_beg1(h:c=32):runQ (c::l) .beg r=runQ l .beg r:=by simp[runQ,jca,h,je4]
theorem q_beg2(h:c=43∨c=45):runQ (c::l) .beg r=runQ l (.bod false false) {r with neg:=decide (c=45)}:=by
 have h1:¬c=32:=by omega
 simp[runQ,jca,h,h1,je4]
theorem q_beg3(h1:¬c=32)(h:¬(c=43∨c=45)):runQ (c::l) .beg r=runQ (c::l) (.bod false false) r:=by
 simp only[runQ,jca,if_neg h,if_neg h1];rfl
variable {s p : Bool}
theorem q_bod1(h:dig c=true):runQ (c::l) (.bod s p) r=runQ l (.bod true p) {r with ds:=r.ds++ [c],sc:=if p=true then r.sc+1 else r.sc}:=by
 simp[runQ,jca,bodN,h,je4]
theorem q_bod2(h:c=46):runQ (c::l) (.bod s false) r=runQ l (.bod s true) r:=by
 subst h;simp[runQ,jca,bodN,dig,je4]
theorem q_bod3(h:dig c=false)(h2:¬(c=46∧p=false)):runQ (c::l) (.bod false p) r=none:=by
 simp only[runQ,jca,bodN,h,h2];simp[je4]
theorem q_bod4(h:c=69):runQ (c::l) (.bod true p) r=runQ l (.exq false 0) r:=by
 subst h;simp[runQ,jca,bodN,dig,je4]
theorem q_bod5(h:c=66):runQ (c::l) (.bod true false) r=runQ l .beh {r with bin:=true}:=by
 subst h;simp[runQ,jca,bodN,dig,je4]
theorem q_bod6(h:c=32):runQ (c::l) (.bod true p) r=runQ l .beh r:=by
 subst h;simp[runQ,jca,bodN,dig,je4]
theorem q_bod7(h:dig c=false)(h2:¬(c=46∧p=false))(h3:¬c=69)(h4:¬(c=66∧p=false))(h5:¬c=32):runQ (c::l) (.bod true p) r=none:=by
 simp only[runQ,jca,bodN,h,h2,h3,h4,h5];simp[je4]
variable {g : Bool} {m : Nat}
theorem q_ex1(h:dig c=true)(hm:m<2):runQ (c::l) (.exq g m) r=runQ l (.exq true (m+1)) {r with pw:=10*r.pw+(c-48)}:=by
 simp[runQ,jca,h,hm,je4]
theorem q_ex2(h:c=43∨c=45):runQ (c::l) (.exq false m) r=runQ l (.exq true 0) {r with down:=decide (c=45)}:=by
 have h1:dig c=false:=by rcases h with h | h<;>subst h<;>rfl
 simp[runQ,jca,h1,h,je4]
theorem q_ex3(h:c=32)(hm:0<m):runQ (c::l) (.exq g m) r=runQ l .beh r:=by
 subst h;simp[runQ,jca,dig,hm,je4]
theorem q_ex4(h:¬(dig c=true∧m<2))(h2:¬((c=43∨c=45)∧g=false))(h3:¬(c=32∧0<m)):runQ (c::l) (.exq g m) r=none:=by
 simp only[runQ,jca,h,h2,h3];simp[je4]
theorem q_beh1(h:c=32):runQ (c::l) .beh r=runQ l .beh r:=by simp[runQ,jca,h,je4]
theorem q_beh2(h:¬c=32):runQ (c::l) .beh r=none:=by simp[runQ,jca,h,je4]
end
end Go.Cv
end
noncomputable section
set_option maxHeartbeats 3200000
namespace Go.Cx
open Go Go.Ab Go.Proofs Go.Shelf Go.Px Go.Cv
open Go.Fx (Ty Vl check jbd most base pw bnd Fit fits tv vv tup V0 T0 jbe jbh ja6 jbt str0)
def H2:Env:=Env.nil
theorem ok_H2:jax Tryz.prog H2:=jan
theorem fn153:Fn1 Tryz.prog 153 Tryz.f153:= .m Tryz.func153
theorem fn214:Fn1 Tryz.prog 214 Tryz.f214:= .m Tryz.func214
theorem fn215:Fn1 Tryz.prog 215 Tryz.f215:= .m Tryz.func215
theorem fn76:Fn1 Tryz.prog 76 Tryz.f76:= .m Tryz.func76
theorem fn212:Fn1 Tryz.prog 212 Tryz.f212:= .m Tryz.func212
theorem fn263:Fn1 Tryz.prog 263 Tryz.f263:= .m Tryz.func263
theorem fn264:Fn1 Tryz.prog 264 Tryz.f264:= .m Tryz.func264
theorem fn151:Fn1 Tryz.prog 151 Tryz.f151:= .m Tryz.func151
noncomputable def G7 : Env := ((((Env.nil.add 152 (sp1 s152)).add 213 (sp1 s213)).addG 153 (inlQ Tryz.prog H2 noL Tryz.f153)).addG 214 (inlQ Tryz.prog H2 noL Tryz.f214)).addG 215 (inlQ Tryz.prog H2 noL Tryz.f215)
theorem ok_G7:jax Tryz.prog G7:=jam (jam (jam (jak (jak jan ok152) ok213) (jar ok_H2 hmix fn153 jai)) (jar ok_H2 hmix fn214 jai)) (jar ok_H2 hmix fn215 jai)
noncomputable def G8 : Env := (((((Env.nil.add 152 (sp1 s152)).addG 153 (inlQ Tryz.prog H2 noL Tryz.f153)).addG 76 (inlQ Tryz.prog H2 noL Tryz.f76)).addG 212 (inlQ Tryz.prog G7 noL Tryz.f212)).addG 263 (inlQ Tryz.prog G7 noL Tryz.f263)).addG 264 (inlQ Tryz.prog G7 noL Tryz.f264)
theorem ok_G8:jax Tryz.prog G8:=jam (jam (jam (jam (jam (jak jan ok152) (jar ok_H2 hmix fn153 jai)) (jar ok_H2 hmix fn76 jai)) (jar ok_G7 hmix fn212 jai)) (jar ok_G7 hmix fn263 jai)) (jar ok_G7 hmix fn264 jai)
noncomputable def G9 : Env := (((((((Env.nil.add 55 (sp2 s55)).add 77 (sp3 s77)).add 78 (sp1 s78)).addG 76 (inlQ Tryz.prog H2 noL Tryz.f76)).addG 212 (inlQ Tryz.prog G7 noL Tryz.f212)).addG 263 (inlQ Tryz.prog G7 noL Tryz.f263)).addG 264 (inlQ Tryz.prog G7 noL Tryz.f264)).addG 151 (inlQ Tryz.prog G8 noL Tryz.f151)
theorem ok_G9:jax Tryz.prog G9:=jam (jam (jam (jam (jam (jak (jak (jak jan ok55) ok77) ok78) (jar ok_H2 hmix fn76 jai)) (jar ok_G7 hmix fn212 jai)) (jar ok_G7 hmix fn263 jai)) (jar ok_G7 hmix fn264 jai)) (jar ok_G8 hmix fn151 jai)
inductive Ms where
 | beg | bod (s p:Bool) | exq (g:Bool) (m:Int) | beh
def Ms.v:Ms→Value
 | .beg=> .func (.func 151) ⟨[]⟩ ⟨[]⟩
 | .bod _ _=> .func (.func 212) ⟨[]⟩ ⟨[.pointer (some ⟨200,0,some 0⟩),.pointer (some ⟨201,0,some 0⟩)]⟩
 | .exq _ _=> .func (.func 263) ⟨[]⟩ ⟨[.pointer (some ⟨200,0,some 0⟩),.pointer (some ⟨201,0,some 0⟩)]⟩
 | .beh=> .func (.func 264) ⟨[]⟩ ⟨[]⟩
def Ms.b0:Ms→Option Blk
 | .bod _ p=>some ⟨[.bool p],4,true⟩
 | .exq _ m=>some ⟨[.int .i64 m],3,true⟩
 | _=>none
def Ms.b1:Ms→Option Blk
 | .bod s _=>some ⟨[.bool s],4,true⟩
 | .exq g _=>some ⟨[.bool g],4,true⟩
 | _=>none
def Ms.st:Ms→St
 | .beg=> .beg
 | .bod s p=> .bod s p
 | .exq g m=> .exq g m.toNat
 | .beh=> .beh
def Ms.ok(M:Ms)(e:Bool)(pw sc:Int):Bool:=match M with
 | .beg=>e&&decide (pw=0)
 | .bod s _=>e==s&&decide (pw=0)
 | .exq g m=>e==decide (0<m) &&decide (0≤m∧m≤2∧(g=false→m=0)∧0≤pw∧(m=0→pw=0)∧(m=1→pw<10)∧pw<100)
 | .beh=>e&&decide (0≤pw∧pw<100)
structure RunIs (l:J)(st:St)(r:Rd)(x:Option (St×Rd)):Prop where
 h:runQ l st r=x
structure MsIs (M:Ms)(mv:Value)(b0 b1:Option Blk):Prop where
 v:mv=M.v
 b0:b0=M.b0
 b1:b1=M.b1
def FinN(l:J)(st:St)(r:Rd)(A:Prop)(B:Bool→Bool→Bool→Y→Int→Int→Bool→Value→Option Blk→Option Blk→Prop):Prop:=
 (RunIs l st r none→A)∧(∀(ng bn dn:Bool)(ds:Y)(sc pw:Int)(M:Ms)(e:Bool)(mv:Value),(M.ok e pw sc&&decide (ds.size≤255∧0≤sc∧sc≤255))=true→MsIs M mv none none→RunIs l st r (some (M.st,⟨ng,bn,dn,bz ds,sc,pw⟩))→B ng bn dn ds sc pw e mv none none)∧
   (∀(ng bn dn:Bool)(ds:Y)(sc pw:Int)(M:Ms)(e:Bool)(mv x y:Value)(tx ty:TypeId),(M.ok e pw sc&&decide (ds.size≤255∧0≤sc∧sc≤255))=true→MsIs M mv (some ⟨[x],tx,true⟩) (some ⟨[y],ty,true⟩)→RunIs l st r (some (M.st,⟨ng,bn,dn,bz ds,sc,pw⟩))→B ng bn dn ds sc pw e mv (some ⟨[x],tx,true⟩) (some ⟨[y],ty,true⟩))
theorem jdb{l:J}{st:St}{r:Rd}{A:Prop}{B:Bool→Bool→Bool→Y→Int→Int→Bool→Value→Option Blk→Option Blk→Prop}:FinN l st r A B↔
  ((runQ l st r=none→A)∧(∀(ng bn dn:Bool)(ds:Y)(sc pw:Int)(M:Ms)(e:Bool),(M.ok e pw sc&&decide (ds.size≤255∧0≤sc∧sc≤255))=true→runQ l st r=some (M.st,⟨ng,bn,dn,bz ds,sc,pw⟩)→B ng bn dn ds sc pw e M.v M.b0 M.b1)):=by
 unfold FinN;refine⟨fun⟨h1,h2,h3⟩=>⟨fun h=>h1 ⟨h⟩,fun ng bn dn ds sc pw M e ho h=> ?_⟩,fun⟨h1,h2⟩=>⟨fun h=>h1 h.h,fun ng bn dn ds sc pw M e mv ho hm h=> ?_,fun ng bn dn ds sc pw M e mv x y tx ty ho hm h=> ?_⟩⟩
 ·cases M with
  | beg=>exact h2 ng bn dn ds sc pw _ e _ ho ⟨rfl,rfl,rfl⟩ ⟨h⟩
  | bod q p=>exact h3 ng bn dn ds sc pw _ e _ _ _ _ _ ho ⟨rfl,rfl,rfl⟩ ⟨h⟩
  | exq q m=>exact h3 ng bn dn ds sc pw _ e _ _ _ _ _ ho ⟨rfl,rfl,rfl⟩ ⟨h⟩
  | beh=>exact h2 ng bn dn ds sc pw _ e _ ho ⟨rfl,rfl,rfl⟩ ⟨h⟩
 ·have:=h2 ng bn dn ds sc pw M e ho h.h;rw[←hm.v,←hm.b0,←hm.b1]at this;exact this
 ·have:=h2 ng bn dn ds sc pw M e ho h.h;rw[←hm.v,←hm.b0,←hm.b1]at this;exact this
theorem enc_dig{c:Int}(h:dig c=true):bz (Utf8.encode (IntKind.wrap .i32 c))=[c]∧(Utf8.encode (IntKind.wrap .i32 c)).size=1:=by
 unfold dig at h;have h:=jab h;have:c=48∨c=49∨c=50∨c=51∨c=52∨c=53∨c=54∨c=55∨c=56∨c=57:=by omega
 rcases this with h | h | h | h | h | h | h | h | h | h<;>subst h<;>exact⟨by kernel_rfl,by kernel_rfl⟩
theorem enc_app{c:Int}{ds:Y}(h:dig c=true)(hs:ds.size≤255):bz (ds++Utf8.encode (IntKind.wrap .i32 c))=bz ds++ [c]∧(ds++Utf8.encode (IntKind.wrap .i32 c)).size=ds.size+1∧jb1 (ds.size+(Utf8.encode (IntKind.wrap .i32 c)).size)=true:=by
 obtain⟨h1,h2⟩:=enc_dig h;refine⟨by rw[jcw,h1],by rw[ByteArray.size_append,h2],?_⟩;rw[h2];simp only[jb1,Nat.ble_eq];omega
def V24_0:Y×Bool×Y×Int×Bool×Bool×Bool×Bool×Y×Int×Int×Ms×Bool×Int×Int→E:=fun(s,zb,zs,zi,f,ng,bn,dn,ds,sc,pw,M,e,L,i)=> [S s,.pointer (some ⟨0,0,some 0⟩),B f,.pointer (some ⟨6,0,some 0⟩),.pointer (some ⟨11,0,some 0⟩),I L,I i]
def B24_0:Y×Bool×Y×Int×Bool×Bool×Bool×Bool×Y×Int×Int×Ms×Bool×Int×Int→O:=fun(s,zb,zs,zi,f,ng,bn,dn,ds,sc,pw,M,e,L,i)=> [some ⟨[B zb,S zs,I zi],33,true⟩,some ⟨[B ng,B bn,B dn,S ds,I sc,I pw],83,true⟩,some ⟨[M.v,B e],86,true⟩,M.b0,M.b1]
def S24_0:LSpecA (Y×Bool×Y×Int×Bool×Bool×Bool×Bool×Y×Int×Int×Ms×Bool×Int×Int) where
 live:=[0,2,3,4,5,15,16]
 mid:=[0,6,11,200,201]
 n:=210
 ap:=[(.cap 11 0 0 9000000,200),(.cap 11 0 1 9000001,201)]
 dec vs bs:=match vs,bs with
  | [.string s,.pointer (some ⟨0,0,some 0⟩),.bool f,.pointer (some ⟨6,0,some 0⟩),.pointer (some ⟨11,0,some 0⟩),.int .i64 L,.int .i64 i],[some ⟨[.bool zb,.string zs,.int .i64 zi],33,true⟩,some ⟨[.bool ng,.bool bn,.bool dn,.string ds,.int .i64 sc,.int .i64 pw],83,true⟩,some ⟨[.func (.func 151) ⟨[]⟩ ⟨[]⟩,.bool e],86,true⟩,none,none]=>some (s,zb,zs,zi,f,ng,bn,dn,ds,sc,pw,.beg,e,L,i)
  | [.string s,.pointer (some ⟨0,0,some 0⟩),.bool f,.pointer (some ⟨6,0,some 0⟩),.pointer (some ⟨11,0,some 0⟩),.int .i64 L,.int .i64 i],[some ⟨[.bool zb,.string zs,.int .i64 zi],33,true⟩,some ⟨[.bool ng,.bool bn,.bool dn,.string ds,.int .i64 sc,.int .i64 pw],83,true⟩,some ⟨[.func (.func 264) ⟨[]⟩ ⟨[]⟩,.bool e],86,true⟩,none,none]=>some (s,zb,zs,zi,f,ng,bn,dn,ds,sc,pw,.beh,e,L,i)
  | [.string s,.pointer (some ⟨0,0,some 0⟩),.bool f,.pointer (some ⟨6,0,some 0⟩),.pointer (some ⟨11,0,some 0⟩),.int .i64 L,.int .i64 i],[some ⟨[.bool zb,.string zs,.int .i64 zi],33,true⟩,some ⟨[.bool ng,.bool bn,.bool dn,.string ds,.int .i64 sc,.int .i64 pw],83,true⟩,some ⟨[.func (.func 212) ⟨[]⟩ ⟨[.pointer (some ⟨200,0,some 0⟩),.pointer (some ⟨201,0,some 0⟩)]⟩,.bool e],86,true⟩,some ⟨[.bool p],4,true⟩,some ⟨[.bool q],4,true⟩]=>some (s,zb,zs,zi,f,ng,bn,dn,ds,sc,pw,.bod q p,e,L,i)
  | [.string s,.pointer (some ⟨0,0,some 0⟩),.bool f,.pointer (some ⟨6,0,some 0⟩),.pointer (some ⟨11,0,some 0⟩),.int .i64 L,.int .i64 i],[some ⟨[.bool zb,.string zs,.int .i64 zi],33,true⟩,some ⟨[.bool ng,.bool bn,.bool dn,.string ds,.int .i64 sc,.int .i64 pw],83,true⟩,some ⟨[.func (.func 263) ⟨[]⟩ ⟨[.pointer (some ⟨200,0,some 0⟩),.pointer (some ⟨201,0,some 0⟩)]⟩,.bool e],86,true⟩,some ⟨[.int .i64 m],3,true⟩,some ⟨[.bool q],4,true⟩]=>some (s,zb,zs,zi,f,ng,bn,dn,ds,sc,pw,.exq q m,e,L,i)
  | _,_=>none
 pre:=fun(s,zb,zs,zi,f,ng,bn,dn,ds,sc,pw,M,e,L,i)=>M.ok e pw sc&&decide (0≤i∧i≤L∧L=s.size∧L≤255∧(ds.size:Int)≤i∧0≤sc∧sc≤i)
 fin:=fun(s,zb,zs,zi,f,ng,bn,dn,ds,sc,pw,M,e,L,i) Z=>FinN ((bz s).drop i.toNat) M.st ⟨ng,bn,dn,bz ds,sc,pw⟩ (∀(ng' bn' dn':Bool)(ds':Y)(sc' pw' j:Int),Z .ret [S s,.pointer (some ⟨0,0,some 0⟩),B false,.pointer (some ⟨6,0,some 0⟩),.pointer (some ⟨11,0,some 0⟩),I L,I j] [some ⟨[B false,S e0,I 0],33,true⟩,some ⟨[B ng',B bn',B dn',S ds',I sc',I pw'],83,true⟩,some ⟨[.nilFunc,B false],86,true⟩,none,none]) (fun ng' bn' dn' ds' sc' pw' e' mv b0 b1=>Z (.exit 0) [S s,.pointer (some ⟨0,0,some 0⟩),B f,.pointer (some ⟨6,0,some 0⟩),.pointer (some ⟨11,0,some 0⟩),I L,I L] [some ⟨[B zb,S zs,I zi],33,true⟩,some ⟨[B ng',B bn',B dn',S ds',I sc',I pw'],83,true⟩,some ⟨[mv,B e'],86,true⟩,b0,b1])
def o0(a b c:Bool)(d:Y)(e f:Int):Option Blk:=some (.mk (.bool a:: .bool b:: .bool c:: .string d::bw e f) 83 true)
def mh(e f g:Bool)(b h:Y)(a:Exit→E→O→Prop)(c d i j:Int):Prop:=a .ret (.string b::av 0:: .bool false::av 6::av 11::bw c d) [ct true (.bool false::g8 0 []) 33,o0 e f g h i j,ct true (Value.nilFunc::fv) 86,none,none]
def kv(a:Bool)(b:Y)(c:Int):Option Blk:=some (.mk [.bool a,.string b,ak c] 33 true)
def j4(a d e f:Bool)(b g:Y)(j:FuncId)(c h i:Int)(k l:E)(m n:Option Blk):O:=[kv a b c,o0 d e f g h i,ct true (k7 j k::l) 86,m,n]
def ki(a:Bool):Option Blk:=some (.mk [.bool a] 4 true)
def kj:E:=[av 200,av 201]
def jg(b:Bool)(a:Y)(c d:Int):E:= .string a::av 0:: .bool b::av 6::av 11::bv c d
def l6(a d e f:Bool)(b g:Y)(i:FuncId)(c:Int)(h j k:E)(l m:Option Blk):O:=[kv a b c,ct true (.bool d:: .bool e:: .bool f:: .string g::h) 83,ct true (k7 i j::k) 86,l,m]
def m5(b:Bool)(a:Y)(c d:Int):E:= .string a::av 0:: .bool b::av 6::av 11::bw c d
theorem r24_0b(s:Y)(zb:Bool)(zs:Y)(zi:Int)(f:Bool)(ng:Bool)(bn:Bool)(dn:Bool)(ds:Y)(sc:Int)(pw:Int)(e:Bool)(L:Int)(i:Int)(jk:Tmps)(R:Exit→E→O→Prop):(jbv Tryz.prog G9 noL Tryz.f24.ntmps (ja9 Tryz.f24 0) (tl S24_0.live (V24_0 (s,zb,zs,zi,f,ng,bn,dn,ds,sc,pw,.beg,e,L,i)) jk) (ml S24_0.mid (B24_0 (s,zb,zs,zi,f,ng,bn,dn,ds,sc,pw,.beg,e,L,i))) S24_0.n fun e t' m' _=>S24_0.out R e t' m')=(ez (bp s i) R i L (j4 zb ng bn dn zs ds 151 zi sc pw [] [B e] none none) (m5 f s L i) 0 (bif au s i 32 then R .normal (jg f s L i) (j4 zb ng bn dn zs ds 151 zi sc pw [] dw none none)else az (au s i 43) true (au s i 43 || au s i 45) (R .normal (jg f s L i) (l6 zb (au s i 45) bn dn zs ds 212 zi (bw sc pw) kj fv (ki false) (ki false))) (bif dig (jaj s i.toNat)then b9 (i6 ds (Utf8.encode (IntKind.i32.wrap (bu s i)))) R (l6 zb ng bn dn zs (ds++Utf8.encode (IntKind.i32.wrap (bu s i))) 212 zi (bw sc pw) kj dw (ki false) (ct true dw 4)) (jg f s L i)else f8 (au s i 46) true (au s i 46&& !false) (R .normal (jg f s L i) (j4 zb ng bn dn zs ds 212 zi sc pw kj fv (ct true dw 4) (ki false))) (mh ng bn dn s ds R L i sc pw)))):=by kernel_rfl
theorem r24_0d(s:Y)(zb:Bool)(zs:Y)(zi:Int)(f:Bool)(ng:Bool)(bn:Bool)(dn:Bool)(ds:Y)(sc:Int)(pw:Int)(q:Bool)(p:Bool)(e:Bool)(L:Int)(i:Int)(jk:Tmps)(R:Exit→E→O→Prop):(jbv Tryz.prog G9 noL Tryz.f24.ntmps (ja9 Tryz.f24 0) (tl S24_0.live (V24_0 (s,zb,zs,zi,f,ng,bn,dn,ds,sc,pw,(.bod q p),e,L,i)) jk) (ml S24_0.mid (B24_0 (s,zb,zs,zi,f,ng,bn,dn,ds,sc,pw,(.bod q p),e,L,i))) S24_0.n fun e t' m' _=>S24_0.out R e t' m')=(ez (bp s i) R i L (j4 zb ng bn dn zs ds 212 zi sc pw kj [B e] (ki p) (ki q)) (m5 f s L i) 0 (bif dig (jaj s i.toNat)then bif i6 ds (Utf8.encode (dx (jaj s i.toNat) .i32))then bif p then R .normal (jg f s L i) (l6 zb ng bn dn zs (ds++Utf8.encode (dx (jaj s i.toNat) .i32)) 212 zi [ay sc,ak pw] kj dw (ki p) (ct true dw 4))else R .normal (jg f s L i) (l6 zb ng bn dn zs (ds++Utf8.encode (dx (jaj s i.toNat) .i32)) 212 zi (bw sc pw) kj dw (ki p) (ct true dw 4))else False else az (au s i 46) true (au s i 46&& !p) (R .normal (jg f s L i) (j4 zb ng bn dn zs ds 212 zi sc pw kj [B q] (ct true dw 4) (ki q))) (bif !q then mh ng bn dn s ds R L i sc pw else bif au s i 69 then R .normal (jg f s L i) (j4 zb ng bn dn zs ds 263 zi sc pw kj [B (decide (0>0))] (ct true [ak 0] 3) (ki false))else f8 (au s i 66) true (au s i 66&& !p) (R .normal (jg f s L i) (l6 zb ng true dn zs ds 264 zi (bw sc pw) [] dw none none)) (bif au s i 32 then R .normal (jg f s L i) (j4 zb ng bn dn zs ds 264 zi sc pw [] dw none none)else mh ng bn dn s ds R L i sc pw)))):=by kernel_rfl
theorem r24_0x(s:Y)(zb:Bool)(zs:Y)(zi:Int)(f:Bool)(ng:Bool)(bn:Bool)(dn:Bool)(ds:Y)(sc:Int)(pw:Int)(q:Bool)(m:Int)(e:Bool)(L:Int)(i:Int)(jk:Tmps)(R:Exit→E→O→Prop):(jbv Tryz.prog G9 noL Tryz.f24.ntmps (ja9 Tryz.f24 0) (tl S24_0.live (V24_0 (s,zb,zs,zi,f,ng,bn,dn,ds,sc,pw,(.exq q m),e,L,i)) jk) (ml S24_0.mid (B24_0 (s,zb,zs,zi,f,ng,bn,dn,ds,sc,pw,(.exq q m),e,L,i))) S24_0.n fun e t' m' _=>S24_0.out R e t' m')=(ez (bp s i) R i L (j4 zb ng bn dn zs ds 263 zi sc pw kj [B e] (ct true [ak m] 3) (ki q)) (m5 f s L i) 0 (az (dig (jaj s i.toNat)) true (dig (jaj s i.toNat) &&a7 m 2) (R .normal (jg f s L i) (l6 zb ng bn dn zs ds 263 zi [ak sc,I (j8 s 10 pw i)] kj [B (decide (aw m>0))] (ct true [ay m] 3) (ct true dw 4))) (f8 (au s i 43) (au s i 45 || true) (bk (au s i 43) (!q) (au s i 45&& !q)) (R .normal (jg f s L i) (l6 zb ng bn (au s i 45) zs ds 263 zi (bw sc pw) kj [B (decide (0>0))] (ct true [ak 0] 3) (ct true dw 4))) (bif au s i 32 || true then bif au s i 32&&dy m 0 then R .normal (jg f s L i) (j4 zb ng bn dn zs ds 264 zi sc pw [] dw none none)else mh ng bn dn s ds R L i sc pw else False)))):=by kernel_rfl
theorem r24_0h(s:Y)(zb:Bool)(zs:Y)(zi:Int)(f:Bool)(ng:Bool)(bn:Bool)(dn:Bool)(ds:Y)(sc:Int)(pw:Int)(e:Bool)(L:Int)(i:Int)(jk:Tmps)(R:Exit→E→O→Prop):(jbv Tryz.prog G9 noL Tryz.f24.ntmps (ja9 Tryz.f24 0) (tl S24_0.live (V24_0 (s,zb,zs,zi,f,ng,bn,dn,ds,sc,pw,.beh,e,L,i)) jk) (ml S24_0.mid (B24_0 (s,zb,zs,zi,f,ng,bn,dn,ds,sc,pw,.beh,e,L,i))) S24_0.n fun e t' m' _=>S24_0.out R e t' m')=(ez (bp s i) R i L (j4 zb ng bn dn zs ds 264 zi sc pw [] [B e] none none) (m5 f s L i) 0 (bif au s i 32 then R .normal (jg f s L i) (j4 zb ng bn dn zs ds 264 zi sc pw [] dw none none)else mh ng bn dn s ds R L i sc pw)):=by kernel_rfl
theorem l24_0:LOKf Tryz.prog (oneL 0 S24_0.hA) Tryz.f24:=by
 refine jbo (h:=S24_0.hA) (by kernel_rfl) (jbr ok_G9 hmix (by kernel_rfl) (ja7 _) S24_0 V24_0 B24_0 (fun(s,zb,zs,zi,f,ng,bn,dn,ds,sc,pw,M,e,L,i)=>(L-i).toNat) ?_ ?_ ?_)
 ·intro vs bs s h;simp only[S24_0]at h;split at h
  all_goals first | (cases h;exact⟨rfl,rfl⟩) | cases h | (split at h<;>first | (rename_i hq;cases h;have hq:=jah hq;subst hq;exact⟨rfl,rfl⟩) | cases h)
 ·exact fun⟨s,zb,zs,zi,f,ng,bn,dn,ds,sc,pw,M,e,L,i⟩ hp=>by cases M<;>rfl
 ·intro⟨s,zb,zs,zi,f,ng,bn,dn,ds,sc,pw,M,e,L,i⟩ jk Z hp hf;simp only[S24_0]at hp hf;rw[jdb]at hf;simp only[jaf,jae]at hp;obtain⟨hM,hi0,hiL,hLs,hL,hds,hsc0,hsci⟩:=hp;have hw:i<L→IntKind.i64.wrap (i+1)=i+1:=fun h=>w64 (by omega)
  have hin:i<L→decide (0≤i∧i<(s.size:Int))=true:=fun h=>jaa (by omega)
  have hex:¬i<L→i=L:=fun h=>by omega
  have hxr:¬i<L→runQ ((bz s).drop i.toNat) M.st ⟨ng,bn,dn,bz ds,sc,pw⟩=some (M.st,⟨ng,bn,dn,bz ds,sc,pw⟩):=fun h=>by rw[jcq (by omega)];rfl
  have hxe:(M.ok e pw sc&&decide (ds.size≤255∧0≤sc∧sc≤255))=true:=by rw[hM,jaa (show ds.size≤255∧0≤sc∧sc≤255 by omega)];rfl
  by_cases hlt:i<L
  case neg=>
   have hz:=hf.2 ng bn dn ds sc pw M e hxe (hxr hlt);obtain rfl:=hex hlt;cases M with
   | beg=>
    rw[r24_0b];delta cq b7 ez ar az f8 ct fv ak bw o0 e8 g8 dv av mh k7 kv j4 ki dw kj aw ay bv jg au b9 l6 bu i6 m5 aq bp;exact c_f (jad hlt) hz
   | bod q p=>
    rw[r24_0d];delta cq b7 ez ar az f8 ct fv ak bw o0 e8 g8 dv av mh k7 kv j4 dw aw ay bv jg au l6 ki kj dx i6 m5 aq bp;exact c_f (jad hlt) hz
   | exq q m=>
    rw[r24_0x];delta cq b7 ez ar az f8 ct fv ak bw o0 e8 g8 dv av mh k7 kv j4 dw aw ay bv jg dy au l6 kj bk dx mq j8 a7 m5 ki aq bp;exact c_f (jad hlt) hz
   | beh=>
    rw[r24_0h];delta cq b7 ez ct fv ak bw o0 e8 g8 dv av mh k7 kv j4 dw aw ay bv jg au m5 aq bp;exact c_f (jad hlt) hz
  rw[jb7 hi0 (by omega)]at hf;cases M with
  | beg=>
   rw[r24_0b];delta cq b7 ez ar az f8 ct fv ak bw o0 e8 g8 dv av mh k7 kv j4 ki dw kj aw ay bv jg au b9 l6 bu i6 m5 aq bp;rw[hw hlt];simp only[Ms.ok,jaf,jae]at hM;have hpw:=hM.2;refine c_t (jaa hlt) (c_t (hin hlt) (cond_intro (fun hg=> ?_) (fun hg=> ?_)))
   ·have hg:jaj s i.toNat=32:=eq_of_beq hg;rw[show Ms.beg.st=St.beg from rfl,q_beg1 hg]at hf;refine⟨(s,zb,zs,zi,f,ng,bn,dn,ds,sc,pw,.beg,true,L,i+1),rfl,rfl,?_,by simp only;omega,(by simp only[S24_0];exact jdb.2 hf)⟩;simp only[S24_0,jaf,jae];exact⟨by simp[Ms.ok,hpw],by omega,by omega,by omega,by omega,by omega,by omega,by omega⟩
   have h32:¬jaj s i.toNat=32:=by simpa using hg
   refine c_t (by simp) (cond_intro (fun hg=> ?_) (fun hg=> ?_))
   ·have hg:jaj s i.toNat=43∨jaj s i.toNat=45:=by simpa using hg
    have e45:decide (jaj s i.toNat=45)=(jaj s i.toNat==45):=rfl;rw[show Ms.beg.st=St.beg from rfl,q_beg2 hg]at hf;refine⟨(s,zb,zs,zi,f,(jaj s i.toNat==45),bn,dn,ds,sc,pw,(.bod false false),false,L,i+1),rfl,rfl,?_,by simp only;omega,(by simp only[S24_0];exact jdb.2 hf)⟩;simp only[S24_0,jaf,jae];exact⟨by simp[Ms.ok,hpw],by omega,by omega,by omega,by omega,by omega,by omega,by omega⟩
   have hsg:¬(jaj s i.toNat=43∨jaj s i.toNat=45):=by
    intro q;have:(jaj s i.toNat==43 || jaj s i.toNat==45)=true:=by simpa using q
    rw[this]at hg;cases hg
   rw[show Ms.beg.st=St.beg from rfl,q_beg3 h32 hsg]at hf;apply cond_intro<;>intro hg
   ·obtain⟨e1,e2,e3⟩:=enc_app (ds:=ds) hg (by omega);refine c_t e3 ?_;rw[q_bod1 hg]at hf;refine⟨(s,zb,zs,zi,f,ng,bn,dn,ds++Utf8.encode (IntKind.wrap .i32 (jaj s i.toNat)),sc,pw,(.bod true false),true,L,i+1),rfl,rfl,?_,by simp only;omega,?_⟩
    ·simp only[S24_0,jaf,jae];exact⟨by simp[Ms.ok,hpw],by omega,by omega,by omega,by omega,by rw[e2];omega,by omega,by omega⟩
    ·simp only[S24_0];rw[e1];exact jdb.2 hf
   refine c_t (by simp) (cond_intro (fun h46=> ?_) (fun h46=> ?_))
   ·have h46:jaj s i.toNat=46:=by simpa using h46
    rw[q_bod2 h46]at hf;refine⟨(s,zb,zs,zi,f,ng,bn,dn,ds,sc,pw,(.bod false true),false,L,i+1),rfl,rfl,?_,by simp only;omega,(by simp only[S24_0];exact jdb.2 hf)⟩;simp only[S24_0,jaf,jae];exact⟨by simp[Ms.ok,hpw],by omega,by omega,by omega,by omega,by omega,by omega,by omega⟩
   ·have h46:¬jaj s i.toNat=46:=by simpa using h46
    exact hf.1 (by rw[q_bod3 hg (fun q=>h46 q.1)]) ng bn dn ds sc pw i
  | bod q p=>
   rw[r24_0d];delta cq b7 ez ar az f8 ct fv ak bw o0 e8 g8 dv av mh k7 kv j4 dw aw ay bv jg au l6 ki kj dx i6 m5 aq bp;rw[hw hlt];simp only[Ms.ok,jaf,jae]at hM;obtain⟨heq,hpw⟩:=hM;rw[show(Ms.bod q p).st=St.bod q p from rfl]at hf;refine c_t (jaa hlt) (c_t (hin hlt) (cond_intro (fun hg=> ?_) (fun hg=> ?_)))
   ·obtain⟨e1,e2,e3⟩:=enc_app (ds:=ds) hg (by omega);refine c_t e3 ?_;rw[q_bod1 hg]at hf;cases p with
    | true=>
     rw[w64 (n:=sc+1) (by omega)];refine⟨(s,zb,zs,zi,f,ng,bn,dn,ds++Utf8.encode (IntKind.wrap .i32 (jaj s i.toNat)),sc+1,pw,(.bod true true),true,L,i+1),rfl,rfl,?_,by simp only;omega,?_⟩
     ·simp only[S24_0,jaf,jae];exact⟨by simp[Ms.ok,hpw],by omega,by omega,by omega,by omega,by rw[e2];omega,by omega,by omega⟩
     ·simp only[S24_0];rw[e1];exact jdb.2 hf
    | false=>
     refine⟨(s,zb,zs,zi,f,ng,bn,dn,ds++Utf8.encode (IntKind.wrap .i32 (jaj s i.toNat)),sc,pw,(.bod true false),true,L,i+1),rfl,rfl,?_,by simp only;omega,?_⟩
     ·simp only[S24_0,jaf,jae];exact⟨by simp[Ms.ok,hpw],by omega,by omega,by omega,by omega,by rw[e2];omega,by omega,by omega⟩
     ·simp only[S24_0];rw[e1];exact jdb.2 hf
   refine c_t (by simp) (cond_intro (fun h46=> ?_) (fun h46=> ?_))
   ·obtain⟨h46x,hp⟩:jaj s i.toNat=46∧p=false:=by simpa using h46
    subst hp;rw[q_bod2 h46x]at hf;refine⟨(s,zb,zs,zi,f,ng,bn,dn,ds,sc,pw,(.bod q true),q,L,i+1),rfl,rfl,?_,by simp only;omega,(by simp only[S24_0];exact jdb.2 hf)⟩;simp only[S24_0,jaf,jae];exact⟨by simp[Ms.ok,hpw],by omega,by omega,by omega,by omega,by omega,by omega,by omega⟩
   have h46':¬(jaj s i.toNat=46∧p=false):=by
    intro z;have:(jaj s i.toNat==46&& !p)=true:=by simpa using z
    rw[this]at h46;cases h46
   cases q with
   | false=>
    refine c_t rfl ?_;exact hf.1 (by rw[q_bod3 hg h46']) ng bn dn ds sc pw i
   | true=>
    refine c_f rfl (cond_intro (fun h69=> ?_) (fun h69=> ?_))
    ·have h69:jaj s i.toNat=69:=eq_of_beq h69;rw[q_bod4 h69]at hf;refine⟨(s,zb,zs,zi,f,ng,bn,dn,ds,sc,pw,(.exq false 0),false,L,i+1),rfl,rfl,?_,by simp only;omega,(by simp only[S24_0];exact jdb.2 hf)⟩;simp only[S24_0,jaf,jae];exact⟨by simp[Ms.ok,hpw],by omega,by omega,by omega,by omega,by omega,by omega,by omega⟩
    have h69:¬jaj s i.toNat=69:=by simpa using h69
    refine c_t (by simp) (cond_intro (fun h66=> ?_) (fun h66=> ?_))
    ·obtain⟨h66x,hp⟩:jaj s i.toNat=66∧p=false:=by simpa using h66
     subst hp;rw[q_bod5 h66x]at hf;refine⟨(s,zb,zs,zi,f,ng,true,dn,ds,sc,pw,.beh,true,L,i+1),rfl,rfl,?_,by simp only;omega,(by simp only[S24_0];exact jdb.2 hf)⟩;simp only[S24_0,jaf,jae];exact⟨by simp[Ms.ok,hpw],by omega,by omega,by omega,by omega,by omega,by omega,by omega⟩
    have h66':¬(jaj s i.toNat=66∧p=false):=by
     intro z;have:(jaj s i.toNat==66&& !p)=true:=by simpa using z
     rw[this]at h66;cases h66
    apply cond_intro<;>intro h32
    ·have h32:jaj s i.toNat=32:=eq_of_beq h32;rw[q_bod6 h32]at hf;refine⟨(s,zb,zs,zi,f,ng,bn,dn,ds,sc,pw,.beh,true,L,i+1),rfl,rfl,?_,by simp only;omega,(by simp only[S24_0];exact jdb.2 hf)⟩;simp only[S24_0,jaf,jae];exact⟨by simp[Ms.ok,hpw],by omega,by omega,by omega,by omega,by omega,by omega,by omega⟩
    ·have h32:¬jaj s i.toNat=32:=by simpa using h32
     exact hf.1 (by rw[q_bod7 hg h46' h69 h66' h32]) ng bn dn ds sc pw i
  | exq q m=>
   rw[r24_0x];delta cq b7 ez ar az f8 ct fv ak bw o0 e8 g8 dv av mh k7 kv j4 dw aw ay bv jg dy au l6 kj bk dx mq j8 a7 m5 ki aq bp;rw[hw hlt];simp only[Ms.ok,jaf,jae]at hM;obtain⟨heq,hm0,hm2,hq,hp0,hp1,hp2,hp3⟩:=hM;rw[show(Ms.exq q m).st=St.exq q m.toNat from rfl]at hf;have hrng:=jfs s i.toNat;refine c_t (jaa hlt) (c_t (hin hlt) (c_t (by simp) (cond_intro (fun hg=> ?_) (fun hg=> ?_))))
   ·obtain⟨hg,hm⟩:dig (jaj s i.toNat)=true∧m<2:=by simpa using hg
    have hg2:48≤jaj s i.toNat∧jaj s i.toNat≤57:=by unfold dig at hg;exact jab hg
    have hpb:pw<10:=by
     rcases(show m=0∨m=1 by omega)with z | z
     ·rw[hp1 z];omega
     ·exact hp2 z
    rw[q_ex1 hg (by omega),show m.toNat+1=(m+1).toNat by omega]at hf;rw[w64 (n:=10*pw) (by omega),w8 (n:=jaj s i.toNat-48) (by omega),w64 (n:=jaj s i.toNat-48) (by omega),w64 (n:=10*pw+(jaj s i.toNat-48)) (by omega),w64 (n:=m+1) (by omega)];refine⟨(s,zb,zs,zi,f,ng,bn,dn,ds,sc,10*pw+(jaj s i.toNat-48),(.exq true (m+1)),decide (m+1>0),L,i+1),rfl,rfl,?_,by simp only;omega,(by simp only[S24_0];exact jdb.2 hf)⟩;simp only[S24_0,jaf,jae];refine⟨?_,by omega,by omega,by omega,by omega,by omega,by omega,by omega⟩;simp only[Ms.ok,jaf,jae,beq_iff_eq];refine⟨trivial,by omega,by omega,(fun h=>by cases h),by omega,by omega,?_,by omega⟩;intro h1;rw[hp1 (by omega)];omega
   have hg':¬(dig (jaj s i.toNat)=true∧m.toNat<2):=by
    intro z;have:(dig (jaj s i.toNat) &&decide (m<2))=true:=by rw[z.1,jaa (show m<2 by omega)];rfl
    rw[this]at hg;cases hg
   refine c_t (by simp) (cond_intro (fun hs=> ?_) (fun hs=> ?_))
   ·have hs2:(jaj s i.toNat=43∨jaj s i.toNat=45)∧q=false:=by
     by_cases z:jaj s i.toNat=43
     ·simp[z]at hs;exact⟨.inl z,hs⟩
     ·simp[z]at hs;exact⟨.inr hs.1,hs.2⟩
    obtain⟨hs2,rfl⟩:=hs2;have hm:=hq rfl;subst hm;rw[q_ex2 hs2]at hf;refine⟨(s,zb,zs,zi,f,ng,bn,(jaj s i.toNat==45),ds,sc,pw,(.exq true 0),(decide ((0:Int)>0)),L,i+1),rfl,rfl,?_,by simp only;omega,(by simp only[S24_0];exact jdb.2 hf)⟩;simp only[S24_0,jaf,jae];refine⟨?_,by omega,by omega,by omega,by omega,by omega,by omega,by omega⟩;simp only[Ms.ok,jaf,jae,beq_iff_eq];exact⟨trivial,by omega,by omega,(fun h=>by cases h),by omega,(fun _=>hp1 rfl),(fun h=>by cases h),by omega⟩
   have hs':¬((jaj s i.toNat=43∨jaj s i.toNat=45)∧q=false):=by
    rintro ⟨z | z,rfl⟩ <;>simp[z]at hs
   refine c_t (by simp) (cond_intro (fun h32=> ?_) (fun h32=> ?_))
   ·obtain⟨h32,hm⟩:jaj s i.toNat=32∧m>0:=by simpa using h32
    rw[q_ex3 h32 (by omega)]at hf;refine⟨(s,zb,zs,zi,f,ng,bn,dn,ds,sc,pw,.beh,true,L,i+1),rfl,rfl,?_,by simp only;omega,(by simp only[S24_0];exact jdb.2 hf)⟩;simp only[S24_0,jaf,jae];exact⟨by simp only[Ms.ok,Bool.true_and,jae];omega,by omega,by omega,by omega,by omega,by omega,by omega,by omega⟩
   ·have h32:¬(jaj s i.toNat=32∧0<m.toNat):=by
     intro z;have:(jaj s i.toNat==32&&decide (m>0))=true:=by rw[z.1,jaa (show m>0 by omega)];rfl
     rw[this]at h32;cases h32
    exact hf.1 (by rw[q_ex4 hg' hs' h32]) ng bn dn ds sc pw i
  | beh=>
   rw[r24_0h];delta cq b7 ez ct fv ak bw o0 e8 g8 dv av mh k7 kv j4 dw aw ay bv jg au m5 aq bp;rw[hw hlt];simp only[Ms.ok,jaf,jae]at hM;rw[show Ms.beh.st=St.beh from rfl]at hf;refine c_t (jaa hlt) (c_t (hin hlt) (cond_intro (fun h32=> ?_) (fun h32=> ?_)))
   ·have h32:jaj s i.toNat=32:=eq_of_beq h32;rw[q_beh1 h32]at hf;refine⟨(s,zb,zs,zi,f,ng,bn,dn,ds,sc,pw,.beh,true,L,i+1),rfl,rfl,?_,by simp only;omega,(by simp only[S24_0];exact jdb.2 hf)⟩;simp only[S24_0,jaf,jae];exact⟨by simp only[Ms.ok,Bool.true_and,jae];omega,by omega,by omega,by omega,by omega,by omega,by omega,by omega⟩
   ·have h32:¬jaj s i.toNat=32:=by simpa using h32
    exact hf.1 (by rw[q_beh2 h32]) ng bn dn ds sc pw i
theorem zl_isB(l:Yb):IsB (zl l):=fun c hc=>by
 obtain⟨b,_,rfl⟩:=List.mem_map.1 hc;have:=b.toNat_lt;omega
theorem dz_isB(n:Int):IsB (dz n):=by
 unfold dz;split
 ·exact IsB.nil
 ·exact zl_isB _
theorem jlk:∀(k:Nat)(n:Int),0≤n→n<10^k→(dz n).length≤k
 | 0,n,h,h1=>by
  have:n=0:=by simp at h1;omega
  rw[dz,if_pos this];simp
 | k+1,n,h,h1=>by
  by_cases h0:n=0
  ·rw[dz,if_pos h0];simp
  ·rw[jkt (by omega),List.length_append];rw[Int.pow_succ]at h1;have:=jlk k (n/10) (by omega) (by omega);simp;omega
theorem jkm(g:Bool)(l:J):ja4 g (dz (binG l 0)) 0=ja4 g (binD l) 0:=by
 unfold binD;by_cases h:binG l 0=0
 ·rw[h];have e:decZ 0=[48]:=by rw[decZ,Int.toNat_zero,Lib.decDigits_one (by decide)];rfl
  rw[e];rfl
 ·rw[dz,if_neg h]
theorem trim_isB{l c:J}(h:IsB l):IsB (jb4 l c):=fun x hx=>by
 refine h x ?_;have:=(List.dropWhile_sublist _).subset hx;exact List.mem_reverse.1 ((List.dropWhile_sublist _).subset (List.mem_reverse.1 this))
theorem jh8{p:Int→Bool}:∀{l:J},(∀c∈l,p c=true)→l.dropWhile p=[]
 | [],_=>rfl
 | c::l,h=>by rw[List.dropWhile_cons_of_pos (h c (List.mem_cons_self ..))];exact jh8 fun d hd=>h d (List.mem_cons_of_mem _ hd)
theorem jfp{p:Int→Bool}{l:J}{c:Int}(hc:c∈l)(hp:p c=false):∃d r,l.dropWhile p=d::r∧p d=false:=by
 induction l with
 | nil=>cases hc
 | cons a l ih=>
  cases ha:p a with
  | false=>exact⟨a,l,by rw[List.dropWhile_cons_of_neg (by simp[ha])],ha⟩
  | true=>
   rw[List.dropWhile_cons_of_pos ha];rcases List.mem_cons.1 hc with rfl | hc
   ·rw[ha]at hp;cases hp
   ·exact ih hc
theorem trim_bits(l:J):decide (jb4 l (bz ⟨#[48,49]⟩)=[])=jco l:=by
 have e:bz ⟨#[48,49]⟩=[48,49]:=rfl
 have hh:∀c:Int,hasZ [48,49] c=decide (c=48∨c=49):=fun c=>by
  rw[Bool.eq_iff_iff,ja8,jae];simp
 rw[e,Bool.eq_iff_iff,jae];constructor
 ·intro h;unfold jco;refine List.all_eq_true.2 fun c hc=> ?_
  cases q:decide (c=48∨c=49)with
  | true=>rfl
  | false=>
   exfalso;rw[←hh]at q;obtain⟨d,r,h1,h2⟩:=jfp (List.mem_reverse.2 hc) q;have hm:d∈(l.reverse.dropWhile (hasZ [48,49])).reverse:=by rw[h1];simp
   obtain⟨d',r',h3,_⟩:=jfp hm h2;unfold jb4 at h;rw[h3]at h;cases h
 ·intro h;have ha:∀c∈l,hasZ [48,49] c=true:=fun c hc=>by rw[hh];exact List.all_eq_true.1 h c hc
  unfold jb4;rw[jh8 (l:=l.reverse) fun c hc=>ha c (List.mem_reverse.1 hc)];rfl
abbrev onV(x:Option Num):Value:= .tuple ⟨[numV (x.getD num0),.bool x.isSome]⟩
def s24(s:Y):Bool×Value:=(decide (s.size≤9223372036854775807),onV (rdN (bz s)))
theorem fn24:Fn1 Tryz.prog 24 Tryz.f24:= .m Tryz.func24
def m6(a:Bool)(b:Prod J Int):E:=[.bool a,.string (szO b.fst),.int .i64 b.snd]
def ph(d:Bool)(a:Y)(c:Int)(b:Nat)(e:Value→Prop):Prop:=jl (decide (a.size≤b∧ -(100000:Int)≤c∧c≤100000)) (.agg ⟨m6 (Prod.fst (ja4 d (bz a) c)) (Prod.snd (ja4 d (bz a) c))⟩) (.bool true) e
def nq:Value:=al (.agg (jy false 0 [])::fv)
def rg(c d e j k m:Bool)(a f:Y)(b:Cx.Ms)(g h:Int)(i:Value)(l:Value→Prop):Prop:=RunIs (bq a 0) (Ms.st Ms.beg) (Rd.mk false false false (bz a8) 0 0) (some (Ms.st b,Rd.mk c d e (bz f) g h))→(bif ja0 210 [i,.bool j] &&k then kp (!j) (l nq) (bif d then az (decide (aq f>31)) (m&&j3 [49] 48&&true) (decide (aq f>31) || !jb f [49] 48) (l nq) (bif jco (bz f) &&decide (f.size≤64)then ph c (szO (dz (binG (bz f) 0))) 0 100000 l else False)else bif e then ph c f (e7 g (IntKind.i64.wrap (0-h))) 100000 l else ph c f (e7 g h) 100000 l)else False)
def fw(a:Y):Bool:=decide (a.size≤9223372036854775807)
theorem v24(s:Y)(R:Value→Prop):ja1 Tryz.prog G9 (oneL 0 S24_0.hA) Tryz.f24 [Enc.enc s] (fun _=>none) 0 (fun v _ _=>R v)=(bif decide (aq s>255)then R nq else j9 (S24_0.toLSpec.pre (s,(false,(a8,((0:Int),(false,(false,(false,(false,(a8,((0:Int),((0:Int),(Ms.beg,(true,(aq s,(0:Int)))))))))))))))) (RunIs (bq s 0) (Ms.st Ms.beg) (Rd.mk false false false (bz a8) 0 0) none→Bool→Bool→Bool→Y→Int→Int→fu (R (al (.agg ⟨B false::ax Px.e0 [] (ak 0)⟩::fv)))) ((∀a:Bool,∀b:Bool,∀c:Bool,∀d:Y,∀e:Int,∀f:Int,∀g:Cx.Ms,∀h:Bool,∀i:Value,(Ms.ok g h f e&&decide (d.size≤255∧0≤e∧e≤255))=true→MsIs g i none none→rg a b c h true (fw d) s d g e f i R)∧(∀a:Bool,∀b:Bool,∀c:Bool,∀d:Y,∀e:Int,∀f:Int,∀g:Cx.Ms,∀h:Bool,∀i:Value,∀j:Value,∀k:Value,∀l:TypeId,∀m:TypeId,(Ms.ok g h f e&&decide (d.size≤255∧0≤e∧e≤255))=true→MsIs g i (ct true [j] l) (ct true [k] m)→rg a b c h (lq [j] [k] 210) (cm d) s d g e f i R))):=by kernel_rfl
theorem ok24:jao Tryz.prog 24 (sp1 s24):=by
 refine jb8 ok_G9 hmix fn24 l24_0 jag fun s hc=> ?_
 rw[ja2,v24];delta j9 ar kp al jl m6 ph e7 az fv ak e8 g8 jy nq a8 l5 jb aq ft j3 bq rg cm gm lq ct fw fu ax;have hc:(s.size≤9223372036854775807):=jab hc
 try dsimp only[s24]
 have hN:∀x:Value,x=Value.tuple ⟨[.agg ⟨[.bool false,.string ⟨#[]⟩,.int .i64 0]⟩,.bool false]⟩→rdN (bz s)=none→x=onV (rdN (bz s)):=fun x hx h=>by
  rw[h,hx];show _=Value.tuple ⟨[.agg ⟨[.bool false,.string (szO []),.int .i64 0]⟩,.bool false]⟩;rw[jgk]
 apply cond_intro<;>intro h
 ·have h:=jab h;exact hN _ rfl (by rw[rdN,if_pos (by rw[jap];omega)])
 have h:=jac h;have hn:∀neg,ja4 neg [] 0=(false,[],0):=fun neg=>rfl
 have hq:=num_eq (ja4:=ja4) (binD:=binD) hn (bz s)
 have hrd:rdN (bz s)=(((runQ (bz s) .beg {}).bind fun x=>if endP x.1=true then some x.2 else none).bind (finP ja4 binD)):=by
  rw[rdN,if_neg (by rw[jap];omega),←hq,numP,run_Q _ _ _ rfl]
 have hbody:∀(ng bn dn:Bool)(ds:Y)(sc pw:Int)(M:Ms)(e:Bool),(M.ok e pw sc&&decide (ds.size≤255∧0≤sc∧sc≤255))=true→runQ (bz s) .beg {}=some (M.st,⟨ng,bn,dn,bz ds,sc,pw⟩)→
   rdN (bz s)=(if e=true then finP ja4 binD ⟨ng,bn,dn,bz ds,sc,pw⟩else none)∧ds.size≤255∧0≤sc∧sc≤255∧0≤pw∧pw<100:=fun ng bn dn ds sc pw M e hok hr=>by
  simp only[jaf,jae]at hok;obtain⟨hM,h1,h2,h3⟩:=hok
  have he:endP M.st=e∧0≤pw∧pw<100:=by
   cases M with
   | beg=>simp only[Ms.ok,jaf,jae]at hM;rw[hM.1,hM.2];exact⟨rfl,by omega,by omega⟩
   | bod q p=>simp only[Ms.ok,jaf,jae,beq_iff_eq]at hM;rw[hM.1,hM.2];exact⟨rfl,by omega,by omega⟩
   | exq q m=>
    simp only[Ms.ok,jaf,jae,beq_iff_eq]at hM;refine⟨?_,by omega,by omega⟩;rw[hM.1];show decide (0<m.toNat)=decide (0<m);rw[decide_eq_decide];omega
   | beh=>simp only[Ms.ok,jaf,jae]at hM;rw[hM.1];exact⟨rfl,by omega,by omega⟩
  rw[hrd,hr];refine⟨?_,h1,h2,h3,he.2.1,he.2.2⟩;show(if endP M.st=true then some _ else none).bind _=_;rw[he.1];cases e<;>rfl
 refine c_t (by simp only[S24_0,jaf,jae];refine⟨by simp[Ms.ok],?_,?_,?_,?_,?_,?_,?_⟩ <;>first | omega | exact Int.le_refl _ | rfl | (simp;done) | (simp;omega)) ⟨fun hr _ _ _ _ _ _ _ _=> ?_,?_,?_⟩
 ·have hr:runQ (bz s) .beg {}=none:=hr.h;exact hN _ rfl (by rw[hrd,hr];rfl)
 all_goals
  first | intro ng bn dn ds sc pw M e mv x y tx ty hok hms hr | intro ng bn dn ds sc pw M e mv hok hms hr
  have hr:runQ (bz s) .beg {}=some (M.st,⟨ng,bn,dn,bz ds,sc,pw⟩):=hr.h;obtain⟨g1,g2,g3,g4,g5,g6⟩:=hbody ng bn dn ds sc pw M e hok hr
  refine c_t (by
   obtain⟨m1,m2,m3⟩:=hms;subst m1
   cases M<;>first
    | rfl
    | (cases m2;done)
    | (cases m2;cases m3;rfl)) fun _=> ?_
  apply cond_intro<;>intro he
  ·have he:e=false:=by simpa using he
   exact hN _ rfl (by rw[g1,he];rfl)
  have he:e=true:=by simpa using he
  subst he;rw[if_pos rfl]at g1;apply cond_intro<;>intro hb
  ·subst hb;rw[finP,if_pos rfl]at g1
   have hT:((szO (jb4 (bz ds) (bz ⟨#[48,49]⟩))).toList==(⟨#[]⟩:Y).toList)=jco (bz ds):=by
    rw[jcv,jdf (trim_isB (jd1 ds))];exact trim_bits (bz ds)
   rw[hT];refine c_t (by rw[jaa (show ds.size≤9223372036854775807 by omega)];exact(congrArg (decide ((ds.size:Int)>31) || ·) (show(true&& (decide ((⟨#[48,49]⟩:Y).size≤1000) &&asc (bz ⟨#[48,49]⟩)) &&true)=true by kernel_rfl)).trans (Bool.or_true _)) ?_;apply cond_intro<;>intro h
   ·refine hN _ rfl (g1.trans (if_neg fun q=> ?_));simp only[Bool.or_eq_true,jae,Bool.not_eq_true']at h;rw[jap]at q;rcases h with h | h
    ·omega
    ·rw[q.2]at h;cases h
   ·simp only[Bool.or_eq_false_iff,decide_eq_false_iff_not,Bool.not_eq_false']at h;have hl:(bz ds).length≤31:=by rw[jap];omega
    rw[if_pos ⟨hl,h.2⟩]at g1;have hb64:=jlo h.2 (by omega);have hd:=jlk 20 (binG (bz ds) 0) hb64.1 (Int.lt_of_lt_of_le hb64.2 (by decide));refine c_t (by rw[h.2,jaa (show ds.size≤64 by omega)];rfl) (c_t (jaa ⟨by rw[jcy];omega,by omega,by omega⟩) ?_);rw[jdf (dz_isB _),jkm,g1];rfl
  ·subst hb;rw[finP,if_neg (fun h=>by cases h)]at g1;cases dn with
   | true=>
    rw[w64 (n:=0-pw) (by omega),w64 (n:=sc-(0-pw)) (by omega)];refine c_t rfl (c_t (jaa (by omega)) ?_);rw[g1,show sc-(0-pw)=sc - -pw by omega];rfl
   | false=>
    rw[w64 (n:=sc-pw) (by omega)];refine c_f rfl (c_t (jaa (by omega)) ?_);rw[g1];rfl
def K0:Env:=Env.nil
theorem ok_K0:jax Tryz.prog K0:=jan
def s191:Bool×Value:=(true,.agg ⟨Fx.tensL⟩)
theorem fn191:Fn1 Tryz.prog 191 Tryz.f191:= .m Tryz.func191
theorem v191(R:Value→Prop):ja1 Tryz.prog K0 noL Tryz.f191 [] (fun _=>none) 0 (fun v _ _=>R v)=(R (.agg ⟨Fx.tensL⟩)):=by kernel_rfl
theorem ok191:jao Tryz.prog 191 (sp0 s191):=by
 refine qure0 ok_K0 hmix fn191 jai fun hc=> ?_
 rw[ja2,v191]
 try dsimp only[s191]
def K1:Env:=Env.nil.add 191 (sp0 s191)
theorem ok_K1:jax Tryz.prog K1:=jak jan ok191
def s144(t:Ty):Bool×Value:=(decide (jbd t),I (bnd t))
theorem fn144:Fn1 Tryz.prog 144 Tryz.f144:= .m Tryz.func144
theorem v144(t:Ty)(R:Value→Prop):ja1 Tryz.prog K1 noL Tryz.f144 [Enc.enc t] (fun _=>none) 0 (fun v _ _=>R v)=(bif cv t 1 then cu (cl (Fx.Ty.p t) 19&&jby .i64 Fx.tensL (Fx.Ty.p t).toNat) (I (jau Fx.tensL (Fx.Ty.p t).toNat)) R else cu (decide (0≤Fx.Ty.p t)) (jv (1*2^Min.min (Fx.Ty.p t).toNat 64)) R):=by kernel_rfl
theorem ok144:jao Tryz.prog 144 (sp1 s144):=by
 refine jb8 ok_K1 hmix fn144 jai jag fun t hc=> ?_
 rw[ja2,v144];delta cu jv cl cv;have hc:(jbd t):=jab hc
 try dsimp only[s144]
 obtain⟨h1,h2,h3,h4,h5⟩:=Fx.valid_r hc;have hm:t.k=1→t.p≤9:=fun h=>by have:=hc.2.2.1;rw[h]at this;exact this
 apply cond_intro<;>intro h
 ·have h:t.k=1:=eq_of_beq h;have ht:=Fx.tens_at (p:=t.p) (by omega) (by have:=hm h;omega);refine c_t (by rw[ht.1,jaa (show 0≤t.p∧t.p<19 by have:=hm h;omega)];rfl) ?_;rw[ht.2,bnd,h];rfl
 ·have h:t.k=2:=hc.1.resolve_left (by simpa using h);refine c_t (jaa (by omega)) ?_;rw[Fx.shl_pw (by omega) (by omega),bnd,h];rfl
def K2:Env:=((Env.nil.add 55 (sp2 s55)).add 66 (sp1 s66)).add 144 (sp1 s144)
theorem ok_K2:jax Tryz.prog K2:=jak (jak (jak jan ok55) ok66) ok144
def s70(v:Vl)(t:Ty):Bool×Value:=(true,I (Fx.fits v t))
theorem fn70:Fn1 Tryz.prog 70 Tryz.f70:= .m Tryz.func70
theorem v70(v:Vl)(t:Ty)(R:Value→Prop):ja1 Tryz.prog K2 noL Tryz.f70 [Enc.enc v,Enc.enc t] (fun _=>none) 0 (fun v _ _=>R v)=(bif Fx.check t !=0 then R (I (Fx.check t))else bif decide (Fx.jbd t)then az (!d4 (Fx.Vl.s v) a8) (decide (Fx.Vl.n v≤b8 0 (Fx.bnd t)) || true) (!d4 (Fx.Vl.s v) a8 || (decide (Fx.Vl.n v≤b8 0 (Fx.bnd t)) || decide (Fx.Vl.n v≥Fx.bnd t))) (R (ak 6)) (R (ak 0))else False):=by kernel_rfl
theorem ok70:jao Tryz.prog 70 (sp2 s70):=by
 refine jct ok_K2 hmix fn70 jai jag fun v t hc=> ?_
 rw[ja2,v70];delta ar az ak b8 d4 a8
 try dsimp only[s70]
 rw[str0];by_cases hv:jbd t
 ·obtain⟨h1,h2,h3,h4⟩:=Fx.valid_r hv;have hb:=Fx.bnd_range hv;have hc:check t=0:=if_pos hv;rw[hc,w64 (n:=0-bnd t) (by omega)];refine c_f rfl (c_t (jaa hv) (c_t (by simp) ?_));unfold Fx.fits;rw[if_pos hv];apply cond_intro<;>intro h
  ·rw[if_neg];intro hf;unfold Fit at hf;simp[hf.1]at h;omega
  ·rw[if_pos];unfold Fit;simp at h;grind
 ·have hc:check t=5:=if_neg hv;rw[hc];refine c_t rfl ?_;unfold Fx.fits;rw[if_neg hv]
def s71(s:Y):Bool×Value:=(decide (s.size≤9223372036854775807),B (jco (bz s)))
theorem fn71:Fn1 Tryz.prog 71 Tryz.f71:= .m Tryz.func71
theorem v71(s:Y)(R:Value→Prop):ja1 Tryz.prog K2 noL Tryz.f71 [Enc.enc s] (fun _=>none) 0 (fun v _ _=>R v)=(cu (fw s&&j3 [49] 48) (B (jb s [49] 48)) R):=by kernel_rfl
theorem ok71:jao Tryz.prog 71 (sp1 s71):=by
 refine jb8 ok_K2 hmix fn71 jai jag fun s hc=> ?_
 rw[ja2,v71];delta cu a8 l5 jb ft j3 fw;have hc:(s.size≤9223372036854775807):=jab hc
 try dsimp only[s71]
 refine c_t (by rw[jaa hc,Bool.true_and];kernel_rfl) ?_;rw[jcv,jdf (trim_isB (jd1 s)),trim_bits]
theorem fn20:Fn1 Tryz.prog 20 Tryz.f20:= .m Tryz.func20
theorem fn22:Fn1 Tryz.prog 22 Tryz.f22:= .m Tryz.func22
def tkGo(b:Int):J→Int→Int→Int×Int
 | [],x,k=>(x,k)
 | d::r,x,k=>if b≤10*x+(d-48)then tkGo b r ((10*x+(d-48)).tmod b) 1 else tkGo b r (10*x+(d-48)) k
def jgd(g:Bool)(l:J)(c:Int):Bool:=if l=[]then !g&&decide (c=0)else decide (l.length≤400) && (jbm l&& (!(l.head?==some 48) && (!(l.getLast?==some 48) &&decide (-400≤c∧c≤400))))
def tkR(g:Bool)(l:J)(c:Int)(b q:Int):Int×Int:=(if g=true then -(tkGo b (plcR l c q) 0 0).1 else(tkGo b (plcR l c q) 0 0).1,(tkGo b (plcR l c q) 0 0).2)
def tkV(g:Bool)(l:J)(c:Int)(t:Ty):Int×Int×Int:=if jgd g l c=false then(0,0,1)else if¬jbd t then(0,0,5)else((tkR g l c (bnd t) t.q).1,(tkR g l c (bnd t) t.q).2,0)
abbrev vlv(n:Int):Value:= .agg ⟨[.int .i64 n,.string ⟨#[]⟩]⟩
def hideS(sp:Ab.Spec):E→Lk→Nat→(Value→Lk→Nat→Prop)→Prop:=fun args m n K=>match sp args (args.map (blkOf m))with
 | some (c,.string e)=>match cnd c with
  | true=>∀s':Y,e=s'→K (.string s') m n
  | false=>False
 | _=>False
theorem jfc{P:Program}{f:FuncId}{sp:Ab.Spec}(h:jao P f sp):jc7 P f (hideS sp):=by
 obtain⟨hc,hp⟩:=h;refine⟨hc,fun args m n K hh N w0 ι w hrel hwf hargs=> ?_⟩;unfold hideS at hh;split at hh
 case h_2=>exact hh.elim
 rename_i c e hs;split at hh
 case h_2=>exact hh.elim
 rename_i hcc;have hcc:c=true:=hcc;subst hcc;refine(hp args (.string e) N w0 m ι w hrel hs rfl).mono fun e' w' ⟨h1,h2⟩=> ?_
 exact⟨.string e,m,n,ι,by rw[h1];rfl,hh e rfl,Nat.le_refl _,fun _ _=>rfl,hrel.grow h2,hwf,by simp[ids]⟩
theorem jhs(c:Int):∀l:J,past c l=if(Cv.ahead c l).length<l.length then some (l.drop ((Cv.ahead c l).length+1))else none
 | []=>rfl
 | a::l=>by
  by_cases h:a=c
  ·have e:Cv.ahead c (a::l)=[]:=by simp[Cv.ahead,h]
   rw[e];simp[past,h]
  ·have e:past c (a::l)=past c l:=by simp[past,h]
   rw[e,jhs c l,jeo l h];simp
theorem ahead_le(c:Int)(l:J):(Cv.ahead c l).length≤l.length:=(List.takeWhile_sublist _).length_le
def decB(g:Bool)(x:J)(e:Int):Option Num:=if Cv.ahead 46 x++(past 46 x).getD []≠ []∧jbm (Cv.ahead 46 x)=true∧jbm ((past 46 x).getD [])=true then some (ja4 g (Cv.ahead 46 x++(past 46 x).getD []) (((past 46 x).getD []).length-e))else none
def decE(l:J):Option Int:=match past 69 l with
 | none=>some 0
 | some x=>expZ x
theorem decR_eq(g:Bool)(l:J):decR ja4 g l=(decE l).bind (decB g (Cv.ahead 69 l)):=by
 unfold decR decE;cases past 69 l with
 | none=>rfl
 | some x=>cases hx:expZ x<;>(simp only[hx];rfl)
theorem bz_dropE{s:Y}(n:Nat):bz (s.extract n s.size)=(bz s).drop n:=by
 rw[jcb];rw[List.take_of_length_le (by rw[jap];omega)]
structure DecIs (g:Bool)(s:Y)(x:Option Num):Prop where
 h:decR ja4 g (bz s)=x
def hid83:E→Lk→Nat→(Value→Lk→Nat→Prop)→Prop:=fun args m n K=>match args with
 | [.bool g,.string s]=>match cnd (decide (s.size≤1000))with
  | true=>∀x:Option Num,DecIs g s x→K (onV x) m n
  | false=>False
 | _=>False
def G6:Env:=(((((Env.nil.add 74 (sp1 s74)).add 80 (sp3 s80)).addG 79 (hideS (sp1 s79))).addG 81 (hideS (sp2 s87))).add 82 (sp1 s82)).addG 83 hid83
def k25(g:Bool)(t:Y)(R:Value→Prop):Prop:=gu (decide (gk t 1≥1)) (cl (gk t 1) (aq t) &&true) true (decide (gk t 1≥1) &&jaj t (gk t 1).toNat==66) (az (decide (gk t 1>31)) (ly t 1&& (fw (j1 t (gk t 1)) &&true)) (decide (gk t 1>31) || !jco (bz (j1 t (gk t 1)))) (R nq) (bif ly t 1 then i7 (jco (bz (j1 t (gk t 1)))) (decide ((j1 t (gk t 1)).size≤64)) (cl (binG (bz (j1 t (gk t 1))) 0) 18446744073709551616&&true) (∀a:Y,sz (decZ (binG (bz (j1 t (gk t 1))) 0))=a→ph g a 0 1000 R) False else False)) (bif ft t then∀a:Option Cv.Num,DecIs g t a→R (al [.agg ⟨m6 (a.getD num0).fst (a.getD num0).snd⟩,B a.isSome])else False)
theorem bin_31{l:J}(hb:jco l=true)(h:l.length≤31):0≤binG l 0∧binG l 0<2147483648:=by
 obtain⟨h1,h2⟩:=jms l 0 hb (by omega);refine⟨h1,Int.lt_of_lt_of_le h2 ?_⟩;have:(2:Nat) ^l.length≤2^31:=Nat.pow_le_pow_right (by omega) h;have h':((2^l.length:Nat):Int)≤((2^31:Nat):Int):=Int.ofNat_le.2 this;simp at h';omega
theorem jjq:∀(k n:Nat),n<10^ (k+1)→(Lib.decDigits n).length≤k+1
 | 0,n,h=>by rw[Lib.decDigits,dif_pos (by omega)];simp
 | k+1,n,h=>by
  rw[Lib.decDigits];split
  ·simp
  ·rw[List.length_append];have:=jjq k (n/10) (by rw[Nat.pow_succ]at h;omega);simp;omega
theorem v25(s:Y)(R:Value→Prop):ja1 Tryz.prog G6 noL Tryz.f25 [Enc.enc s] (fun _=>none) 0 (fun v _ _=>R v)=(bif decide ((s.size:Int)>255)then R (.tuple (.mk [.agg (.mk [B false,S (ByteArray.mk #[]),I 0]),B false]))else bif decide (s.size≤9223372036854775807)then∀(s':Y),szO (trZ (tlZ (bz s) 32) 32)=s'→bif s'.toList==(ByteArray.mk #[]).toList then R (.tuple (.mk [.agg (.mk [B false,S (ByteArray.mk #[]),I 0]),B true]))else bif decide ((0:Int)≤0∧0<(s'.size:Int))then bif jaj s' (Int.toNat 0)==45 || decide ((0:Int)≤0∧0<(s'.size:Int)) &&true then bif jaj s' (Int.toNat 0)==45 || jaj s' (Int.toNat 0)==43 then bif decide ((0:Int)≤1∧1≤(s'.size:Int)∧(s'.size:Int)≤(s'.size:Int))then k25 (jaj s' (Int.toNat 0)==45) (ByteArray.extract s' (Int.toNat 1) s'.size) R else False else k25 (jaj s' (Int.toNat 0)==45) s' R else False else False else False):=by kernel_rfl
theorem ends_of{s:Y}(h:bz s≠ []):0<s.size∧(bz s).head?=some (jaj s 0)∧(bz s).getLast?=some (jaj s (s.size-1)):=by
 have h0:0<s.size:=by
  rcases Nat.eq_zero_or_pos s.size with q | q
  ·exact absurd (bz_nil q) h
  ·exact q
 refine⟨h0,by rw[bz_head h0];rfl,?_⟩;have hb:=bz_last (s:=s) (n:=((s.size-1:Nat):Int)) (by omega) (by omega);rw[Int.toNat_natCast]at hb;rw[hb];simp
theorem num_bools(k:Nat)(b:Bool)(x y c:Int):(decide ((k:Int)≤400) && (b&& (x !=48&& (y !=48&& (decide (c≥ -400) &&decide (c≤400))))))=(decide (k≤400) && (b&& (!(some x==some (48:Int)) && (!(some y==some (48:Int)) &&decide (-400≤c∧c≤400))))):=by
 have e1:decide ((k:Int)≤400)=decide (k≤400):=by rw[decide_eq_decide];omega
 have e2:(decide (c≥ -400) &&decide (c≤400))=decide (-400≤c∧c≤400):=by rw[Bool.eq_iff_iff];simp
 rw[e1,e2];rfl
theorem trim_digs(l:J):decide (jb4 l (bz ⟨#[48,49,50,51,52,53,54,55,56,57]⟩)=[])=jbm l:=by
 have e:bz ⟨#[48,49,50,51,52,53,54,55,56,57]⟩=[48,49,50,51,52,53,54,55,56,57]:=rfl
 have hh:∀c:Int,hasZ [48,49,50,51,52,53,54,55,56,57] c=dig c:=fun c=>by
  unfold dig;rw[Bool.eq_iff_iff,ja8,jae];simp only[List.mem_cons,List.mem_nil_iff,or_false];omega
 rw[e,Bool.eq_iff_iff,jae];constructor
 ·intro h;unfold jbm;refine List.all_eq_true.2 fun c hc=> ?_
  cases q:dig c with
  | true=>rfl
  | false=>
   exfalso;rw[←hh]at q;obtain⟨d,r,h1,h2⟩:=jfp (List.mem_reverse.2 hc) q;have hm:d∈(l.reverse.dropWhile (hasZ [48,49,50,51,52,53,54,55,56,57])).reverse:=by rw[h1];simp
   obtain⟨d',r',h3,_⟩:=jfp hm h2;unfold jb4 at h;rw[h3]at h;cases h
 ·intro h;have ha:∀c∈l,hasZ [48,49,50,51,52,53,54,55,56,57] c=true:=fun c hc=>by rw[hh];exact List.all_eq_true.1 h c hc
  unfold jb4;rw[jh8 (l:=l.reverse) fun c hc=>ha c (List.mem_reverse.1 hc)];rfl
theorem jdz{g:Bool}{l:J}{c:Int}(h:jgd g l c=true):l.length≤400∧jbm l=true∧l.head?≠some 48∧(-400≤c∧c≤400)∧(l=[]→c=0):=by
 unfold jgd at h;split at h
 ·rename_i q;subst q;simp at h;simp[h.2,jbm]
 ·rename_i q;simp only[jaf,jae,Bool.not_eq_true',beq_eq_false_iff_ne]at h;exact⟨h.1,h.2.1,h.2.2.1,h.2.2.2.2,fun z=>absurd z q⟩
theorem jjl{l:J}(h:jbm l=true):IsB l:=fun c hc=>by
 have:=List.all_eq_true.1 h c hc;unfold dig at this;have:=jab this;omega
theorem jer{l:J}{c q:Int}(h:jbm l=true):jbm (plcR l c q)=true:=by
 refine List.all_eq_true.2 fun x hx=> ?_
 have hx:=List.mem_of_mem_take hx;unfold plcZ at hx;split at hx
 ·cases hx
 ·rcases List.mem_append.1 hx with hx | hx
  ·exact List.all_eq_true.1 h x hx
  ·rw[List.eq_of_mem_replicate hx];rfl
theorem plc_len{l:J}{c q:Int}(h:l.length≤400)(hc: -400≤c∧c≤400)(hq:0≤q∧q≤100):(plcR l c q).length≤1500:=by
 rw[plcR,List.length_take]
 have:(plcZ l c q).length≤1500:=by
  unfold plcZ;split
  ·simp
  ·rw[List.length_append,rep48,List.length_replicate];omega
 omega
theorem tm_rng{a b:Int}(h:0≤a)(hb:0<b):0≤a.tmod b∧a.tmod b<b:=by
 rw[Int.tmod_eq_emod_of_nonneg h];exact⟨Int.emod_nonneg _ (by omega),Int.emod_lt_of_pos _ hb⟩
theorem jg6{b:Int}(hb:0<b):∀(l:J)(x k:Int),jbm l=true→(0≤x∧x<b)→0≤(tkGo b l x k).1∧(tkGo b l x k).1<b
 | [],x,k,_,h=>h
 | d::r,x,k,hd,h=>by
  simp only[jbm,List.all_cons,jaf]at hd;have h1:=hd.1;unfold dig at h1;have h1:=jab h1;rw[tkGo];split
  ·exact jg6 hb r _ _ hd.2 (tm_rng (by omega) hb)
  ·exact jg6 hb r _ _ hd.2 (by omega)
theorem valid_facts{t:Ty}(h:jbd t):1≤t.p∧t.p≤31∧(1≤bnd t∧bnd t≤2147483648)∧(0≤t.q∧t.q≤100)∧(t.k=1∨t.k=2):=by
 have h1:=Fx.valid_r h;have h2:=Fx.bnd_range h;exact⟨h1.1,h1.2.1,by omega,by omega,h.1⟩
def H2':Env:=((Env.nil.add 154 (sp2 s154)).add 55 (sp2 s55)).add 30 (sp2 s30)
theorem ok_H2':jax Tryz.prog H2':=jak (jak (jak jan ok154) ok55) ok30
def s84(n:Nu):Bool×Value:=(decide (n.d.size≤9223372036854775807),B (jgd n.g (bz n.d) n.c))
theorem fn84:Fn1 Tryz.prog 84 Tryz.f84:= .m Tryz.func84
def qj:Yb:=[49,50,51,52,53,54,55,56,57]
theorem v84(n:Nu)(R:Value→Prop):ja1 Tryz.prog H2' noL Tryz.f84 [Enc.enc n] (fun _=>none) 0 (fun v _ _=>R v)=(bif d4 (Nu.d n) a8 then cu (Nu.c n==0 || true) (B (Nu.c n==0&& !Nu.g n)) R else oa (decide (ep (Nu.d n)≤400)) (fw (Nu.d n) &&j3 qj 48) (bk (jb (Nu.d n) qj 48) (cl 0 (ep (Nu.d n)) && (bif k8 (Nu.d n) 0 then cl (b8 (ep (Nu.d n)) 1) (ep (Nu.d n)) && (bif k8 (Nu.d n) (b8 (ep (Nu.d n)) 1)then jc (Nu.c n) (-400)else true)else true)) true) (jb (Nu.d n) qj 48&& (k8 (Nu.d n) 0&& (k8 (Nu.d n) (b8 (ep (Nu.d n)) 1) &&fq (Nu.c n) (-400) 400))) R):=by kernel_rfl
theorem ok84:jao Tryz.prog 84 (sp1 s84):=by
 refine jb8 ok_H2' hmix fn84 jai jag fun n hc=> ?_
 rw[ja2,v84];delta bk oa fq k8 b8 ep a8 l5 jb qj jc cl ft j3 fw cu d4;have hc:(n.d.size≤9223372036854775807):=jab hc
 try dsimp only[s84]
 have hz0:Int.toNat 0=0:=rfl;rw[jcv,hz0];apply cond_intro<;>intro h
 ·have h:=jab h;refine c_t (Bool.or_true _) ?_;rw[jgd,if_pos h];exact congrArg Value.bool (Bool.and_comm _ _)
 ·have h:bz n.d≠ []:=jac h;obtain⟨h0,hA,hB⟩:=ends_of h
  have hT:((szO (jb4 (bz n.d) (bz ⟨#[48,49,50,51,52,53,54,55,56,57]⟩))).toList==(⟨#[]⟩:Y).toList)=jbm (bz n.d):=by
   rw[jcv,jdf (trim_isB (jd1 n.d))];exact trim_digs (bz n.d)
  rw[hT,w64 (n:=(n.d.size:Int)-1) (by omega),show((n.d.size:Int)-1).toNat=n.d.size-1 by omega]
  refine c_t (by
   rw[jaa (show n.d.size≤9223372036854775807 by omega),jaa (show(0:Int)≤0∧0<(n.d.size:Int)by omega),jaa (show 0≤(n.d.size:Int)-1∧(n.d.size:Int)-1<(n.d.size:Int)by omega),show(decide ((⟨#[48,49,50,51,52,53,54,55,56,57]⟩:Y).size≤1000) &&asc (bz ⟨#[48,49,50,51,52,53,54,55,56,57]⟩))=true by kernel_rfl];simp only[Bool.true_and,Bool.or_true,Bool.cond_self]) ?_
  rw[jgd,if_neg h,hA,hB,jap];exact congrArg Value.bool (num_bools _ _ _ _ _)
def s86(n:Nu)(q:Int):Bool×Value:=(jgd n.g (bz n.d) n.c&&decide (0≤q∧q≤100),S (szO (plcR (bz n.d) n.c q)))
theorem fn86:Fn1 Tryz.prog 86 Tryz.f86:= .m Tryz.func86
def nr(b:Int)(a:UInt8):Y:=szO (repZ (bz ⟨#[a]⟩) b.toNat)
theorem v86(n:Nu)(q:Int)(R:Value→Prop):ja1 Tryz.prog H2' noL Tryz.f86 [Enc.enc n,Enc.enc q] (fun _=>none) 0 (fun v _ _=>R v)=(d5 (decide (Nu.c n≤q)) (km ⟨#[48]⟩ (b8 q (Nu.c n)) 1000 1000) (gz 0 0 (imax (b8 (ep (Nu.d n)) (e7 (Nu.c n) q)) 0) (imax (b8 (ep (Nu.d n)) (e7 (Nu.c n) q)) 0) (ep (Nu.d n))) (cu (i6 (Nu.d n) (nr (b8 q (Nu.c n)) 48)) (S (mg (Nu.d n++nr (b8 q (Nu.c n)) 48))) R) False (R (S (mg ((Nu.d n).extract 0 (imax (b8 (ep (Nu.d n)) (e7 (Nu.c n) q)) 0).toNat))))):=by kernel_rfl
theorem ok86:jao Tryz.prog 86 (sp2 s86):=by
 refine jct ok_H2' hmix fn86 jai jag fun n q hc=> ?_
 rw[ja2,v86];delta cq ar d5 ja mg b8 e7 ep cu nr i6 gz km
 try dsimp only[s86]
 have hc:(jgd n.g (bz n.d) n.c&&decide (0≤q∧q≤100))=true:=hc;simp only[jaf,jae]at hc;obtain⟨hn,hq⟩:=hc;obtain⟨f1,f2,f3,f4,f5⟩:=jdz hn;have f1':=f1;rw[jap]at f1
 have hr48:∀k,repZ [48] k=rep48 k:=fun k=>by
  induction k with
  | zero=>rfl
  | succ k ih=>rw[repZ,ih];rfl
 have e48:bz ⟨#[48]⟩=[48]:=rfl;have hpe:=place_eq (q:=q) f5 f3;rw[e48,←hpe];have hi48:∀k,IsB (rep48 k):=fun k c hc=>by rw[List.eq_of_mem_replicate hc];omega
 apply cond_intro<;>intro h
 ·have h:=jab h;rw[w64 (n:=q-n.c) (by omega),hr48,jcw,jdf (hi48 _)];refine c_t (jaa ⟨by omega,by omega,by decide⟩) (c_t (by rw[jcy,rep48,List.length_replicate];simp only[jb1,Nat.ble_eq];omega) ?_);rw[intP,if_pos h];rfl
 ·have h:=jac h;have hm:imax ((n.d.size:Int)-(n.c-q)) 0=max ((n.d.size:Int)-(n.c-q)) 0:=by unfold imax;split<;>omega
  rw[w64 (n:=n.c-q) (by omega),w64 (n:=(n.d.size:Int)-(n.c-q)) (by omega),hm,jie];refine c_t (jaa (by omega)) ?_;rw[intP,if_neg h,jap];rfl
def H5:Env:=((Env.nil.add 85 (sp1 s85)).add 84 (sp1 s84)).addG 86 (hideS (sp2 s86))
theorem ok_H5:jax Tryz.prog H5:=jam (jak (jak jan ok85) ok84) (jfc ok86)
def bpow(b:Int):Nat→Int→Int
 | 0,x=>x
 | n+1,x=>bpow b n (x*b)
theorem bpow_eq(b:Int):∀(n:Nat)(x:Int),bpow b n x=x*b^n
 | 0,x=>by rw[bpow,Int.pow_zero,Int.mul_one]
 | n+1,x=>by rw[bpow,bpow_eq b n,Int.pow_succ,Int.mul_assoc,Int.mul_comm b]
theorem bpow_ge{b:Int}(hb:1≤b):∀(n:Nat)(x:Int),1≤x→x≤bpow b n x
 | 0,x,h=>Int.le_refl _
 | n+1,x,h=>by
  rw[bpow];have h1:x*1≤x*b:=Int.mul_le_mul_of_nonneg_left hb (by omega);rw[Int.mul_one]at h1;exact Int.le_trans h1 (bpow_ge hb n (x*b) (by omega))
def V26_0:Bool×Y×Int×Int×Y×Int×Int×Y×Int×Int×Int×Int×Int×Int→E:=fun(g,d0,c,zn,zs,r5,r6,s,b,o,k,x,P,i)=> [.pointer (some ⟨0,0,some 0⟩),.pointer (some ⟨2,0,some 0⟩),I r5,I r6,S s,I b,I o,I k,I x,I P,I i]
def B26_0:Bool×Y×Int×Int×Y×Int×Int×Y×Int×Int×Int×Int×Int×Int→O:=fun(g,d0,c,zn,zs,r5,r6,s,b,o,k,x,P,i)=> [some ⟨[B g,S d0,I c],33,true⟩,some ⟨[I zn,S zs],25,true⟩]
def S26_0:LSpec (Bool×Y×Int×Int×Y×Int×Int×Y×Int×Int×Int×Int×Int×Int) where
 live:=[2,4,5,6,7,8,9,10,11,29,30]
 mid:=[0,2]
 n:=60
 dec vs bs:=match vs,bs with | [.pointer (some ⟨0,0,some 0⟩),.pointer (some ⟨2,0,some 0⟩),.int .i64 r5,.int .i64 r6,.string s,.int .i64 b,.int .i64 o,.int .i64 k,.int .i64 x,.int .i64 P,.int .i64 i],[some ⟨[.bool g,.string d0,.int .i64 c],33,true⟩,some ⟨[.int .i64 zn,.string zs],25,true⟩]=>some (g,d0,c,zn,zs,r5,r6,s,b,o,k,x,P,i) | _,_=>none
 pre:=fun(g,d0,c,zn,zs,r5,r6,s,b,o,k,x,P,i)=>decide (0≤i∧i≤P∧P≤100∧1≤b∧1≤x∧bpow b (P-i).toNat x≤2147483648)
 fin:=fun(g,d0,c,zn,zs,r5,r6,s,b,o,k,x,P,i) Z=>Z (.exit 0) [.pointer (some ⟨0,0,some 0⟩),.pointer (some ⟨2,0,some 0⟩),I r5,I r6,S s,I b,I o,I k,I (bpow b (P-i).toNat x),I P,I P] [some ⟨[B g,S d0,I c],33,true⟩,some ⟨[I zn,S zs],25,true⟩]
def ns(b:Y)(a:Int):O:=[ct true [ak a,.string b] 25]
def nx(c:Y)(a b e f:Int)(g:E)(d:Value):E:=av 0::av 2::ak a::ak b:: .string c::d::ak e::ak f::g
theorem r26_0(g:Bool)(d0:Y)(c:Int)(zn:Int)(zs:Y)(r5:Int)(r6:Int)(s:Y)(b:Int)(o:Int)(k:Int)(x:Int)(P:Int)(i:Int)(jk:Tmps)(R:Exit→E→O→Prop):(jbv Tryz.prog H5 noL Tryz.f26.ntmps (ja9 Tryz.f26 0) (tl S26_0.live (V26_0 (g,d0,c,zn,zs,r5,r6,s,b,o,k,x,P,i)) jk) (ml S26_0.mid (B26_0 (g,d0,c,zn,zs,r5,r6,s,b,o,k,x,P,i))) S26_0.n fun e t' m' _=>R e (List.map t' S26_0.live) (List.map m' S26_0.mid))=(bif b7 i P then R .normal (nx s r5 r6 o k (jv (x*b)::bv P i) (ak b)) (kv g d0 c::ns zs zn)else R (.exit 0) (nx s r5 r6 o k (ak x::bw P i) (ak b)) (kv g d0 c::ns zs zn)):=by kernel_rfl
theorem l26_0:∀t m n K,S26_0.h t m n K→Ab.Sem Tryz.prog Tryz.f26.ntmps (.loop (ja9 Tryz.f26 0)) t m n K:=by
 refine jbl ok_H5 hmix (by kernel_rfl) (ja7 _) S26_0 V26_0 B26_0 (fun(g,d0,c,zn,zs,r5,r6,s,b,o,k,x,P,i)=>(P-i).toNat) ?_ ?_ ?_
 ·intro vs bs s h;simp only[S26_0]at h;split at h
  all_goals first | (cases h;exact⟨rfl,rfl⟩) | cases h | (split at h<;>first | (rename_i hq;cases h;have hq:=jah hq;subst hq;exact⟨rfl,rfl⟩) | cases h)
 ·exact fun _ _ _ h=>h
 ·intro⟨g,d0,c,zn,zs,r5,r6,s,b,o,k,x,P,i⟩ jk Z hp hf;rw[r26_0];delta ct ak ns kv dv av nx bw aw ay bv jv b7;simp only[S26_0]at hp hf;obtain⟨h0,hP,h100,hb,hx,hm⟩:=jab hp;apply cond_intro<;>intro h
  ·have h:=jab h;have e:(P-i).toNat=(P-(i+1)).toNat+1:=by omega
   rw[e,bpow]at hm hf;have h1:x*1≤x*b:=Int.mul_le_mul_of_nonneg_left hb (by omega);rw[Int.mul_one]at h1;have h2:=bpow_ge hb (P-(i+1)).toNat (x*b) (by omega);rw[w64 (n:=x*b) (by omega),w64 (n:=i+1) (by omega)];exact⟨(g,d0,c,zn,zs,r5,r6,s,b,o,k,x*b,P,i+1),rfl,rfl,by simp only[S26_0,jae];omega,by simp only;omega,hf⟩
  ·have h:=jac h;obtain rfl:i=P:=by omega
   rw[Int.sub_self]at hf;exact hf
def V26_2:Bool×Y×Int×Int×Y×Int×Int×Y×Int×Int×Int×Int×Int→E:=fun(g,d0,c,zn,zs,r5,r6,s,x,k,b,L,i)=> [.pointer (some ⟨0,0,some 0⟩),.pointer (some ⟨2,0,some 0⟩),I r5,I r6,S s,I x,I k,I b,I L,I i]
def B26_2:Bool×Y×Int×Int×Y×Int×Int×Y×Int×Int×Int×Int×Int→O:=fun(g,d0,c,zn,zs,r5,r6,s,x,k,b,L,i)=> [some ⟨[B g,S d0,I c],33,true⟩,some ⟨[I zn,S zs],25,true⟩]
def S26_2:LSpec (Bool×Y×Int×Int×Y×Int×Int×Y×Int×Int×Int×Int×Int) where
 live:=[2,4,5,6,7,9,10,11,37,38]
 mid:=[0,2]
 n:=120
 dec vs bs:=match vs,bs with | [.pointer (some ⟨0,0,some 0⟩),.pointer (some ⟨2,0,some 0⟩),.int .i64 r5,.int .i64 r6,.string s,.int .i64 x,.int .i64 k,.int .i64 b,.int .i64 L,.int .i64 i],[some ⟨[.bool g,.string d0,.int .i64 c],33,true⟩,some ⟨[.int .i64 zn,.string zs],25,true⟩]=>some (g,d0,c,zn,zs,r5,r6,s,x,k,b,L,i) | _,_=>none
 pre:=fun(g,d0,c,zn,zs,r5,r6,s,x,k,b,L,i)=>decide (0≤i∧i≤L∧L=s.size∧s.size≤100000∧0≤x∧x<b∧b≤2147483648) &&jbm (bz s)
 fin:=fun(g,d0,c,zn,zs,r5,r6,s,x,k,b,L,i) Z=>Z (.exit 2) [.pointer (some ⟨0,0,some 0⟩),.pointer (some ⟨2,0,some 0⟩),I r5,I r6,S s,I (tkGo b ((bz s).drop i.toNat) x k).1,I (tkGo b ((bz s).drop i.toNat) x k).2,I b,I L,I L] [some ⟨[B g,S d0,I c],33,true⟩,some ⟨[I zn,S zs],25,true⟩]
theorem r26_2(g:Bool)(d0:Y)(c:Int)(zn:Int)(zs:Y)(r5:Int)(r6:Int)(s:Y)(x:Int)(k:Int)(b:Int)(L:Int)(i:Int)(jk:Tmps)(R:Exit→E→O→Prop):(jbv Tryz.prog H5 noL Tryz.f26.ntmps (ja9 Tryz.f26 2) (tl S26_2.live (V26_2 (g,d0,c,zn,zs,r5,r6,s,x,k,b,L,i)) jk) (ml S26_2.mid (B26_2 (g,d0,c,zn,zs,r5,r6,s,x,k,b,L,i))) S26_2.n fun e t' m' _=>R e (List.map t' S26_2.live) (List.map m' S26_2.mid))=(ez (bp s i) R i L (kv g d0 c::ns zs zn) (nx s r5 r6 k b (bw L i) (ak x)) 2 (bif decide (j8 s 10 x i≥b)then b9 (decide (b≠0)) R (kv g d0 c::ns zs zn) (nx s r5 r6 1 b (bv L i) (I ((j8 s 10 x i).tmod b)))else R .normal (nx s r5 r6 k b (bv L i) (I (j8 s 10 x i))) (kv g d0 c::ns zs zn))):=by kernel_rfl
theorem l26_2:∀t m n K,S26_2.h t m n K→Ab.Sem Tryz.prog Tryz.f26.ntmps (.loop (ja9 Tryz.f26 2)) t m n K:=by
 refine jbl ok_H5 hmix (by kernel_rfl) (ja7 _) S26_2 V26_2 B26_2 (fun(g,d0,c,zn,zs,r5,r6,s,x,k,b,L,i)=>(s.size-i).toNat) ?_ ?_ ?_
 ·intro vs bs s h;simp only[S26_2]at h;split at h
  all_goals first | (cases h;exact⟨rfl,rfl⟩) | cases h | (split at h<;>first | (rename_i hq;cases h;have hq:=jah hq;subst hq;exact⟨rfl,rfl⟩) | cases h)
 ·exact fun _ _ _ h=>h
 ·intro⟨g,d0,c,zn,zs,r5,r6,s,x,k,b,L,i⟩ jk Z hp hf;rw[r26_2];delta cq b7 ez ct ak ns kv dv av nx dx mq j8 aw ay bv b9 bw aq bp;simp only[S26_2]at hp hf;simp only[jaf,jae]at hp;obtain⟨⟨h0,hi,hL,hs,hx0,hxb,hb⟩,hd⟩:=hp;apply cond_intro<;>intro h
  ·have h:=jab h;rw[jb7 h0 (by omega),tkGo]at hf;have hc:=dig_cases (s:=s) (i:=i.toNat) (by omega) hd;refine c_t (jaa (by omega)) ?_;rw[w64 (n:=i+1) (by omega),w8s (by omega),w64 (n:=jaj s i.toNat-48) (by omega),w64 (n:=10*x) (by omega),w64 (n:=10*x+(jaj s i.toNat-48)) (by omega)];apply cond_intro<;>intro q
   ·have q:b≤10*x+(jaj s i.toNat-48):=jab q;rw[if_pos q]at hf;have hm:=tm_rng (a:=10*x+(jaj s i.toNat-48)) (b:=b) (by omega) (by omega);exact c_t (jaa (by omega)) ⟨(g,d0,c,zn,zs,r5,r6,s,(10*x+(jaj s i.toNat-48)).tmod b,1,b,L,i+1),rfl,rfl,by simp only[S26_2,jaf,jae];exact⟨by omega,hd⟩,by simp only;omega,hf⟩
   ·have q:¬b≤10*x+(jaj s i.toNat-48):=jac q;rw[if_neg q]at hf;exact⟨(g,d0,c,zn,zs,r5,r6,s,10*x+(jaj s i.toNat-48),k,b,L,i+1),rfl,rfl,by simp only[S26_2,jaf,jae];exact⟨by omega,hd⟩,by simp only;omega,hf⟩
  ·have h:=jac h;rw[jcq (by omega)]at hf;obtain rfl:i=L:=by omega
   exact hf
theorem lok26:LOKf Tryz.prog (twoL 0 S26_0.h 2 S26_2.h) Tryz.f26:=jga (by kernel_rfl) (by kernel_rfl) l26_0 l26_2
def s26(n:Nu)(t:Ty):Bool×Value:=(decide (n.d.size≤9223372036854775807),.tuple ⟨[vlv (tkV n.g (bz n.d) n.c t).1,I (tkV n.g (bz n.d) n.c t).2.1,I (tkV n.g (bz n.d) n.c t).2.2]⟩)
theorem fn26:Fn1 Tryz.prog 26 Tryz.f26:= .m Tryz.func26
def kw(b:Bool)(a:Y)(c d:Prop):Prop:=bif fw a then ar b c d else False
def po(c:Y)(b:Fx.Ty)(a:Int):Prod Int Int:=tkGo (bpow a (kl (Fx.Ty.p b)) 1) (bq c 0) 0 0
def rh(b:Y)(a:Cx.Nu)(f:Fx.Ty)(e:Int)(h:Value→Prop):Prop:=bif S26_0.pre (Nu.g a,(Nu.d a,(Nu.c a,((0:Int),(a8,((0:Int),((0:Int),(b,(e,((0:Int),((0:Int),((1:Int),(Fx.Ty.p f,(0:Int))))))))))))))then kp (S26_2.pre (Nu.g a,(Nu.d a,(Nu.c a,((0:Int),(a8,((0:Int),((0:Int),(b,((0:Int),((0:Int),(bpow e (kl (Fx.Ty.p f)) 1,(aq b,(0:Int)))))))))))))) (Tmps→f0 (Nu.g a) (al [.agg ⟨[.int .i64 (e7 0 (po b f e).fst),d9]⟩,.int .i64 (po b f e).snd,ak 0]) (al [.agg ⟨[.int .i64 (po b f e).fst,d9]⟩,.int .i64 (po b f e).snd,ak 0]) h) False else False
def ru(a:Yb):E:=[ak 0,e8 a]
def dt(a:Yb):Value:= .agg ⟨ru a⟩
theorem v26(n:Nu)(t:Ty)(R:Value→Prop):ja1 Tryz.prog H5 (twoL 0 S26_0.h 2 S26_2.h) Tryz.f26 [Enc.enc n,Enc.enc t] (fun _=>none) 0 (fun v _ _=>R v)=(kw (!jgd (Nu.g n) (bz (Nu.d n)) (Nu.c n)) (Nu.d n) (R (al (dt []::d7 0 1))) (bif !decide (Fx.jbd t)then R (al (dt []::d7 0 5))else bif jgd (Nu.g n) (bz (Nu.d n)) (Nu.c n) &&gx 0 (Fx.Ty.q t) 100 then∀a:Y,szO (plcR (bz (Nu.d n)) (Nu.c n) (Fx.Ty.q t))=a→(bif cv t 2 then rh a n t 2 R else rh a n t 10 R)else False)):=by kernel_rfl
theorem ok26:jao Tryz.prog 26 (sp2 s26):=by
 refine jct ok_H5 hmix fn26 lok26 jag fun n t hc=> ?_
 rw[ja2,v26];delta ar fw kw kp f0 al ak bq kl po a8 d9 e7 aq rh cv gx d7 e8 ru dt;have hc:(n.d.size≤9223372036854775807):=jab hc
 try dsimp only[s26]
 have hz0:Int.toNat 0=0:=rfl;refine c_t (jaa hc) (cond_intro (fun h=> ?_) (fun h=> ?_))
 ·rw[tkV,if_pos (by simpa using h)]
 have hn:jgd n.g (bz n.d) n.c=true:=by simpa using h
 rw[hn];apply cond_intro<;>intro q
 ·have q:¬jbd t:=by simpa using q
  rw[tkV,if_neg (by rw[hn];decide),if_pos q]
 have hv:jbd t:=by simpa using q
 obtain⟨f1,f2,f3,f4,f5⟩:=jdz hn;obtain⟨v1,v2,v3,v4,v5⟩:=valid_facts hv;refine c_t (by rw[jaa v4];rfl) fun s' hs'=> ?_
 have hbz:bz s'=plcR (bz n.d) n.c t.q:=by rw[←hs',jdf (jjl (jer f2))]
 have hsz:s'.size≤1500:=by rw[←jap,hbz];exact plc_len f1 f4 v4
 have hr:=jg6 (b:=bnd t) (by omega) (plcR (bz n.d) n.c t.q) 0 0 (jer f2) (by omega);rw[tkV,if_neg (by rw[hn];decide),if_neg (fun z=>z hv)];have hp2:2≤bnd t:=(Fx.bnd_range hv).1
 have key:∀b:Int,base t.k=b→bpow b (t.p-0).toNat 1=bnd t:=fun b hb=>by
  rw[bpow_eq,Int.one_mul,Int.sub_zero,bnd,pw,hb]
 apply cond_intro<;>intro hk
 ·have hk2:base t.k=2:=by
   have:t.k=2:=by simpa using hk
   rw[this];rfl
  have hb:=key _ hk2;refine c_t (by simp only[S26_0,jae];rw[hb];refine⟨?_,?_,?_,?_,?_,?_⟩ <;>first | omega | trivial) fun x=> ?_
  rw[hb];refine c_t (by simp only[S26_2,jaf,jae];exact⟨by refine⟨?_,?_,?_,?_,?_,?_,?_⟩ <;>first | omega | trivial,by rw[hbz];exact jer f2⟩) fun y=> ?_
  rw[hz0,List.drop_zero,hbz,w64 (n:=0-(tkGo (bnd t) (plcR (bz n.d) n.c t.q) 0 0).1) (by omega),tkR];apply cond_intro<;>intro h
  ·rw[if_pos h,Int.zero_sub]
  ·rw[if_neg (by rw[h];decide)]
 ·have hk2:base t.k=10:=by
   have:¬t.k=2:=by simpa using hk
   rw[v5.resolve_right this];rfl
  have hb:=key _ hk2;refine c_t (by simp only[S26_0,jae];rw[hb];refine⟨?_,?_,?_,?_,?_,?_⟩ <;>first | omega | trivial) fun x=> ?_
  rw[hb];refine c_t (by simp only[S26_2,jaf,jae];exact⟨by refine⟨?_,?_,?_,?_,?_,?_,?_⟩ <;>first | omega | trivial,by rw[hbz];exact jer f2⟩) fun y=> ?_
  rw[hz0,List.drop_zero,hbz,w64 (n:=0-(tkGo (bnd t) (plcR (bz n.d) n.c t.q) 0 0).1) (by omega),tkR];apply cond_intro<;>intro h
  ·rw[if_pos h,Int.zero_sub]
  ·rw[if_neg (by rw[h];decide)]
structure Wh where
 n:Int
 t:Ty
instance:Enc Wh where
 enc x:= .agg ⟨[.int .i64 x.n,.int .i64 x.t.k,.int .i64 x.t.p,.int .i64 x.t.q,.bool x.t.v,.string x.t.s]⟩
 dec | .agg ⟨[.int .i64 n,.int .i64 k,.int .i64 p,.int .i64 q,.bool v,.string s]⟩=>some ⟨n,⟨k,p,q,v,s⟩⟩ | _=>none
 dec_some:=by
  intro v a h;split at h
  ·cases h;rfl
  ·cases h
 plain_enc _:=rfl
def wid(t:Ty):Int:=if t.k=2 then 1+(100*t.p+331)/332+3 else t.p+3
def fixU(n q:Int):J:=rep48 (q+1-(itoZ n).length).toNat++itoZ n
def fixD(n q:Int):J:=if q>0 then(fixU n q).take ((fixU n q).length-q.toNat)++46::(fixU n q).drop ((fixU n q).length-q.toNat)else itoZ n
def fixS(n q:Int):J:=if n<0 then 45::fixD (-n) q else fixD n q
def txtZ(n:Int)(t:Ty):J:=List.replicate (wid t-(fixS n t.q).length).toNat 32++fixS n t.q
def K5:Env:=Env.nil
theorem ok_K5:jax Tryz.prog K5:=jan
def s112(t:Ty):Bool×Value:=(decide (0≤t.p∧t.p≤1000),I (wid t))
theorem fn112:Fn1 Tryz.prog 112 Tryz.f112:= .m Tryz.func112
theorem v112(t:Ty)(R:Value→Prop):ja1 Tryz.prog K5 noL Tryz.f112 [Enc.enc t] (fun _=>none) 0 (fun v _ _=>R v)=(f0 (cv t 2) (I (d8 (dx (1+IntKind.i64.wrap ((IntKind.i64.wrap (IntKind.i64.wrap (100*Fx.Ty.p t)+331)).tdiv 332)) .i64) 3)) (I (d8 (Fx.Ty.p t) 3)) R):=by kernel_rfl
theorem ok112:jao Tryz.prog 112 (sp1 s112):=by
 refine jb8 ok_K5 hmix fn112 jai jag fun t hc=> ?_
 rw[ja2,v112];delta f0 d8 dx cv;have hc:(0≤t.p∧t.p≤1000):=jab hc
 try dsimp only[s112]
 unfold wid;apply cond_intro<;>intro h
 ·have h:t.k=2:=eq_of_beq h;have hd:(100*t.p+331).tdiv 332=(100*t.p+331)/332:=Int.tdiv_eq_ediv_of_nonneg (by omega);rw[if_pos h,w64 (n:=100*t.p) (by omega),w64 (n:=100*t.p+331) (by omega),hd,w64 (n:=(100*t.p+331)/332) (by omega),w64 (n:=1+(100*t.p+331)/332) (by omega),w64 (by omega)]
 ·have h:¬t.k=2:=by simpa using h
  rw[if_neg h,w64 (by omega)]
def K6:Env:=((Env.nil.addG 29 (hideS (sp1 s29))).addG 30 (hideS (sp2 s30))).add 112 (sp1 s112)
theorem ok_K6:jax Tryz.prog K6:=jak (jam (jam jan (jfc ok29)) (jfc ok30)) ok112
def s321(x:Wh):Bool×Value:=(decide (jbd x.t∧ -2147483648≤x.n∧x.n≤2147483648),S (szO (txtZ x.n x.t)))
theorem fn321:Fn1 Tryz.prog 321 Tryz.f321:= .m Tryz.func321
def rq(b c:Y)(d:Cx.Wh)(e:Value→Prop):Prop:=bif i6 b c then bif gx 0 (Fx.Ty.p (Wh.t d)) 1000 then ou (imax (e7 (wid (Wh.t d)) (kx b c)) 0) (∀a:Y,nr (imax (e7 (wid (Wh.t d)) (kx b c)) 0) 32=a→cu (i6 a (b++c)) (.string (a++(b++c))) e) 32 else False else False
def ov(a b:Y)(c:Cx.Wh):Int:=b8 (kx a b) (Fx.Ty.q (Wh.t c))
def k321(sg s':Y)(x:Wh)(R:Value→Prop):Prop:=bif decide (Fx.Ty.q (Wh.t x)>0)then ou (imax (b8 (d8 (Fx.Ty.q (Wh.t x)) 1) (aq s')) 0) (∀a:Y,nr (imax (b8 (d8 (Fx.Ty.q (Wh.t x)) 1) (aq s')) 0) 48=a→(bif i6 a s' then bif gz 0 0 (ov a s' x) (ov a s' x) (kx a s')then bif i6 ((a++s').extract 0 (ov a s' x).toNat) ⟨#[46]⟩then bif gz 0 (ov a s' x) (kx a s') (kx a s') (kx a s')then bif i6 ((a++s').extract 0 (ov a s' x).toNat++⟨#[46]⟩) (m7 a s' (Fx.Ty.q (Wh.t x)))then rq sg ((a++s').extract 0 (ov a s' x).toNat++⟨#[46]⟩++m7 a s' (Fx.Ty.q (Wh.t x))) x R else False else False else False else False else False)) 48 else rq sg s' x R
theorem jd9{m:Int}(h:0≤m∧m≤2147483648):(itoZ m).length≤10:=by
 obtain⟨k,rfl⟩:∃k:Nat,m=(k:Int):=⟨m.toNat,by omega⟩
 rw[itoZ,Lib.itoa_nonneg,zl,List.length_map];exact jjq 9 k (by omega)
theorem ji5(n:Int):IsB (itoZ n):=zl_isB _
theorem jhp(k:Nat):IsB (List.replicate k 32):=fun c hc=>by rw[List.eq_of_mem_replicate hc];omega
theorem rep48_isB(k:Nat):IsB (rep48 k):=fun c hc=>by rw[List.eq_of_mem_replicate hc];omega
theorem jho(c:Int):∀n,repZ [c] n=List.replicate n c
 | 0=>rfl
 | n+1=>by rw[repZ,jho c n];rfl
theorem fitN{n:Nat}(h:n≤100000):jb1 n=true:=by simp only[jb1,Nat.ble_eq];omega
theorem imax_eq(a b:Int):imax a b=max a b:=by unfold imax;split<;>omega
theorem k321f(sg D X:Y)(t:Ty)(hp:0≤t.p∧t.p≤31)(hw:0≤wid t∧wid t≤100)(hs:sg.size≤1)(hD:D.size≤100)(hX:bz X=List.replicate (wid t-(bz sg++bz D).length).toNat 32++(bz sg++bz D)):
  bif jb1 (ByteArray.size sg+ByteArray.size D)then bif decide (0≤Ty.p t∧Ty.p t≤1000)then
   bif decide (0≤imax (IntKind.wrap IntKind.i64 (wid t-(↑(ByteArray.size (sg++D)):Int))) 0∧imax (IntKind.wrap IntKind.i64 (wid t-(↑(ByteArray.size (sg++D)):Int))) (0:Int)≤1000∧ByteArray.size (ByteArray.mk #[32])≤1000)then
    ∀s2:Y,szO (repZ (bz (ByteArray.mk #[32])) (Int.toNat (imax (IntKind.wrap IntKind.i64 (wid t-(↑(ByteArray.size (sg++D)):Int))) 0)))=s2→
     bif jb1 (ByteArray.size s2+ByteArray.size (sg++D))then Value.string (s2++(sg++D))=Value.string X else False
   else False else False else False:=by
 have hz:(sg++D).size=sg.size+D.size:=ByteArray.size_append;rw[w64 (n:=wid t-((sg++D).size:Int)) (by omega),imax_eq];refine c_t (fitN (by omega)) (c_t (jaa (by omega)) (c_t (jaa ⟨by omega,by omega,by decide⟩) fun s2 e2=> ?_))
 have b2:bz s2=List.replicate (wid t-(bz sg++bz D).length).toNat 32:=by
  rw[←e2,show bz (ByteArray.mk #[32])=[32]from rfl,jho,jdf (jhp _),List.length_append,jap,jap];congr 1;omega
 have z2:s2.size≤100:=by rw[←jap,b2,List.length_replicate];omega
 refine c_t (fitN (by omega)) ?_;congr 1;rw[←jhk (s2++(sg++D)),←jhk X,jcw,jcw,b2,hX]
theorem k321_ok(sg s':Y)(x:Wh)(m:Int)(h:szO (itoZ m)=s')(hm:0≤m∧m≤2147483648)(hv:jbd x.t)(hs:sg.size≤1)(hg:IsB (bz sg)):
  k321 sg s' x (fun v=>v= .string (szO (List.replicate (wid x.t-(bz sg++fixD m x.t.q).length).toNat 32++(bz sg++fixD m x.t.q)))):=by
 unfold k321;delta km ou cu i6 nr e7 kx gx rq m7 b8 ov gz aq d8;obtain⟨n,t⟩:=x;simp only at hv ⊢;obtain⟨v1,v2,v3,v4,v5⟩:=Fx.valid_r hv;have hw:0≤wid t∧wid t≤100:=by unfold wid;split<;>omega
 have b1:bz s'=itoZ m:=by rw[←h,jdf (ji5 _)]
 have z1:s'.size≤10:=by rw[←jap,b1];exact jd9 hm
 have hX:∀l,IsB l→bz (szO (List.replicate (wid t-(bz sg++l).length).toNat 32++(bz sg++l)))=List.replicate (wid t-(bz sg++l).length).toNat 32++(bz sg++l):=fun l hl=>jdf ((jhp _).append (hg.append hl))
 apply cond_intro<;>intro hq
 ·have hq:t.q>0:=jab hq;rw[w64 (n:=t.q+1) (by omega),w64 (n:=t.q+1-(s'.size:Int)) (by omega),imax_eq];refine c_t (jaa ⟨by omega,by omega,by decide⟩) fun s1 e1=> ?_
  have c1:bz s1=rep48 (t.q+1-(itoZ m).length).toNat:=by
   rw[←e1,show bz (ByteArray.mk #[48])=[48]from rfl,jho,jdf (l:=List.replicate _ 48) (rep48_isB _),←b1,jap];rw[rep48];congr 1;omega
  have y1:(s1.size:Int)=max (t.q+1-(s'.size:Int)) 0:=by rw[←jap,c1,rep48,List.length_replicate,←b1,jap];omega
  have hu:bz (s1++s')=fixU m t.q:=by rw[jcw,c1,b1];rfl
  have zu:(s1++s').size=s1.size+s'.size:=ByteArray.size_append;generalize s1++s'=u at*;rw[w64 (n:=(u.size:Int)-t.q) (by omega)]
  have e3:bz (u.extract 0 ((u.size:Int)-t.q).toNat)=(fixU m t.q).take ((fixU m t.q).length-t.q.toNat):=by
   rw[jie,hu,←hu,jap];congr 1;omega
  have e4:bz (u.extract ((u.size:Int)-t.q).toNat u.size)=(fixU m t.q).drop ((fixU m t.q).length-t.q.toNat):=by
   rw[bz_dropE,hu,←hu,jap];congr 1;omega
  have z3:(u.extract 0 ((u.size:Int)-t.q).toNat).size=u.size-t.q.toNat:=by rw[ex_size];omega
  have z4:(u.extract ((u.size:Int)-t.q).toNat u.size).size=t.q.toNat:=by rw[ex_size];omega
  generalize u.extract 0 ((u.size:Int)-t.q).toNat=a at*;generalize u.extract ((u.size:Int)-t.q).toNat u.size=b at*;have n46:(ByteArray.mk #[46]).size=1:=rfl
  have hD:bz (a++ByteArray.mk #[46]++b)=fixD m t.q:=by
   rw[jcw,jcw,e3,e4,fixD,if_pos hq,show bz (ByteArray.mk #[46])=[46]from rfl,List.append_assoc];rfl
  have zD:(a++ByteArray.mk #[46]++b).size=a.size+1+b.size:=by rw[ByteArray.size_append,ByteArray.size_append,n46]
  refine c_t (fitN (by omega)) (c_t (jaa (by omega)) (c_t (fitN (by rw[n46];omega)) (c_t (jaa (by omega)) (c_t (fitN (by rw[ByteArray.size_append,n46];omega)) ?_))));rw[←hD];exact k321f sg _ _ t (by omega) hw hs (by omega) (hX _ (jd1 _))
 ·have hq:¬t.q>0:=jac hq;have hD:bz s'=fixD m t.q:=by rw[b1,fixD,if_neg hq]
  rw[←hD];exact k321f sg _ _ t (by omega) hw hs (by omega) (hX _ (jd1 _))
theorem v321(x:Wh)(R:Value→Prop):ja1 Tryz.prog K6 noL Tryz.f321 [Enc.enc x] (fun _=>none) 0 (fun v _ _=>R v)=(d5 (a7 (Wh.n x) 0) (gx (-9223372036854775808) (b8 0 (Wh.n x)) 9223372036854775807) (gx (-9223372036854775808) (Wh.n x) 9223372036854775807) (∀a:Y,szO (itoZ (b8 0 (Wh.n x)))=a→k321 ⟨#[45]⟩ a x R) False (∀a:Y,szO (itoZ (Wh.n x))=a→k321 a8 a x R)):=by kernel_rfl
theorem ok321:jao Tryz.prog 321 (sp1 s321):=by
 refine jb8 ok_K6 hmix fn321 jai jag fun x hc=> ?_
 rw[ja2,v321];delta cq ar d5 a8 b8 gx a7;have hc:(jbd x.t∧ -2147483648≤x.n∧x.n≤2147483648):=jab hc
 try dsimp only[s321]
 obtain⟨hv,h1,h2⟩:=hc;apply cond_intro<;>intro h
 ·have h:x.n<0:=jab h;rw[w64 (n:=0-x.n) (by omega)];refine c_t (jaa (by omega)) fun s' e=> ?_
  have:=k321_ok ⟨#[45]⟩ s' x (0-x.n) e (by omega) hv (by decide) (jd1 _);rw[txtZ,fixS,if_pos h,show -x.n=0-x.n by omega];exact this
 ·have h:¬x.n<0:=jac h;refine c_t (jaa (by omega)) fun s' e=> ?_
  have:=k321_ok ⟨#[]⟩ s' x x.n e (by omega) hv (by decide) (jd1 _);rw[txtZ,fixS,if_neg h];exact this
end Go.Cx
end
section
namespace Go.Cx
open Go Go.Proofs Go.RowKit Go.Extern.Stop Go.Stop Go.Extern
theorem as_nil(t:Value)(w:World):
  Calls Tryz.prog 100 #[.nilIface,t] w fun e w'=>e= .returned (.bool false)∧w'=w:=by
 go_enter Tryz.func100,Tryz.ntmps100
 go_wp2
 go_ret
 exact⟨rfl,rfl⟩
theorem a_valueOf121(t:Addr)(w:World):(ReflectliteValue.unpack (.iface 121 (.pointer (some t)))).run Tryz.prog w
  = .ok (.agg #[.pointer (some ⟨10,121,none⟩),.pointer (some ⟨w.heap.size,0,none⟩),.int .u64 150]) (w.alloc (.cells #[.pointer (some t)] 121)):=by kernel_rfl
theorem a_type121 (a : Addr) (w : World) : (ReflectliteValue.methodAny (ReflectliteValue.valueError "reflectlite.Value.Type" 0) (fun t _ _ _ => ReflectliteType.toType t) #[.agg #[.pointer (some ⟨10, 121, none⟩), .pointer (some a), .int .u64 150]]).run Tryz.prog w
  = .ok (.iface 229 (.agg #[.pointer (some ⟨10,121,none⟩)])) w:=by kernel_rfl
theorem a_kind121(w:World):((ReflectliteType.abiMethod fun t=>(fun a:Nat=>Value.int IntKind.u8 (a:Int)) <$> Rtype.kind t) #[.pointer (some ⟨10,121,none⟩)]).run Tryz.prog w= .ok (.int .u8 22) w:=by kernel_rfl
theorem a_kind119(w:World):((ReflectliteType.abiMethod fun t=>(fun a:Nat=>Value.int IntKind.u8 (a:Int)) <$> Rtype.kind t) #[.pointer (some ⟨10,119,none⟩)]).run Tryz.prog w= .ok (.int .u8 25) w:=by kernel_rfl
theorem a_rlm(z:Sem Value)(f:TypeId→Addr→Nat→Nat→Sem Value)(v:Value):
  ReflectliteValue.method z f #[v]=(do match←ReflectliteValue.parts v with | none=>z | some (t,a,fl)=>f t a fl (fl%32)):=rfl
theorem a_parts121(a:Addr)(w:World):(ReflectliteValue.parts (.agg #[.pointer (some ⟨10,121,none⟩),.pointer (some a),.int .u64 150])).run Tryz.prog w= .ok (some (121,a,150)) w:=by kernel_rfl
theorem a_isNil121(a p:Addr)(W:World)(ha:W.cell? a=some (.pointer (some p))):
  (ReflectliteValue.method (ReflectliteValue.valueError "reflectlite.Value.IsNil" 0) ReflectliteValue.isNil #[.agg #[.pointer (some ⟨10, 121, none⟩), .pointer (some a), .int .u64 150]]).run Tryz.prog W = .ok (.bool false) W := by
 rw[a_rlm];simp only[Sem.run_bind,a_parts121,Result.andThen];simp[ReflectliteValue.isNil,loadVar,isAgg,underlying,Tryz.underlying121,ha,Result.andThen]
theorem a_methodKind (h : Value) (w : World) : (Go.method 421 229 (.agg #[h]) "Kind").run Tryz.prog w = .ok (316, h) w := by kernel_rfl
theorem a_methodElem (h : Value) (w : World) : (Go.method 421 229 (.agg #[h]) "Elem").run Tryz.prog w = .ok (331, .agg #[h]) w := by kernel_rfl
theorem a_methodImplements (h : Value) (w : World) : (Go.method 421 229 (.agg #[h]) "Implements").run Tryz.prog w = .ok (332, .agg #[h]) w := by kernel_rfl
theorem a_methodAssignableTo (h : Value) (w : World) : (Go.method 421 229 (.agg #[h]) "AssignableTo").run Tryz.prog w = .ok (329, .agg #[h]) w := by kernel_rfl
theorem a_elem121(w:World):(ReflectliteType.method ReflectliteType.elem #[.agg #[.pointer (some ⟨10,121,none⟩)]]).run Tryz.prog w= .ok (.iface 229 (.agg #[.pointer (some ⟨10,119,none⟩)])) w:=by kernel_rfl
theorem a_implements119 (w : World) : (ReflectliteType.relation "Implements" ReflectliteType.implements_ #[.agg #[.pointer (some ⟨10, 119, none⟩)], .iface 229 (.agg #[.pointer (some ⟨10, 105, none⟩)])]).run Tryz.prog w = .ok (.bool true) w := by kernel_rfl
theorem a_typeOf119(v:Value)(w:World):(ReflectliteType.typeOf #[.iface 119 v]).run Tryz.prog w= .ok (.iface 229 (.agg #[.pointer (some ⟨10,119,none⟩)])) w:=by kernel_rfl
theorem a_assignable119 (w : World) : (ReflectliteType.relation "AssignableTo" ReflectliteType.assignableTo #[.agg #[.pointer (some ⟨10, 119, none⟩)], .iface 229 (.agg #[.pointer (some ⟨10, 119, none⟩)])]).run Tryz.prog w = .ok (.bool true) w := by kernel_rfl
theorem a_valueOf119(s:ByteArray)(w:World):(ReflectliteValue.unpack (.iface 119 (.agg #[.string s]))).run Tryz.prog w
  = .ok (.agg #[.pointer (some ⟨10,119,none⟩),.pointer (some ⟨w.heap.size,0,none⟩),.int .u64 153]) (w.alloc (.cells #[.string s] 119)):=by kernel_rfl
theorem a_elemOf121(w:World):(Rtype.elem? 121).run Tryz.prog w= .ok (some 119) w:=by kernel_rfl
theorem a_mk119(p:Addr)(w:World):(ReflectliteValue.mk 119 p ReflectliteValue.flagAddr).run Tryz.prog w= .ok (.agg #[.pointer (some ⟨10,119,none⟩),.pointer (some p),.int .u64 409]) w:=by kernel_rfl
theorem a_elemV121(a p:Addr)(W:World)(ha:W.cell? a=some (.pointer (some p))):
  (ReflectliteValue.method (ReflectliteValue.valueError "reflectlite.Value.Elem" 0) ReflectliteValue.elem #[.agg #[.pointer (some ⟨10, 121, none⟩), .pointer (some a), .int .u64 150]]).run Tryz.prog W
   = .ok (.agg #[.pointer (some ⟨10,119,none⟩),.pointer (some p),.int .u64 409]) W:=by
 rw[a_rlm];simp only[Sem.run_bind,a_parts121,Result.andThen];simp[ReflectliteValue.elem,loadVar,isAgg,underlying,Tryz.underlying121,ha,Result.andThen,a_elemOf121,a_mk119]
theorem a_rls(v x:Value):ReflectliteValue.set #[v,x]=(do
  let (some (dst,a,fl),some (src,b,_)):=(←ReflectliteValue.parts v,←ReflectliteValue.parts x)
   | unsupported (.noEntry "extern/(internal/reflectlite.Value).Set.zeroValue")
  if fl / ReflectliteValue.flagAddr % 2 == 0 then unsupported (.noEntry "extern/(internal/reflectlite.Value).Set.unaddressable")
  let val←loadVar src b
  if←Rtype.directlyAssignable dst src then storeVar dst a val
  else if←Rtype.implements dst src then
   if(←Rtype.kind src)==20 then
    match val with
    | .nilIface => unsupported (.noEntry "extern/reflectlite: a nil value of one interface type handed on as a value of another")
    | _=>storeVar dst a val
   else storeVar dst a (.iface src val)
  else panicString ("reflectlite.Set: value of type " ++ (← Rtype.spelt src) ++ " is not assignable to type " ++ (← Rtype.spelt dst))
  pure (.tuple #[])):=rfl
theorem a_parts119a(a:Addr)(w:World):(ReflectliteValue.parts (.agg #[.pointer (some ⟨10,119,none⟩),.pointer (some a),.int .u64 409])).run Tryz.prog w= .ok (some (119,a,409)) w:=by kernel_rfl
theorem a_parts119(a:Addr)(w:World):(ReflectliteValue.parts (.agg #[.pointer (some ⟨10,119,none⟩),.pointer (some a),.int .u64 153])).run Tryz.prog w= .ok (some (119,a,153)) w:=by kernel_rfl
theorem a_direct119(w:World):(Rtype.directlyAssignable 119 119).run Tryz.prog w= .ok true w:=by kernel_rfl
theorem a_size119(w:World):(sizeOf 119).run Tryz.prog w= .ok 1 w:=by kernel_rfl
theorem a_load119(b:Addr)(s:ByteArray)(W:World)(hb:W.cell? b=some (.string s))(hs:b.spot=none):(loadVar 119 b).run Tryz.prog W= .ok (.agg #[.string s]) W:=by
 obtain⟨bb,bo,bs⟩:=b;subst hs;simp[loadVar,isAgg,underlying,Tryz.underlying119,a_size119,loadCells,loadCellsFrom,Addr.add,hb,Result.andThen]
theorem a_set119(ta b:Addr)(s:ByteArray)(old:Value)(W:World)(hb:W.cell? b=some (.string s))(hs:b.spot=none)(ht:W.cell? ta=some old)(hts:ta.spot=none)(hf:W.frozen? ta=false):
  (ReflectliteValue.set #[.agg #[.pointer (some ⟨10, 119, none⟩), .pointer (some ta), .int .u64 409], .agg #[.pointer (some ⟨10, 119, none⟩), .pointer (some b), .int .u64 153]]).run Tryz.prog W
   = .ok (.tuple #[]) (W.setCell ta (.string s)):=by
 obtain⟨tb,tq,ts⟩:=ta;subst hts;rw[a_rls];simp only[Sem.run_bind,a_parts119a,a_parts119,Result.andThen];have hl:=a_load119 b s W hb hs;have hd:=a_direct119 W;simp[ReflectliteValue.flagAddr,hl,hd,storeVar,Value.cells,storeCells,Addr.add,a_size119,Result.andThen];rw[run_store Tryz.prog W ⟨tb,tq,none⟩ _ _ (by rfl)];simp[ht,hf]
end Go.Cx
end
section
namespace Go.Cx
open Go Go.Proofs Go.RowKit Go.Extern.Stop Go.Stop Go.Extern Go.Shelf
set_option maxRecDepth 100000 in
set_option maxHeartbeats 4000000 in
theorem as_hit(s:ByteArray)(t:Addr)(old:Value)(w:World)(hg:w.cell? ⟨0,0,none⟩=some (.iface 229 (.agg #[.pointer (some ⟨10,105,none⟩)])))(hts:t.spot=none)(ht0:w.cell? t=some old)(hf0:w.frozen? t=false):
  Calls Tryz.prog 100 #[.iface 119 (.agg #[.string s]),.iface 121 (.pointer (some t))] w fun ev w'=>ev= .returned (.bool true)∧w'=((((w.alloc (.cells #[.pointer (some t)] 121)).alloc (.cells #[.pointer (some ⟨10,121,none⟩),.pointer (some ⟨w.heap.size,0,none⟩),.int .u64 150] 187)).alloc (.cells #[.pointer (some ⟨10,121,none⟩),.pointer (some ⟨w.heap.size,0,none⟩),.int .u64 150] 187)).alloc (.cells #[.string s] 119)).setCell t (.string s):=by
 have h6:= @run_callFunc_extern Tryz.prog 172 _ (fun args=>ReflectliteValue.unpack (args.getD 0 (.tuple #[]))) Tryz.func172 (by kernel_rfl) (by kernel_rfl) (by kernel_rfl) (by kernel_rfl)
 have h7 := @run_callFunc_extern Tryz.prog 173 _ (ReflectliteValue.methodAny (ReflectliteValue.valueError "reflectlite.Value.Type" 0) (fun t _ _ _ => ReflectliteType.toType t)) Tryz.func173 (by kernel_rfl) (by kernel_rfl) (by kernel_rfl) (by kernel_rfl)
 have h8 := @run_callFunc_extern Tryz.prog 174 _ (ReflectliteValue.method (ReflectliteValue.valueError "reflectlite.Value.IsNil" 0) ReflectliteValue.isNil) Tryz.func174 (by kernel_rfl) (by kernel_rfl) (by kernel_rfl) (by kernel_rfl)
 have h27:= @run_callFunc_extern Tryz.prog 316 _ (ReflectliteType.abiMethod fun t=>do pure (.int .u8 (←Rtype.kind t))) Tryz.func316 (by kernel_rfl) (by kernel_rfl) (by kernel_rfl) (by kernel_rfl);have h37:= @run_callFunc_extern Tryz.prog 331 _ (ReflectliteType.method ReflectliteType.elem) Tryz.func331 (by kernel_rfl) (by kernel_rfl) (by kernel_rfl) (by kernel_rfl)
 have h38 := @run_callFunc_extern Tryz.prog 332 _ (ReflectliteType.relation "Implements" ReflectliteType.implements_) Tryz.func332 (by kernel_rfl) (by kernel_rfl) (by kernel_rfl) (by kernel_rfl)
 have h10:= @run_callFunc_extern Tryz.prog 226 _ ReflectliteType.typeOf Tryz.func226 (by kernel_rfl) (by kernel_rfl) (by kernel_rfl) (by kernel_rfl)
 have h35 := @run_callFunc_extern Tryz.prog 329 _ (ReflectliteType.relation "AssignableTo" ReflectliteType.assignableTo) Tryz.func329 (by kernel_rfl) (by kernel_rfl) (by kernel_rfl) (by kernel_rfl)
 have h11 := @run_callFunc_extern Tryz.prog 227 _ (ReflectliteValue.method (ReflectliteValue.valueError "reflectlite.Value.Elem" 0) ReflectliteValue.elem) Tryz.func227 (by kernel_rfl) (by kernel_rfl) (by kernel_rfl) (by kernel_rfl)
 have h12:= @run_callFunc_extern Tryz.prog 228 _ ReflectliteValue.set Tryz.func228 (by kernel_rfl) (by kernel_rfl) (by kernel_rfl) (by kernel_rfl);have tO:=a_typeOf119;have mA:=a_methodAssignableTo;have a25:=a_assignable119;have v25:=a_valueOf119;have f6:=a_valueOf121;have f7:=a_type121;have mK:=a_methodKind;have mE:=a_methodElem;have mI:=a_methodImplements;have k27:=a_kind121;have k25:=a_kind119;have e27:=a_elem121;have i25:=a_implements119;have n8:=a_isNil121 ⟨w.heap.size,0,none⟩ t ((w.alloc (.cells #[.pointer (some t)] 121)).alloc (.cells #[.pointer (some ⟨10,121,none⟩),.pointer (some ⟨w.heap.size,0,none⟩),.int .u64 150] 187)) (by simp)
 have hlt:0<w.heap.size:=by
  rcases Nat.eq_zero_or_pos w.heap.size with h0 | h
  ·simp[World.cell?,h0]at hg
  ·exact h
 have hg2:((w.alloc (.cells #[.pointer (some t)] 121)).alloc (.cells #[.pointer (some ⟨10,121,none⟩),.pointer (some ⟨w.heap.size,0,none⟩),.int .u64 150] 187)).cell? ⟨0,0,none⟩=some (.iface 229 (.agg #[.pointer (some ⟨10,105,none⟩)])):=by
  rw[World.cell?_alloc_lt _ _ ⟨0,0,none⟩ (by simp),World.cell?_alloc_lt _ _ ⟨0,0,none⟩ hlt];exact hg
 have htl:t.block<w.heap.size:=by
  rcases Nat.lt_or_ge t.block w.heap.size with h | h
  ·exact h
  ·simp[World.cell?,Array.getElem?_eq_none h]at ht0
 have el:=a_elemV121 ⟨w.heap.size,0,none⟩ t (((w.alloc (.cells #[.pointer (some t)] 121)).alloc (.cells #[.pointer (some ⟨10,121,none⟩),.pointer (some ⟨w.heap.size,0,none⟩),.int .u64 150] 187)).alloc (.cells #[.pointer (some ⟨10,121,none⟩),.pointer (some ⟨w.heap.size,0,none⟩),.int .u64 150] 187)) (by rw[World.cell?_alloc_lt _ _ ⟨w.heap.size,0,none⟩ (by simp;omega)];simp)
 have st:=a_set119 t ⟨w.heap.size+1+1+1,0,none⟩ s old ((((w.alloc (.cells #[.pointer (some t)] 121)).alloc (.cells #[.pointer (some ⟨10,121,none⟩),.pointer (some ⟨w.heap.size,0,none⟩),.int .u64 150] 187)).alloc (.cells #[.pointer (some ⟨10,121,none⟩),.pointer (some ⟨w.heap.size,0,none⟩),.int .u64 150] 187)).alloc (.cells #[.string s] 119))
  (by rw[World.cell?_alloc_at _ _ _ _ (by simp)];rfl) rfl
  (by rw[World.cell?_alloc_lt _ _ t (by simp;omega),World.cell?_alloc_lt _ _ t (by simp;omega),World.cell?_alloc_lt _ _ t (by simp;omega),World.cell?_alloc_lt _ _ t htl];exact ht0) hts
  (by rw[World.frozen?_alloc_old _ _ t (by simp;omega),World.frozen?_alloc_old _ _ t (by simp;omega),World.frozen?_alloc_old _ _ t (by simp;omega),World.frozen?_alloc_old _ _ t (Nat.ne_of_lt htl)];exact hf0)
 have e175:∀args w,(callFunc 175 args).run Tryz.prog w= .ok (.enter 175 args) w:=enters_of Tryz.func175 (by kernel_rfl) rfl
 go_enter Tryz.func100,Tryz.ntmps100
 go_wp2
 refine wp_loop_rounds 1 ?_;rw[rounds_succ]
 go_wp2
 go_ret
 exact⟨rfl,rfl⟩
end Go.Cx
end
noncomputable section
namespace Go.Cx
open Go Go.Ab Go.Proofs Go.RowKit
def h100:E→Lk→Nat→(Value→Lk→Nat→Prop)→Prop:=fun args m n K=>match args with
 | [.nilIface,_]=>K (.bool false) m n
 | [.iface t (.agg ⟨[.string s]⟩),.iface t' (.pointer (some ⟨k,0,some _⟩))]=>match Nat.beq t 119,Nat.beq t' 121,m k with
  | true,true,some ⟨[.string _],ty,true⟩=>match Nat.ble itTy ty with
   | false=>K (.bool true) (m.upd k ⟨[.string s],ty,true⟩) n
   | true=>False
  | _,_,_=>False
 | _=>False
theorem c100:jbw Tryz.prog 100:=⟨_,Tryz.func100,by kernel_rfl,rfl⟩
theorem tab_as{w:World}(h:TabsIn w.heap.size w):w.cell? ⟨0,0,none⟩=some (.iface 229 (.agg #[.pointer (some ⟨10,105,none⟩)])):=
 h.cell (b:=0) rfl (i:=0) rfl
theorem gen100:jc7 Tryz.prog 100 h100:=by
 refine⟨c100,fun args m n K hh N w0 ι w hrel hwf hargs=> ?_⟩;unfold h100 at hh;split at hh
 ·rename_i t;refine(as_nil (ren ι t) w).mono fun e w' ⟨h1,h2⟩=> ?_
  subst h2;exact⟨.bool false,m,n,ι,by rw[h1];rfl,hh,Nat.le_refl _,fun _ _=>rfl,hrel,hwf,by simp[ids]⟩
 ·rename_i t s t' k sp;split at hh
  case h_2=>exact hh.elim
  rename_i old ty ht ht' hk;split at hh
  case h_2=>exact hh.elim
  rename_i hty;have ht:=jah ht;have ht':=jah ht';subst ht ht';obtain⟨h1,h2,h3⟩:=hrel.blk k _ hk rfl;rw[objOf_cells hty]at h3
  have e1:([.iface 119 (.agg ⟨[.string s]⟩),.iface 121 (.pointer (some ⟨k,0,some sp⟩))]:E).map (ren ι)=[.iface 119 (.agg ⟨[.string s]⟩),.iface 121 (.pointer (some ⟨(ι k).1,0,none⟩))]:=by
   simp[ren,renL,ren1,h1]
  rw[e1]
  have hc:w.cell? ⟨(ι k).1,0,none⟩=some (.string old):=by
   simp only[World.cell?,h3];rfl
  have hf:w.frozen? ⟨(ι k).1,0,none⟩=false:=by
   simp[World.frozen?,h3]
  refine(as_hit s ⟨(ι k).1,0,none⟩ (.string old) w (tab_as hrel.tabs) rfl hc hf).mono fun e w' ⟨g1,g2⟩=> ?_
  have hb:Below w.heap.size w ((((w.alloc (.cells #[.pointer (some ⟨(ι k).1,0,none⟩)] 121)).alloc (.cells #[.pointer (some ⟨10,121,none⟩),.pointer (some ⟨w.heap.size,0,none⟩),.int .u64 150] 187)).alloc (.cells #[.pointer (some ⟨10,121,none⟩),.pointer (some ⟨w.heap.size,0,none⟩),.int .u64 150] 187)).alloc (.cells #[.string s] 119)):=
   ((((Below.refl _ _).alloc (Nat.le_refl _) _).alloc (by simp) _).alloc (by simp;omega) _).alloc (by simp;omega) _
  have hr:=hrel.grow hb;obtain⟨_,_,h4⟩:=hr.blk k _ hk rfl;rw[objOf_cells hty]at h4;have hw:=hr.write hk rfl (b':=⟨[.string s],ty,true⟩) rfl rfl rfl (it_ble hty);refine⟨.bool true,_,n,ι,by rw[g1];rfl,hh,Nat.le_refl _,fun _ _=>rfl,?_,fun j b hj=> ?_,by simp[ids]⟩
  ·rw[g2,setCell_eq_setRow _ _ _ _ _ _ _ h4];exact hw
  ·by_cases e:j=k
   ·subst e;rw[Lk.upd_same]at hj;cases hj;exact⟨(hwf j _ hk).1,by simp[idsL,ids]⟩
   ·rw[Lk.upd_other _ _ e]at hj;exact hwf j b hj
 ·exact hh.elim
end Go.Cx
end
noncomputable section
namespace Go.Cx
open Go Go.Ab Go.Proofs Go.Shelf Go.Px Go.Cv
def RdN(s:Y)(b g:Bool)(d:Y)(c:Int):Prop:=rdN (bz s)=none∧b=false∧g=false∧d=⟨#[]⟩∧c=0∨ ∃l,rdN (bz s)=some (g,l,c)∧d=szO l∧b=true
def hidN:E→Lk→Nat→(Value→Lk→Nat→Prop)→Prop:=fun args m n K=>match args with
 | [.string s]=>match cnd (decide (s.size≤9223372036854775807))with
  | true=>∀(b g:Bool)(d:Y)(c:Int),RdN s b g d c→K (.tuple ⟨[.agg ⟨[.bool g,.string d,.int .i64 c]⟩,.bool b]⟩) m n
  | false=>False
 | _=>False
theorem gen_hidN:jc7 Tryz.prog 24 hidN:=by
 obtain⟨hc,hp⟩:=ok24;refine⟨hc,fun args m n K hh N w0 ι w hrel hwf hargs=> ?_⟩;unfold hidN at hh;split at hh
 case h_2=>exact hh.elim
 rename_i s;split at hh
 case h_2=>exact hh.elim
 rename_i hcc;have hs:(sp1 s24) [.string s] ([Value.string s].map (blkOf m))=some (true,onV (rdN (bz s))):=congrArg some (Prod.ext (show(s24 s).1=true from hcc) rfl);refine(hp [.string s] _ N w0 m ι w hrel hs rfl).mono fun e' w' ⟨h1,h2⟩=> ?_
 refine⟨onV (rdN (bz s)),m,n,ι,by rw[h1];rfl,?_,Nat.le_refl _,fun _ _=>rfl,hrel.grow h2,hwf,by simp[ids,idsL,onV]⟩;cases hr:rdN (bz s)with
 | none=>
  have:=hh false false ⟨#[]⟩ 0 (.inl ⟨hr,rfl,rfl,rfl,rfl⟩);rw[←jgk]at this;exact this
 | some x=>exact hh true x.1 (szO x.2.1) x.2.2 (.inr ⟨x.2.1,by rw[hr],rfl,rfl⟩)
end Go.Cx
end
