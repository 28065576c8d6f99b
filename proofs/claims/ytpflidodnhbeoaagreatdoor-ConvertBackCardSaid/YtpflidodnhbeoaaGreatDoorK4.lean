/-
  Part 4: the run and laws.
-/
import Derived.Test.YtpflidodnhbeoaaGreatDoorK3
set_option linter.unusedVariables false
set_option linter.unusedSimpArgs false
noncomputable section
set_option maxHeartbeats 3200000
namespace Go.Cx
open Go Go.Ab Go.Proofs Go.Shelf Go.Px Go.Cv
open Go.Fx (Ty Vl check jbd most base pw bnd Fit fits tv vv tup V0 T0 jbe jbh ja6 jbt str0)
def s322(s:Y):Bool×Value:=(true,S s)
theorem fn322:Fn1 Tryz.prog 322 Tryz.f322:= .m Tryz.func322
theorem v322(s:Y)(R:Value→Prop):ja1 Tryz.prog K6 noL Tryz.f322 [Enc.enc s] (fun _=>none) 0 (fun v _ _=>R v)=(R (S s)):=by kernel_rfl
theorem ok322:jao Tryz.prog 322 (sp1 s322):=by
 refine jb8 ok_K6 hmix fn322 jai jag fun s hc=> ?_
 rw[ja2,v322]
 try dsimp only[s322]
def s324(s:Y):Bool×Value:=(true,S s)
theorem fn324:Fn1 Tryz.prog 324 Tryz.f324:= .m Tryz.func324
theorem v324(s:Y)(R:Value→Prop):ja1 Tryz.prog K6 noL Tryz.f324 [Enc.enc s] (fun _=>none) 0 (fun v _ _=>R v)=(R (S s)):=by kernel_rfl
theorem ok324:jao Tryz.prog 324 (sp1 s324):=by
 refine jb8 ok_K6 hmix fn324 jai jag fun s hc=> ?_
 rw[ja2,v324]
 try dsimp only[s324]
def K7:Env:=Env.nil
theorem ok_K7:jax Tryz.prog K7:=jan
def s115(t:Ty):Bool×Value:=(decide (t.q≤t.p∧t.p≤1000∧0≤t.q),I (if t.k=2 then t.p else(332*(t.p-t.q)+99)/100))
theorem fn115:Fn1 Tryz.prog 115 Tryz.f115:= .m Tryz.func115
theorem v115(t:Ty)(R:Value→Prop):ja1 Tryz.prog K7 noL Tryz.f115 [Enc.enc t] (fun _=>none) 0 (fun v _ _=>R v)=(f0 (cv t 2) (I (Fx.Ty.p t)) (jv ((d8 (dx (332*b8 (Fx.Ty.p t) (Fx.Ty.q t)) .i64) 99).tdiv 100)) R):=by kernel_rfl
theorem ok115:jao Tryz.prog 115 (sp1 s115):=by
 refine jb8 ok_K7 hmix fn115 jai jag fun t hc=> ?_
 rw[ja2,v115];delta f0 jv d8 dx b8 cv;have hc:(t.q≤t.p∧t.p≤1000∧0≤t.q):=jab hc
 try dsimp only[s115]
 apply cond_intro<;>intro h
 ·have h:t.k=2:=eq_of_beq h;rw[if_pos h]
 ·have h:¬t.k=2:=by simpa using h
  rw[if_neg h,w64 (n:=t.p-t.q) (by omega),w64 (n:=332*(t.p-t.q)) (by omega),w64 (n:=332*(t.p-t.q)+99) (by omega)];by_cases hn:0≤332*(t.p-t.q)+99
  ·rw[Int.tdiv_eq_ediv_of_nonneg hn,w64 (by omega)]
  ·exfalso;omega
def K8:Env:=Env.nil
theorem ok_K8:jax Tryz.prog K8:=jan
def inB:Nat→Int→J
 | 0,_=> []
 | k+1,n=>inB k (n/2)++ [48+n%2]
theorem zrow8(k:Nat):zrow (.int .u8 0) k=cz (List.replicate k 0):=by
 rw[cz,List.map_replicate];refine List.eq_replicate_iff.2 ⟨by rw[zrow_len];simp[Value.cells],fun v hv=> ?_⟩;have:=zrow_mem hv;simpa[Value.cells]using this
theorem row_zero(k:Nat)(hk:k≤1000):RowP (zrow (.int .u8 0) k) k k:=by
 rw[zrow8];have:=(jj0 (List.replicate k 0) (tail:=[]) (cap:=k) rfl (by simp) (by omega)).1;rw[List.append_nil,List.length_replicate]at this;exact this
theorem row_set{d:E}{n cap:Nat}(h:RowP d n cap){k:Nat}(hk:k<n)(x:Int):RowP (setL d (0+k*1) [.int .u8 x]) n cap∧zc (setL d (0+k*1) [.int .u8 x]) n=(zc d n).set k x:=by
 have e:setL d (0+k*1) [.int .u8 x]=d.set k (.int .u8 x):=by rw[Nat.zero_add,Nat.mul_one];rfl
 have ht:(d.set k (.int .u8 x)).take n=cz ((zc d n).set k x):=by
  rw[List.take_set,h.take,cz,cz,List.map_set]
 rw[e];refine⟨⟨by rw[ht];exact jel _,?_,by rw[List.length_set];exact h.len,h.le,h.cap⟩,?_⟩
 ·refine jbc.2 fun v hv=> ?_
  rcases List.mem_or_eq_of_mem_set hv with hv | hv
  ·exact jbc.1 h.plain v hv
  ·rw[hv];rfl
 ·show List.map iv ((d.set k (.int .u8 x)).take n)=_;rw[ht];simp[cz,Function.comp_def,iv]
def V223_0:Int×Int×Y×Nat×Nat×Int×Int×E→E:=fun(n,m,r,a,b,L,i,d)=> [I n,I m,S r,.slice (some ⟨200,0,some 1⟩) a b,I L,I i]
def B223_0:Int×Int×Y×Nat×Nat×Int×Int×E→O:=fun(n,m,r,a,b,L,i,d)=> [some ⟨d,5,true⟩]
def S223_0:LSpecA (Int×Int×Y×Nat×Nat×Int×Int×E) where
 live:=[0,1,4,5,10,11]
 mid:=[200]
 n:=210
 ap:=[(.tmp 5,200)]
 dec vs bs:=match vs,bs with
  | [.int .i64 n,.int .i64 m,.string r,.slice (some ⟨200,0,some 1⟩) a b,.int .i64 L,.int .i64 i],[some ⟨d,5,true⟩]=>some (n,m,r,a,b,L,i,d)
  | _,_=>none
 pre:=fun(n,m,r,a,b,L,i,d)=>jci d a b&&decide (0≤n∧n≤2147483648∧0≤i∧i≤L∧L=m∧m≤1000∧(a:Int)=m)
 fin:=fun(n,m,r,a,b,L,i,d) Z=>∀(n':Int)(d':E),jci d' a b=true→zc d' a=inB (m-i).toNat n++(zc d a).drop (m-i).toNat→Z (.exit 0) [I n',I m,S r,.slice (some ⟨200,0,some 1⟩) a b,I L,I L] [some ⟨d',5,true⟩]
theorem r223_0(n:Int)(m:Int)(r:Y)(a:Nat)(b:Nat)(L:Int)(i:Int)(d:E)(jk:Tmps)(R:Exit→E→O→Prop):(jbv Tryz.prog K8 noL Tryz.f223.ntmps (ja9 Tryz.f223 0) (tl S223_0.live (V223_0 (n,m,r,a,b,L,i,d)) jk) (ml S223_0.mid (B223_0 (n,m,r,a,b,L,i,d))) S223_0.n fun e t' m' _=>S223_0.out R e t' m')=(d5 (b7 i L) (cl (b8 (e7 m 1) i) (a:Int)) (f9 d 200 200) (bif Nat.ble (dp (b8 (e7 m 1) i)+1) d.length then mn R n 2 .i64 (setL d (dp (b8 (e7 m 1) i)) [jz (d8 48 (n.tmod 2))]) (ax r (bv L i) (a9 200 a b)) 200 (ak m)else False) False (R (.exit 0) (ak n::ak m::S r::fp L i 200 a b) (ic d))):=by kernel_rfl
theorem l223_0:LOKf Tryz.prog (oneL 0 S223_0.hA) Tryz.f223:=by
 refine jbo (h:=S223_0.hA) (by kernel_rfl) (jbr ok_K8 hmix (by kernel_rfl) (ja7 _) S223_0 V223_0 B223_0 (fun(n,m,r,a,b,L,i,d)=>(L-i).toNat) ?_ ?_ ?_)
 ·intro vs bs s h;simp only[S223_0]at h;split at h
  all_goals first | (cases h;exact⟨rfl,rfl⟩) | cases h | (split at h<;>first | (rename_i hq;cases h;have hq:=jah hq;subst hq;exact⟨rfl,rfl⟩) | cases h)
 ·exact fun⟨n,m,r,a,b,L,i,d⟩ hp=>by
   simp only[S223_0,jaf]at hp;simp[V223_0,B223_0,S223_0,ja0,jbz,idsL,ids,jaq (jat.1 hp.1).plain]
 ·intro⟨n,m,r,a,b,L,i,d⟩ jk Z hp hf;rw[r223_0];delta cq ar d5 ie ic ak bw dv a9 fp b9 mn ax aw ay bv jz d8 dp b8 e7 f9 cl b7;simp only[S223_0]at hp hf;simp only[jaf,jae]at hp;obtain⟨hr,hn0,hn1,hi0,hiL,hLm,hm,ham⟩:=hp;have hr:=jat.1 hr;have hzl:=jba hr;apply cond_intro<;>intro h
  ·have h:=jab h
   have hk:(IntKind.wrap .i64 (IntKind.wrap .i64 (m-1)-i))=((m-i).toNat-1:Nat):=by
    rw[w64 (n:=m-1) (by omega),w64 (by omega)];omega
   rw[hk,Int.toNat_natCast];generalize hkk:(m-i).toNat-1=k;have hka:k<a:=by omega
   obtain⟨g1,g2⟩:=row_set hr hka (48+n%2)
   have hw:IntKind.u8.wrap (IntKind.i64.wrap (48+n.tmod 2))=48+n%2:=by
    rw[Int.tmod_eq_emod_of_nonneg hn0,w64 (by omega),w8 (by omega)]
   have hq:IntKind.i64.wrap (n.tdiv 2)=n/2:=by rw[Int.tdiv_eq_ediv_of_nonneg hn0,w64 (by omega)]
   rw[hw,hq,w64 (n:=i+1) (by omega),g1.good,g1.rlb];have hl:=hr.len;have hle:=hr.le;refine c_t (jaa (by omega)) (c_t (by rw[Nat.ble_eq];omega) (c_t rfl ⟨(n/2,m,r,a,b,L,i+1,_),rfl,rfl,?_,by simp only;omega,fun n' d' h1 h2=>hf n' d' h1 ?_⟩))
   ·simp only[S223_0,jaf,jae];exact⟨jat.2 g1,by omega⟩
   ·have e1:(m-i).toNat=k+1:=by omega
    have e2:(m-(i+1)).toNat=k:=by omega
    rw[h2,e1,e2,g2,inB,List.append_assoc];congr 1;rw[List.drop_set,if_neg (by omega),Nat.sub_self];have:(zc d a).drop k=(zc d a)[k]'(by omega)::(zc d a).drop (k+1):=List.drop_eq_getElem_cons (by omega);rw[this];rfl
  ·have h:=jac h;rw[hr.good,hr.rlb];obtain rfl:i=L:=by omega
   refine c_t rfl (hf n d (jat.2 hr) ?_);rw[show(m-i).toNat=0 by omega];rfl
def s223(n:Int)(m:Int):Bool×Value:=(decide (0≤n∧n≤2147483648∧0≤m∧m≤1000),S (szO (inB m.toNat n)))
theorem fn223:Fn1 Tryz.prog 223 Tryz.f223:= .m Tryz.func223
theorem v223(n:Int)(m:Int)(R:Value→Prop):ja1 Tryz.prog K8 (oneL 0 S223_0.hA) Tryz.f223 [Enc.enc n,Enc.enc m] (fun _=>none) 0 (fun v _ _=>R v)=(pu (S223_0.toLSpec.pre (n,(m,(a8,(m.toNat,(m.toNat,(natO m.toNat,((0:Int),rlbL [(2,200)] (zrow (ao 0) m.toNat))))))))) m 2 (Int→(∀a:E,lx true (inB (kl m) n) (gv (m-0) [(2,200)] (zrow (ao 0) m.toNat) m.toNat) a a m.toNat m.toNat 210 R))):=by kernel_rfl
theorem ok223:jao Tryz.prog 223 (sp2 s223):=by
 refine jct ok_K8 hmix fn223 l223_0 jag fun n m hc=> ?_
 rw[ja2,v223];delta cq gm jf ao gx pu cu lx gv kl a8;have hc:(0≤n∧n≤2147483648∧0≤m∧m≤1000):=jab hc
 try dsimp only[s223]
 obtain⟨h1,h2,h3,h4⟩:=hc;have hr:=row_zero m.toNat (by omega);rw[hr.good,hr.rlb];refine c_t (by rw[jaa (show 0≤m∧m≤m by omega)];simp only[Bool.true_and,jbx,jaf,Nat.ble_eq];omega) (c_t (by rw[jbi hr.plain];rfl) (c_t ?_ fun n' d' g1 g2=> ?_))
 ·simp only[S223_0,jaf,jae];rw[jb6];exact⟨jat.2 hr,by omega⟩
 ·have g1:=jat.1 g1;rw[Int.sub_zero]at g2;have hzl:=jba hr;rw[List.drop_eq_nil_of_le (by omega),List.append_nil]at g2;refine c_t (by rw[jbi g1.plain];rfl) fun _=>c_t g1.str.1 ?_
  rw[g1.str.2,g2,jc3]
end Go.Cx
end
noncomputable section
namespace Go.Cx
open Go Go.Ab Go.Px Go.Cv
theorem jew{p:Int→Bool}:∀{l r:J},l.all p=true→(l++r).dropWhile p=r.dropWhile p
 | [],_,_=>rfl
 | c::l,r,h=>by
  simp only[List.all_cons,jaf]at h;rw[List.cons_append,List.dropWhile_cons_of_pos h.1,jew h.2]
theorem drop_not{p:Int→Bool}{l:J}(h:∀c,l.head?=some c→p c=false):l.dropWhile p=l:=by
 cases l with
 | nil=>rfl
 | cons c r=>rw[List.dropWhile_cons_of_neg (by simp[h c rfl])]
theorem trim_core{bl m br:J}(hbl:bl.all (· ==32)=true)(hbr:br.all (· ==32)=true)(h:(32:Int) ∉m)(h0:m≠ []):trR (trL (bl++m++br))=m:=by
 have e1:trL (bl++m++br)=m++br:=by
  rw[trL,List.append_assoc,jew hbl];refine drop_not fun c hc=> ?_
  cases m with
  | nil=>exact absurd rfl h0
  | cons a r=>
   simp only[List.cons_append,List.head?_cons,Option.some.injEq]at hc;subst hc;simp only[List.mem_cons,not_or]at h;simpa using Ne.symm h.1
 rw[e1,trR,List.reverse_append,jew (by rw[List.all_reverse];exact hbr)];rw[drop_not,List.reverse_reverse];intro c hc;rw[List.head?_reverse]at hc;have:=List.mem_of_getLast? hc;simp only[beq_eq_false_iff_ne];exact fun q=>h (q▸this)
theorem sgnR_other{u:J}{c:Int}(h:u.head?=some c)(h1:c≠45)(h2:c≠43)(nz:Bool→J→Int→Num)(bd:J→J):sgnR nz bd u=bodR nz bd false u:=by
 unfold sgnR;split
 ·cases h
 ·cases h;exact absurd rfl h1
 ·cases h;exact absurd rfl h2
 ·rfl
theorem norm_ahead{z d:J}(hz:z.all (· ==48)=true)(g:Bool)(q:Int):ja4 g (z++d) q=ja4 g d q:=by
 have e:tlZ (z++d) 48=tlZ d 48:=jew hz;unfold ja4 nz;rw[e]
theorem drop_nil{p:Int→Bool}:∀{l:J},l.dropWhile p=[]→ ∀a∈l,p a=true
 | [],_,_,ha=>by cases ha
 | c::l,h,a,ha=>by
  cases hc:p c with
  | false=>rw[List.dropWhile_cons_of_neg (by simp[hc])]at h;cases h
  | true=>
   rw[List.dropWhile_cons_of_pos hc]at h;rcases List.mem_cons.1 ha with rfl | ha
   ·exact hc
   ·exact drop_nil h a ha
theorem u8n{n:Nat}(h:n<10):((UInt8.ofNat (48+n)).toNat:Int)=48+n:=by
 rw[UInt8.toNat_ofNat'];omega
end Go.Cx
end
noncomputable section
namespace Go.Cx
open Go Go.Ab Go.Px Go.Cv
open Go.Fx (Ty Vl check jbd most base pw bnd Fit fits)
theorem ji0{sg w p bl br pt:J}{g:Bool}
  (hbl:bl.all (· ==32)=true) (hbr:br.all (· ==32)=true)
  (hsg:(sg=[45]∧g=true)∨(sg=[43]∧g=false)∨(sg=[]∧g=false))
  (hw:jbm w=true) (hp:jbm p=true) (hne:w++p≠ []) (hpt:pt=[46]∨(pt=[]∧p=[]))
  (hlen:(bl++(sg++(w++(pt++p)))++br).length≤255):
  rdN (bl++(sg++(w++(pt++p)))++br)=some (ja4 g (w++p) p.length):=by
 have nw:∀c,dig c=false→c∉w:=fun c h=>jdn hw h
 have np:∀c,dig c=false→c∉p:=fun c h=>jdn hp h
 have npt:∀c,c≠46→c∉pt:=fun c h=>by
  rcases hpt with q | ⟨q,_⟩
  ·rw[q];simpa using h
  ·rw[q];simp
 have nsg:(32:Int) ∉sg:=by rcases hsg with⟨q,_⟩ | ⟨q,_⟩ | ⟨q,_⟩ <;>rw[q] <;>simp
 have h69:(69:Int) ∉w++(pt++p):=by
  simp only[List.mem_append,not_or];exact⟨nw _ rfl,npt _ (by decide),np _ rfl⟩
 have h66:(66:Int) ∉w++(pt++p):=by
  simp only[List.mem_append,not_or];exact⟨nw _ rfl,npt _ (by decide),np _ rfl⟩
 have hcore:w++(pt++p)≠ []:=by
  intro q;simp only[List.append_eq_nil_iff]at q;exact hne (by rw[q.1,q.2.2];rfl)
 rw[rdN,if_neg (by omega),numR,trim_core hbl hbr]
 ·have hb:∀g,bodR ja4 binD g (w++(pt++p))=some (ja4 g (w++p) p.length):=fun g=>by
   rw[bodR,if_neg,decR,(jc1 h69).1,(jc1 h69).2]
   ·simp only[Int.sub_zero];rcases hpt with q | ⟨q,q2⟩
    ·subst q;rw[show([46]:J)++p=46::p from rfl,(jc2 (nw 46 rfl)).1,(jc2 (nw 46 rfl)).2,Option.getD_some,if_pos ⟨hne,hw,hp⟩]
    ·subst q q2;rw[List.append_nil,List.append_nil]at*;rw[(jc1 (nw 46 rfl)).1,(jc1 (nw 46 rfl)).2,Option.getD_none,if_pos ⟨by simpa using hne,hw,rfl⟩];simp
   ·rintro ⟨_,q⟩;exact h66 (List.mem_of_getLast? q)
  rcases hsg with⟨q,rfl⟩ | ⟨q,rfl⟩ | ⟨q,rfl⟩
  ·rw[q];exact hb true
  ·rw[q];exact hb false
  ·rw[q,List.nil_append];refine Eq.trans ?_ (hb false);cases w with
   | cons a w'=>
    have ha:dig a=true:=by simp only[jbm,List.all_cons,jaf]at hw;exact hw.1
    refine sgnR_other (c:=a) rfl (fun q=> ?_) (fun q=> ?_) _ _<;>(subst q;exact absurd ha (by decide))
   | nil=>
    rcases hpt with q | ⟨_,q2⟩
    ·rw[q];exact sgnR_other (c:=46) rfl (by decide) (by decide) _ _
    ·exact absurd q2 (by simpa using hne)
 ·simp only[List.mem_append,not_or];exact⟨nsg,nw _ rfl,npt _ (by decide),np _ rfl⟩
 ·intro q;have:=(List.append_eq_nil_iff.1 q).2;exact hcore this
theorem dec_digs:∀(k n:Nat),n<10^ (k+1)→jbm (zl (Lib.decDigits n))=true∧zl (Lib.decDigits n)≠ []
 | k,n,h=>by
  have one:∀j,j<10→dig ((UInt8.ofNat (48+j)).toNat:Int)=true:=fun j hj=>by
   rw[u8n hj];unfold dig;exact jaa (by omega)
  rw[Lib.decDigits];by_cases h10:n<10
  ·rw[dif_pos h10];exact⟨by simp only[zl,List.map_cons,List.map_nil,jbm,List.all_cons,List.all_nil,one n h10,Bool.and_self],by simp[zl]⟩
  ·rw[dif_neg h10];cases k with
   | zero=>omega
   | succ k=>
    have ih:=dec_digs k (n/10) (by rw[Nat.pow_succ]at h;omega);refine⟨?_,by simp[zl]⟩;rw[zl,List.map_append];rw[jgg];have e:jbm (List.map (fun b:UInt8=>(b.toNat:Int)) (Lib.decDigits (n/10)))=true:=ih.1;rw[e];simp only[List.map_cons,List.map_nil,jbm,List.all_cons,List.all_nil,one (n%10) (by omega),Bool.and_self]
theorem ji6{m:Int}(h:0≤m∧m≤2147483648):jbm (itoZ m)=true∧itoZ m≠ []:=by
 obtain⟨k,rfl⟩:∃k:Nat,m=(k:Int):=⟨m.toNat,by omega⟩
 rw[itoZ,Lib.itoa_nonneg];exact dec_digs 9 k (by omega)
theorem rep48_all(n:Nat):(rep48 n).all (· ==48)=true:=by rw[rep48];simp
theorem rep48_digs(n:Nat):jbm (rep48 n)=true:=List.all_eq_true.2 fun c hc=>by rw[List.eq_of_mem_replicate hc];rfl
def numA(n q:Int):Num:=ja4 (decide (n<0)) (itoZ (if n<0 then -n else n)) q
theorem fix_read{sg bl:J}{g:Bool}{m q:Int}(hm:0≤m∧m≤2147483648)(hq:0≤q∧q≤9)(hbl:bl.all (· ==32)=true)(hl:bl.length≤100)(hsg:(sg=[45]∧g=true)∨(sg=[43]∧g=false)∨(sg=[]∧g=false)):
  rdN (bl++(sg++fixD m q))=some (ja4 g (itoZ m) q):=by
 obtain⟨d1,d2⟩:=ji6 hm;have hlen:=jd9 hm;have hs1:sg.length≤1:=by rcases hsg with⟨h,_⟩ | ⟨h,_⟩ | ⟨h,_⟩ <;>rw[h] <;>simp
 unfold fixD;by_cases h:q>0
 ·rw[if_pos h];have hU:jbm (fixU m q)=true:=by rw[fixU,jgg,rep48_digs,d1];rfl
  have hUl:(fixU m q).length≥q.toNat+1∧(fixU m q).length≤20:=by
   rw[fixU,List.length_append,rep48,List.length_replicate];omega
  have hU2:(fixU m q).take ((fixU m q).length-q.toNat)++(fixU m q).drop ((fixU m q).length-q.toNat)=fixU m q:=List.take_append_drop _ _;have hUd:=hU;rw[←hU2,jgg,jaf]at hUd;have hpl:((fixU m q).drop ((fixU m q).length-q.toNat)).length=q.toNat:=by rw[List.length_drop];omega
  have hwl:((fixU m q).take ((fixU m q).length-q.toNat)).length≤20:=by rw[List.length_take];omega
  have key:=ji0 (bl:=bl) (br:=[]) (sg:=sg) (w:=(fixU m q).take ((fixU m q).length-q.toNat)) (pt:=[46]) (p:=(fixU m q).drop ((fixU m q).length-q.toNat)) (g:=g) hbl rfl hsg hUd.1 hUd.2
   (by rw[hU2];intro z;rw[z]at hUl;simp at hUl) (.inl rfl) (by simp only[List.length_append,List.length_cons,List.length_nil,hpl];omega)
  rw[List.append_nil]at key;rw[show(46::(fixU m q).drop ((fixU m q).length-q.toNat))=[46]++(fixU m q).drop ((fixU m q).length-q.toNat)from rfl,key,hU2,hpl,fixU,norm_ahead (rep48_all _)];congr 2;omega
 ·rw[if_neg h];have key:=ji0 (bl:=bl) (br:=[]) (sg:=sg) (w:=itoZ m) (pt:=[]) (p:=[]) (g:=g) hbl rfl hsg d1 rfl (by simpa using d2) (.inr ⟨rfl,rfl⟩) (by simp only[List.length_append,List.length_nil];omega);simp only[List.append_nil]at key;rw[key,show q=0 by omega];rfl
theorem txt_read{n:Int}{t:Ty}(hv:jbd t)(hn: -2147483648≤n∧n≤2147483648):rdN (txtZ n t)=some (numA n t.q):=by
 obtain⟨v1,v2,v3,v4,v5⟩:=Fx.valid_r hv;have hw:wid t≤100:=by unfold wid;split<;>omega
 unfold txtZ fixS numA;by_cases h:n<0
 ·rw[if_pos h,if_pos h,jaa h,show(45:Int)::fixD (-n) t.q=[45]++fixD (-n) t.q from rfl];exact fix_read (by omega) (by omega) (by simp) (by rw[List.length_replicate];omega) (.inl ⟨rfl,rfl⟩)
 ·rw[if_neg h,if_neg h,jad h];have:=fix_read (sg:=[]) (bl:=List.replicate (wid t-(fixD n t.q).length).toNat 32) (g:=false) (m:=n) (q:=t.q) (by omega) (by omega) (by simp) (by rw[List.length_replicate];omega) (.inr (.inr ⟨rfl,rfl⟩));rw[List.nil_append]at this;exact this
end Go.Cx
end
noncomputable section
namespace Go.Ab
open Go Go.RowKit
def eqI(a b:Int):Bool:=match a,b with
 | .ofNat m,.ofNat n=>Nat.beq m n
 | .negSucc m,.negSucc n=>Nat.beq m n
 | _,_=>false
def eqU:Yb→Yb→Bool
 | [],[]=>true
 | a::l,b::r=>match Nat.beq a.toNat b.toNat with | true=>eqU l r | false=>false
 | _,_=>false
def eqK(a b:IntKind):Bool:=match decEq a b with | .isTrue _=>true | .isFalse _=>false
mutual
def eqV:Value→Value→Bool
 | .int k a,.int k' b=>match eqK k k' with | true=>eqI a b | false=>false
 | .bool a,.bool b=>match a,b with | true,true=>true | false,false=>true | _,_=>false
 | .string ⟨⟨a⟩⟩,.string ⟨⟨b⟩⟩=>eqU a b
 | .agg ⟨l⟩,.agg ⟨r⟩=>eqVL l r
 | .iface t a,.iface t' b=>match Nat.beq t t' with | true=>eqV a b | false=>false
 | .nilIface,.nilIface=>true
 | _,_=>false
def eqVL:E→E→Bool
 | [],[]=>true
 | a::l,b::r=>match eqV a b with | true=>eqVL l r | false=>false
 | _,_=>false
end
theorem eqI_spec{a b:Int}(h:eqI a b=true):a=b:=by
 unfold eqI at h;split at h
 ·rw[jah h]
 ·rw[jah h]
 ·cases h
theorem eqU_spec:∀{a b:Yb},eqU a b=true→a=b
 | [],[],_=>rfl
 | a::l,b::r,h=>by
  simp only[eqU]at h;split at h
  ·rename_i hb;rw[UInt8.toNat_inj.1 (jah hb),eqU_spec h]
  ·cases h
 | [],_::_,h=>by cases h
 | _::_,[],h=>by cases h
theorem eqK_spec{a b:IntKind}(h:eqK a b=true):a=b:=by
 unfold eqK at h;split at h
 ·assumption
 ·cases h
mutual
theorem eqV_spec:∀{a b:Value},eqV a b=true→a=b
 | .int k a,.int k' b,h=>by
  simp only[eqV]at h;split at h
  ·rename_i hk;rw[eqK_spec hk,eqI_spec h]
  ·cases h
 | .bool a,.bool b,h=>by cases a<;>cases b<;>first | rfl | cases h
 | .string ⟨⟨a⟩⟩,.string ⟨⟨b⟩⟩,h=>by
  simp only[eqV]at h;rw[eqU_spec h]
 | .agg ⟨l⟩,.agg ⟨r⟩,h=>by
  simp only[eqV]at h;rw[jfd h]
 | .iface t a,.iface t' b,h=>by
  simp only[eqV]at h;split at h
  ·rename_i ht;rw[jah ht,eqV_spec h]
  ·cases h
 | .nilIface,.nilIface,_=>rfl
theorem jfd:∀{a b:E},eqVL a b=true→a=b
 | [],[],_=>rfl
 | a::l,b::r,h=>by
  simp only[eqVL]at h;split at h
  ·rename_i hb;rw[eqV_spec hb,jfd h]
  ·cases h
 | [],_::_,h=>by cases h
 | _::_,[],h=>by cases h
end
def memo:List (E×Value)→Spec
 | []=>fun _ _=>none
 | (a,v)::r=>fun args bs=>match eqVL args a with | true=>some (true,v) | false=>memo r args bs
theorem jhu{args:E}{bs:O}{b:Bool}{v:Value}:∀{l:List (E×Value)},memo l args bs=some (b,v)→b=true∧(args,v)∈l
 | [],h=>by cases h
 | (a,u)::r,h=>by
  simp only[memo]at h;split at h
  ·rename_i ha;simp only[Option.some.injEq,Prod.mk.injEq]at h;exact⟨h.1.symm,by rw[jfd ha,h.2];exact List.mem_cons_self ..⟩
  ·obtain⟨h1,h2⟩:=jhu h;exact⟨h1,List.mem_cons_of_mem _ h2⟩
variable [Tabs]
def AllD(P:Program)(G:Env)(L:Nat→Option jb9)(fn:Func):List (E×Value)→Prop
 | []=>True
 | (a,v)::r=>ja2 P G L fn a v∧AllD P G L fn r
theorem AllD_mem{P:Program}{G:Env}{L:Nat→Option jb9}{fn:Func}{a:E}{v:Value}:∀{l:List (E×Value)},AllD P G L fn l→(a,v)∈l→ja2 P G L fn a v
 | (a',v')::r,h,hm=>by
  rcases List.mem_cons.1 hm with e | hm
  ·cases e;exact h.1
  ·exact AllD_mem h.2 hm
theorem jed{P:Program}{G:Env}{L:Nat→Option jb9}{f:FuncId}{fn:Func}(hG:jax P G)(hm:P.follows .mixedOrders=true)(hf:Fn1 P f fn)(hL:LOKf P L fn){l:List (E×Value)}
  (hp:(l.all fun x=>ja5 x.1&&Nat.ble x.1.length fn.ntmps)=true) (h:AllD P G L fn l):jao P f (memo l):=by
 refine jc9 hG hm hf hL fun args bs v hs=> ?_
 obtain⟨_,hmem⟩:=jhu hs;have:=List.all_eq_true.1 hp _ hmem;simp only[jaf]at this;exact⟨this.1,jag this.2,AllD_mem h hmem⟩
end Go.Ab
end
noncomputable section
set_option maxHeartbeats 3200000
namespace Go.Cx
open Go Go.Ab Go.Proofs Go.Shelf Go.Px Go.Cv
open Go.Fx (Ty Vl check jbd most base pw bnd Fit fits tv vv tup V0 T0 jbe jbh ja6 jbt str0)
def K9p:Env:=((((((((((Env.nil.add 71 (sp1 s71)).addG 30 (hideS (sp2 s30))).add 322 (sp1 s322)).add 324 (sp1 s324)).addG 24 hidN).add 77 (sp3 s77)).add 115 (sp1 s115)).add 29 (sp1 s29)).add 321 (sp1 s321)).add 78 (sp1 s78)).add 223 (sp2 s223)
theorem ok_K9p:jax Tryz.prog K9p:=jak (jak (jak (jak (jak (jak (jam (jak (jak (jam (jak jan ok71) (jfc ok30)) ok322) ok324) gen_hidN) ok77) ok115) ok29) ok321) ok78) ok223
theorem fn222:Fn1 Tryz.prog 222 Tryz.f222:= .m Tryz.func222
theorem fn170:Fn1 Tryz.prog 170 Tryz.f170:= .m Tryz.func170
theorem fn97:Fn1 Tryz.prog 97 Tryz.f97:= .m Tryz.func97
theorem fn169:Fn1 Tryz.prog 169 Tryz.f169:= .m Tryz.func169
theorem fn101:Fn1 Tryz.prog 101 Tryz.f101:= .m Tryz.func101
theorem fn168:Fn1 Tryz.prog 168 Tryz.f168:= .m Tryz.func168
theorem fn99:Fn1 Tryz.prog 99 Tryz.f99:= .m Tryz.func99
theorem fn34:Fn1 Tryz.prog 34 Tryz.f34:= .m Tryz.func34
def pi(c:Bool)(b:Int)(a:J)(d:Value→Prop):Prop:=jl (decide ((szO a).size≤100000∧ -(100000:Int)≤b∧b≤100000)) (.agg ⟨m6 (Prod.fst (ja4 c (bz (szO a)) b)) (Prod.snd (ja4 c (bz (szO a)) b))⟩) Value.nilIface d
theorem x222w(n:Int)(k:Int)(p:Int)(q:Int)(w:Bool)(u:Y)(R:Value→Prop):(ja1 Tryz.prog K9p noL Tryz.f222 [.iface 174 (.agg ⟨[I n,I k,I p,I q,B w,S u]⟩)] (fun _=>none) 0 (fun v _ _=>R v))=(d5 (a7 n 0) (gx (-9223372036854775808) (e7 0 n) 9223372036854775807) (gx (-9223372036854775808) n 9223372036854775807) (pi (a7 n 0) q (itoZ (e7 0 n)) R) False (pi (a7 n 0) q (itoZ n) R)):=by kernel_rfl
theorem x222b(s:Y)(R:Value→Prop):(ja1 Tryz.prog K9p noL Tryz.f222 [.iface 175 (S s)] (fun _=>none) 0 (fun v _ _=>R v))=(bif jco (bz s) &&decide (s.size≤64)then pi false 0 (dz (binG (bz s) 0)) R else False):=by kernel_rfl
def jt:E:=[Value.nilIface]
def m8(a:Value):E:=[.iface 119 (.agg ⟨[a]⟩)]
theorem x222c(s:Y)(R:Value→Prop):(ja1 Tryz.prog K9p noL Tryz.f222 [.iface 178 (S s)] (fun _=>none) 0 (fun v _ _=>R v))=(bif fw s then∀a:Bool,∀b:Bool,∀c:Y,∀d:Int,RdN s a b c d→f0 (!a) (al (.agg (jy false 0 [])::m8 (S s))) (al (.agg ⟨B b::ax c [] (ak d)⟩::jt)) R else False):=by kernel_rfl
theorem x169(s:Y)(n:Int)(c:Y)(R:Value→Prop):(ja1 Tryz.prog K9p noL Tryz.f169 [S s,I n,S c] (fun _=>none) 0 (fun v _ _=>R v))=(bif decide ((s.size:Int)≥n)then bif decide ((0:Int)≤0∧0≤n∧n≤(s.size:Int))then R (S (ByteArray.extract s 0 n.toNat))else False else bif decide (0≤IntKind.wrap .i64 (n-(s.size:Int))∧IntKind.wrap .i64 (n-(s.size:Int))≤1000∧c.size≤1000)then∀(s':Y),szO (repZ (bz c) (IntKind.wrap .i64 (n-(s.size:Int))).toNat)=s'→bif jb1 (s.size+s'.size)then R (S (s++s'))else False else False):=by kernel_rfl
def divT:Nat→Int→Int
 | 0,n=>n
 | k+1,n=>divT k (n/10)
theorem divT_rng:∀(k:Nat)(n:Int),0≤n→0≤divT k n∧divT k n≤n
 | 0,n,h=>⟨h,Int.le_refl _⟩
 | k+1,n,h=>by
  have:=divT_rng k (n/10) (by omega);rw[divT];omega
def V170_1:Int×Int×Int×Int×Bool×Y×Int×Int×Int→E:=fun(m,k,p,q,w,u,n,Q,i)=> [.pointer (some ⟨6,0,some 0⟩),I n,I Q,I i]
def B170_1:Int×Int×Int×Int×Bool×Y×Int×Int×Int→O:=fun(m,k,p,q,w,u,n,Q,i)=> [some ⟨[I m,I k,I p,I q,B w,S u],174,true⟩]
def S170_1:LSpec (Int×Int×Int×Int×Bool×Y×Int×Int×Int) where
 live:=[4,5,21,22]
 mid:=[6]
 n:=60
 dec vs bs:=match vs,bs with | [.pointer (some ⟨6,0,some 0⟩),.int .i64 n,.int .i64 Q,.int .i64 i],[some ⟨[.int .i64 m,.int .i64 k,.int .i64 p,.int .i64 q,.bool w,.string u],174,true⟩]=>some (m,k,p,q,w,u,n,Q,i) | _,_=>none
 pre:=fun(m,k,p,q,w,u,n,Q,i)=>decide (0≤n∧n≤2147483648∧0≤i∧i≤Q∧Q≤1000)
 fin:=fun(m,k,p,q,w,u,n,Q,i) Z=>Z (.exit 1) [.pointer (some ⟨6,0,some 0⟩),I (divT (Q-i).toNat n),I Q,I Q] [some ⟨[I m,I k,I p,I q,B w,S u],174,true⟩]
theorem r170_1(m:Int)(k:Int)(p:Int)(q:Int)(w:Bool)(u:Y)(n:Int)(Q:Int)(i:Int)(jk:Tmps)(R:Exit→E→O→Prop):(jbv Tryz.prog K9p noL Tryz.f170.ntmps (ja9 Tryz.f170 1) (tl S170_1.live (V170_1 (m,k,p,q,w,u,n,Q,i)) jk) (ml S170_1.mid (B170_1 (m,k,p,q,w,u,n,Q,i))) S170_1.n fun e t' m' _=>R e (List.map t' S170_1.live) (List.map m' S170_1.mid))=(bif b7 i Q then R .normal (av 6::jv (n.tdiv 10)::bv Q i) [ct true [ak m,ak k,ak p,ak q,B w,S u] 174]else R (.exit 1) (av 6::ak n::bw Q i) [ct true [ak m,ak k,ak p,ak q,B w,S u] 174]):=by kernel_rfl
theorem l170_1:LOKf Tryz.prog (oneL 1 S170_1.h) Tryz.f170:=by
 refine jbo (h:=S170_1.h) (by kernel_rfl) (jbl ok_K9p hmix (by kernel_rfl) (ja7 _) S170_1 V170_1 B170_1 (fun(m,k,p,q,w,u,n,Q,i)=>(Q-i).toNat) ?_ ?_ ?_)
 ·intro vs bs s h;simp only[S170_1]at h;split at h
  all_goals first | (cases h;exact⟨rfl,rfl⟩) | cases h | (split at h<;>first | (rename_i hq;cases h;have hq:=jah hq;subst hq;exact⟨rfl,rfl⟩) | cases h)
 ·exact fun _ _ _ h=>h
 ·intro⟨m,k,p,q,w,u,n,Q,i⟩ jk Z hp hf;rw[r170_1];delta ct ak bw dv av aw ay bv jv b7;simp only[S170_1]at hp hf;have hp:=jab hp;apply cond_intro<;>intro h
  ·have h:=jab h;rw[show(Q-i).toNat=(Q-(i+1)).toNat+1 by omega,divT]at hf;rw[Int.tdiv_eq_ediv_of_nonneg hp.1,w64 (n:=n/10) (by omega),w64 (n:=i+1) (by omega)];exact⟨(m,k,p,q,w,u,n/10,Q,i+1),rfl,rfl,by simp only[S170_1,jae];omega,by simp only;omega,hf⟩
  ·have h:=jac h;obtain rfl:i=Q:=by omega
   rw[Int.sub_self]at hf;exact hf
def rk(e:Bool)(f:Y)(a b c d g:Int)(h:Value→Prop):Prop:=bif S170_1.pre (a,(b,(c,(d,(e,(f,(g,(d,(0:Int)))))))))then kp (gz d c 1000 0 d) (jl (ll 0 (divT (kl d) g) 2147483648 0 (if b=2 then c else(332*(c-d)+99)/100) 1000) (.string (szO (inB (if b=2 then c else(332*(c-d)+99)/100).toNat (divT (kl d) g)))) Value.nilIface h) False else False
theorem x170w(n:Int)(k:Int)(p:Int)(q:Int)(w:Bool)(u:Y)(R:Value→Prop):(ja1 Tryz.prog K9p (oneL 1 S170_1.h) Tryz.f170 [.iface 174 (.agg ⟨[I n,I k,I p,I q,B w,S u]⟩)] (fun _=>none) 0 (fun v _ _=>R v))=(bif a7 n 0 then rk w u n k p q (e7 0 n) R else rk w u n k p q n R):=by kernel_rfl
theorem x170b(s:Y)(R:Value→Prop):(ja1 Tryz.prog K9p (oneL 1 S170_1.h) Tryz.f170 [.iface 175 (S s)] (fun _=>none) 0 (fun v _ _=>R v))=(R (.tuple (.mk [S s,Value.nilIface]))):=by kernel_rfl
theorem x170c(s:Y)(R:Value→Prop):(ja1 Tryz.prog K9p (oneL 1 S170_1.h) Tryz.f170 [.iface 178 (S s)] (fun _=>none) 0 (fun v _ _=>R v))=(kw (jco (bz s)) s (R (al (S s::jt))) (R (al (d9::m8 (S s))))):=by kernel_rfl
def jfw(l:J)(n:Nat)(c:Int):J:=l.take n++List.replicate (n-l.length) c
def jf3(t:Ty):Int:=if t.k=2 then t.p else(332*(t.p-t.q)+99)/100
def absI(n:Int):Int:=if n<0 then -n else n
def s222:Ab.Spec:=fun args _=>match args with
 | [.iface 174 (.agg ⟨[.int .i64 n,.int .i64 _,.int .i64 _,.int .i64 q,.bool _,.string _]⟩)]=>some (decide (-2147483648≤n∧n≤2147483648∧0≤q∧q≤9),.tuple ⟨[numV (numA n q),.nilIface]⟩)
 | [.iface 175 (.string s)]=>some (jco (bz s) &&decide (s.size≤64),.tuple ⟨[numV (ja4 false (binD (bz s)) 0),.nilIface]⟩)
 | [.iface 178 (.string s)]=>some (decide (s.size≤9223372036854775807),.tuple ⟨[numV ((rdN (bz s)).getD num0),if(rdN (bz s)).isSome=true then .nilIface else .iface 119 (.agg ⟨[.string s]⟩)]⟩)
 | _=>none
def s170:Ab.Spec:=fun args _=>match args with
 | [.iface 174 (.agg ⟨[.int .i64 n,.int .i64 k,.int .i64 p,.int .i64 q,.bool w,.string u]⟩)]=>some (decide (jbd ⟨k,p,q,w,u⟩∧ -2147483648≤n∧n≤2147483648),.tuple ⟨[S (szO (inB (jf3 ⟨k,p,q,w,u⟩).toNat (divT q.toNat (absI n)))),.nilIface]⟩)
 | [.iface 175 (.string s)]=>some (true,.tuple ⟨[S s,.nilIface]⟩)
 | [.iface 178 (.string s)]=>some (decide (s.size≤9223372036854775807),.tuple ⟨[if jco (bz s)=true then S s else S ⟨#[]⟩,if jco (bz s)=true then .nilIface else .iface 119 (.agg ⟨[.string s]⟩)]⟩)
 | _=>none
def s97:Ab.Spec:=fun args _=>match args with
 | [.agg ⟨[.int .i64 n,.string s]⟩,.agg ⟨[.int .i64 k,.int .i64 p,.int .i64 q,.bool w,.string u]⟩]=>match eqI k 1,eqI k 2,eqI k 3,eqI k 4 with
  | true,_,_,_=>some (true,.iface 174 (.agg ⟨[.int .i64 n,.int .i64 1,.int .i64 p,.int .i64 q,.bool w,.string u]⟩))
  | _,true,_,_=>some (true,.iface 174 (.agg ⟨[.int .i64 n,.int .i64 2,.int .i64 p,.int .i64 q,.bool w,.string u]⟩))
  | _,_,true,_=>some (true,.iface 178 (.string s))
  | _,_,_,true=>some (true,.iface 175 (.string s))
  | _,_,_,_=>none
 | _=>none
def s169(s:Y)(n:Int)(c:Y):Bool×Value:=(decide (0≤n∧n≤1000) &&oneB c,S (szO (jfw (bz s) n.toNat ((bz c).getD 0 0))))
theorem num_abs{n q:Int}(h: -2147483648≤n∧n≤2147483648)(hq:0≤q∧q≤9){x:Value}{m:Int}(hm:(if n<0 then -n else n)=m)
  (hx:x= .tuple ⟨[numV (ja4 (decide (n<0)) (bz (szO (itoZ m))) q),.nilIface]⟩):x= .tuple ⟨[numV (numA n q),.nilIface]⟩:=by
 rw[hx,jdf (ji5 _),numA,hm]
theorem ok222:jao Tryz.prog 222 s222:=by
 refine jc9 ok_K9p hmix fn222 jai fun args bs v hs=> ?_
 unfold s222 at hs;split at hs
 ·rename_i n k p q w u;simp only[Option.some.injEq,Prod.mk.injEq,jae]at hs;obtain⟨⟨h1,h2,h3,h4⟩,rfl⟩:=hs;refine⟨rfl,jag,?_⟩;rw[ja2,x222w];delta cq ar d5 al jl m6 pi a7 e7 gx;apply cond_intro<;>intro h
  ·have h:=jab h;have hl:=jd9 (m:=0-n) (by omega);rw[w64 (n:=0-n) (by omega)];refine c_t (jaa (by omega)) (c_t (jaa ⟨by rw[jcy];omega,by omega,by omega⟩) ?_);exact num_abs ⟨h1,h2⟩ ⟨h3,h4⟩ (by rw[if_pos h];omega) rfl
  ·have h:=jac h;have hl:=jd9 (m:=n) (by omega);refine c_t (jaa (by omega)) (c_t (jaa ⟨by rw[jcy];omega,by omega,by omega⟩) ?_);exact num_abs ⟨h1,h2⟩ ⟨h3,h4⟩ (by rw[if_neg h]) rfl
 ·rename_i s;simp only[Option.some.injEq,Prod.mk.injEq,jaf,jae]at hs;obtain⟨⟨h1,h2⟩,rfl⟩:=hs;refine⟨rfl,jag,?_⟩;rw[ja2,x222b];delta al jl m6 pi;have hb:=jlo h1 (by rw[jap];exact h2);have hd:=jlk 20 (binG (bz s) 0) hb.1 (Int.lt_of_lt_of_le hb.2 (by decide));refine c_t (by rw[h1,jaa h2];rfl) (c_t (jaa ⟨by rw[jcy];omega,by omega,by omega⟩) ?_);rw[jdf (dz_isB _),jkm]
 ·rename_i s;simp only[Option.some.injEq,Prod.mk.injEq,jae]at hs;obtain⟨h1,rfl⟩:=hs;refine⟨rfl,jag,?_⟩;rw[ja2,x222c];delta f0 al jt ax ak m8 e8 g8 jy fw;refine c_t (jaa h1) fun b g d c hR=> ?_
  rcases hR with⟨r,rfl,rfl,rfl,rfl⟩ | ⟨l,r,rfl,rfl⟩
  ·refine c_t rfl ?_;rw[r];show _=Value.tuple ⟨[.agg ⟨[.bool false,.string (szO []),.int .i64 0]⟩,.iface 119 (.agg ⟨[.string s]⟩)]⟩;rw[jgk]
  ·refine c_f rfl ?_;rw[r];rfl
 ·cases hs
theorem ok170:jao Tryz.prog 170 s170:=by
 refine jc9 ok_K9p hmix fn170 l170_1 fun args bs v hs=> ?_
 unfold s170 at hs;split at hs
 ·rename_i n k p q w u;simp only[Option.some.injEq,Prod.mk.injEq,jae]at hs;obtain⟨⟨hv,h1,h2⟩,rfl⟩:=hs;obtain⟨v1,v2,v3,v4,v5⟩:=Fx.valid_r hv;simp only at v1 v2 v3 v4 v5;refine⟨rfl,jag,?_⟩;rw[ja2,x170w];delta ar kp al jl kl ll gz rk e7 a7;have hbw:0≤jf3 ⟨k,p,q,w,u⟩∧jf3 ⟨k,p,q,w,u⟩≤200:=by unfold jf3;simp only;split<;>omega
  have key:∀m:Int,absI n=m→0≤m∧m≤2147483648→LSpec.pre S170_1 (n,k,p,q,w,u,m,q,0)=true∧0≤divT (q-0).toNat m∧divT (q-0).toNat m≤2147483648∧divT (q-0).toNat m=divT q.toNat (absI n):=fun m hm hr=>by
   have:=divT_rng (q-0).toNat m hr.1;refine⟨by simp only[S170_1,jae];omega,by omega,by omega,by rw[hm,Int.sub_zero]⟩
  apply cond_intro<;>intro h
  ·have h:=jab h;rw[w64 (n:=0-n) (by omega)];obtain⟨k1,k2,k3,k4⟩:=key (0-n) (by unfold absI;rw[if_pos h];omega) (by omega);refine c_t k1 fun x=>c_t (jaa ⟨v4,by omega,v3⟩) (c_t (jaa ⟨k2,k3,hbw.1,by have:=hbw.2;show jf3 ⟨k,p,q,w,u⟩≤1000;omega⟩) ?_)
   rw[k4];rfl
  ·have h:=jac h;obtain⟨k1,k2,k3,k4⟩:=key n (by unfold absI;rw[if_neg h]) (by omega);refine c_t k1 fun x=>c_t (jaa ⟨v4,by omega,v3⟩) (c_t (jaa ⟨k2,k3,hbw.1,by have:=hbw.2;show jf3 ⟨k,p,q,w,u⟩≤1000;omega⟩) ?_)
   rw[k4];rfl
 ·rename_i s;simp only[Option.some.injEq,Prod.mk.injEq]at hs;obtain⟨-,rfl⟩:=hs;refine⟨rfl,jag,?_⟩;rw[ja2,x170b]
 ·rename_i s;simp only[Option.some.injEq,Prod.mk.injEq,jae]at hs;obtain⟨h1,rfl⟩:=hs;refine⟨rfl,jag,?_⟩;rw[ja2,x170c];delta ar fw kw al m8 a8 d9 jt;refine c_t (jaa h1) (cond_intro (fun h=> ?_) (fun h=> ?_))
  ·rw[if_pos h,if_pos h]
  ·rw[if_neg (by rw[h];decide),if_neg (by rw[h];decide)]
 ·cases hs
theorem ok169:jao Tryz.prog 169 (sp3 s169):=by
 refine jki ok_K9p hmix fn169 jai jag fun s n c hc=> ?_
 have hc:(decide (0≤n∧n≤1000) &&oneB c)=true:=hc;simp only[jaf,jae]at hc;obtain⟨⟨h0,h1⟩,ho⟩:=hc;obtain⟨ch,hc1,hc2⟩:=jef ho;rw[ja2];have hx:=x169 s n c (fun v=>v=(s169 s n c).2);rw[show(Enc.enc s:Value)= .string s from rfl,show(Enc.enc n:Value)= .int .i64 n from rfl,show(Enc.enc c:Value)= .string c from rfl,hx]
 have hb:bz c=[(bz c).getD 0 0]:=by
  have:c.size=1:=by rw[hc1];rfl
  have hl:(bz c).length=1:=by rw[jap];exact this
  match hq:bz c,hl with
  | [a],_=>rfl
 generalize hd:(bz c).getD 0 0=d at hb;have hcs:c.size=1:=by rw[←jap,hb];rfl
 show _;unfold s169;rw[hd];apply cond_intro<;>intro h
 ·have h:=jab h;refine c_t (jaa (by omega)) ?_;rw[jfw,show n.toNat-(bz s).length=0 by rw[jap];omega,List.replicate_zero,List.append_nil,←jie,jc3,jhk]
 ·have h:=jac h;rw[w64 (n:=n-(s.size:Int)) (by omega)];refine c_t (jaa ⟨by omega,by omega,by omega⟩) fun s' e=> ?_
  rw[hb,jho]at e;have hdB:IsB [d]:=by rw[←hb];exact jd1 c
  have hrB:IsB (List.replicate (n-(s.size:Int)).toNat d):=fun x hx=>by rw[List.eq_of_mem_replicate hx];exact hdB d (List.mem_singleton.2 rfl)
  have b':bz s'=List.replicate (n-(s.size:Int)).toNat d:=by rw[←e,jdf hrB]
  have z':s'.size=(n-(s.size:Int)).toNat:=by rw[←jap,b',List.length_replicate]
  refine c_t (fitN (by omega)) ?_;rw[jfw,List.take_of_length_le (by rw[jap];omega),show n.toNat-(bz s).length=(n-(s.size:Int)).toNat by rw[jap];omega,←b',←jcw,jc3,jhk]
structure NumIs (x y:Num):Prop where
 h:x=y
structure RdIs (s:Y)(x:Option Num):Prop where
 h:rdN (bz s)=x
structure StrIs (x:J)(s:Y):Prop where
 h:szO x=s
structure BitsIs (s:Y)(b:Bool):Prop where
 h:jco (bz s)=b
theorem jdl{P:Program}{f:FuncId}{s:Ab.Spec}(h:jao P f s){H:E→Lk→Nat→(Value→Lk→Nat→Prop)→Prop}
  (hH:∀args m n K,H args m n K→ ∃v,s args (args.map (blkOf m))=some (true,v)∧plain v=true∧K v m n):jc7 P f H:=by
 obtain⟨hc,hp⟩:=h;refine⟨hc,fun args m n K hh N w0 ι w hrel hwf hargs=> ?_⟩;obtain⟨v,hs,hv,hk⟩:=hH args m n K hh;refine(hp args v N w0 m ι w hrel hs hv).mono fun e' w' ⟨h1,h2⟩=> ?_
 exact⟨v,m,n,ι,by rw[h1,jbg _ hv],hk,Nat.le_refl _,fun _ _=>rfl,hrel.grow h2,hwf,by simp[jbn hv]⟩
def jle:E→Lk→Nat→(Value→Lk→Nat→Prop)→Prop:=fun args m n K=>match args with
 | [.iface 174 (.agg ⟨[.int .i64 a,.int .i64 _,.int .i64 _,.int .i64 q,.bool _,.string _]⟩)]=>match cnd (decide (-2147483648≤a∧a≤2147483648∧0≤q∧q≤9))with
  | true=>∀x:Num,NumIs (numA a q) x→K (.tuple ⟨[numV x,.nilIface]⟩) m n
  | false=>False
 | [.iface 175 (.string s)]=>match cnd (jco (bz s) &&decide (s.size≤64))with
  | true=>∀x:Num,NumIs (ja4 false (binD (bz s)) 0) x→K (.tuple ⟨[numV x,.nilIface]⟩) m n
  | false=>False
 | [.iface 178 (.string s)]=>match cnd (decide (s.size≤9223372036854775807))with
  | true=>(∀x:Num,RdIs s (some x)→K (.tuple ⟨[numV x,.nilIface]⟩) m n)∧(RdIs s none→K (.tuple ⟨[.agg ⟨[.bool false,.string ⟨#[]⟩,.int .i64 0]⟩,.iface 119 (.agg ⟨[.string s]⟩)]⟩) m n)
  | false=>False
 | _=>False
theorem gen_hid222:jc7 Tryz.prog 222 jle:=by
 refine jdl ok222 fun args m n K hh=> ?_
 unfold jle at hh;split at hh
 ·split at hh
  case h_2=>exact hh.elim
  rename_i hcc;exact⟨_,congrArg some (Prod.ext hcc rfl),rfl,hh _ ⟨rfl⟩⟩
 ·split at hh
  case h_2=>exact hh.elim
  rename_i hcc;exact⟨_,congrArg some (Prod.ext hcc rfl),rfl,hh _ ⟨rfl⟩⟩
 ·split at hh
  case h_2=>exact hh.elim
  rename_i s _ hcc;cases hr:rdN (bz s)with
  | some x=>
   refine⟨_,congrArg some (Prod.ext hcc rfl),?_,?_⟩
   ·rw[hr];rfl
   ·rw[hr];exact hh.1 x ⟨hr⟩
  | none=>
   refine⟨_,congrArg some (Prod.ext hcc rfl),?_,?_⟩
   ·rw[hr];rfl
   ·rw[hr];have:=hh.2 ⟨hr⟩;rw[←jgk]at this;exact this
 ·exact hh.elim
def jlf:E→Lk→Nat→(Value→Lk→Nat→Prop)→Prop:=fun args m n K=>match args with
 | [.iface 174 (.agg ⟨[.int .i64 a,.int .i64 k,.int .i64 p,.int .i64 q,.bool w,.string u]⟩)]=>match cnd (decide (jbd ⟨k,p,q,w,u⟩∧ -2147483648≤a∧a≤2147483648))with
  | true=>∀s:Y,StrIs (inB (jf3 ⟨k,p,q,w,u⟩).toNat (divT q.toNat (absI a))) s→K (.tuple ⟨[S s,.nilIface]⟩) m n
  | false=>False
 | [.iface 175 (.string s)]=>K (.tuple ⟨[S s,.nilIface]⟩) m n
 | [.iface 178 (.string s)]=>match cnd (decide (s.size≤9223372036854775807))with
  | true=>(BitsIs s true→K (.tuple ⟨[S s,.nilIface]⟩) m n)∧(BitsIs s false→K (.tuple ⟨[S ⟨#[]⟩,.iface 119 (.agg ⟨[.string s]⟩)]⟩) m n)
  | false=>False
 | _=>False
theorem gen_hid170:jc7 Tryz.prog 170 jlf:=by
 refine jdl ok170 fun args m n K hh=> ?_
 unfold jlf at hh;split at hh
 ·split at hh
  case h_2=>exact hh.elim
  rename_i hcc;exact⟨_,congrArg some (Prod.ext hcc rfl),rfl,hh _ ⟨rfl⟩⟩
 ·exact⟨_,rfl,rfl,hh⟩
 ·split at hh
  case h_2=>exact hh.elim
  rename_i s _ hcc;cases hr:jco (bz s)with
  | true=>
   refine⟨_,congrArg some (Prod.ext hcc rfl),?_,?_⟩
   ·rw[hr];rfl
   ·rw[hr];exact hh.1 ⟨hr⟩
  | false=>
   refine⟨_,congrArg some (Prod.ext hcc rfl),?_,?_⟩
   ·rw[hr];rfl
   ·rw[hr];exact hh.2 ⟨hr⟩
 ·exact hh.elim
instance tabsU:Tabs:=tabs
def Ua:Env:=(Env.nil.add 146 (sp2 Px.s22)).add 61 (sp1 Px.s46)
def Ub:Env:=((Env.nil.addG 222 jle).addG 170 jlf).addG 224 (inlQ Tryz.prog Ua noL Tryz.f224)
theorem fn224:Fn1 Tryz.prog 224 Tryz.f224:= .m Tryz.func224
theorem ok_Ua:jax Tryz.prog Ua:=jak (jak jan Px.ok22) Px.ok46
theorem ok_Ub:jax Tryz.prog Ub:=jam (jam (jam jan gen_hid222) gen_hid170) (jar ok_Ua hmix fn224 jai)
theorem u222(s:Y)(p:Y)(R:Value→Prop):(ja1 Tryz.prog Ub noL Tryz.f222 [.iface 177 (.agg ⟨[.string s,.string p]⟩)] (fun _=>none) 0 (fun v _ _=>R v))=(bif kr s p then kw (ll (-2147483648) (rdV (bz p) (bz s)).fst 2147483648 0 (pQ (bz p)) 9) p (∀a:Cv.Num,NumIs (numA (rdV (bz p) (bz s)).fst (pQ (bz p))) a→R (al (.agg ⟨m6 (Prod.fst a) (Prod.snd a)⟩::jt))) False else False):=by kernel_rfl
def m9(a:Fx.Ty)(b:Int):Bool:=decide (Fx.jbd a∧ -(2147483648:Int)≤b∧b≤2147483648)
theorem u170(s:Y)(p:Y)(R:Value→Prop):(ja1 Tryz.prog Ub noL Tryz.f170 [.iface 177 (.agg ⟨[.string s,.string p]⟩)] (fun _=>none) 0 (fun v _ _=>R v))=(bif kr s p then kw (m9 (Fx.Ty.mk (tyK (bz p)) (tyP (bz p)) (pQ (bz p)) false a8) (rdV (bz p) (bz s)).fst) p (∀a:Y,StrIs (inB (jf3 (Fx.Ty.mk (tyK (bz p)) (tyP (bz p)) (pQ (bz p)) false a8)).toNat (divT (pQ (bz p)).toNat (absI (rdV (bz p) (bz s)).fst))) a→R (al (.string a::jt))) False else False):=by kernel_rfl
theorem jnc{s t:Y}(h:pN (bz s)=true): -1000000000<(rdV (bz s) (bz t)).1∧(rdV (bz s) (bz t)).1<1000000000:=by
 have hp:=jd5 h;have hv:=jht (jdv s) h (rdA (bz s) (bz t));obtain⟨g1,g2,g3,g4,g5,g6⟩:=hv;have hr:0≤rdA (bz s) (bz t)∧rdA (bz s) (bz t)<1000000000:=jf8 _ _ 0 0 (by omega) (by decide) (by omega);unfold rdV;rw[if_pos h]
 repeat' split
 all_goals (simp only;omega)
abbrev pT(p:Y):Ty:=⟨tyK (bz p),tyP (bz p),pQ (bz p),false,⟨#[]⟩⟩
theorem pT_v{p:Y}(h:pN (bz p)=true):jbd (pT p)∧0≤pQ (bz p)∧pQ (bz p)≤9:=by
 obtain⟨h1,h2,h3,h4⟩:=jd5 h;have hv:=jc4 h
 have e:tyK (bz p)=1∧tyP (bz p)=pD (bz p):=by
  unfold tyK tyP;rw[if_pos hv,if_pos hv,if_pos h,if_pos h];exact⟨rfl,rfl⟩
 refine⟨⟨.inl e.1,?_,?_,h3,?_,?_,rfl,by rw[ByteArray.toList_eq]⟩,h3,by omega⟩
 ·show 1≤tyP (bz p);omega
 ·show tyP (bz p)≤most (tyK (bz p));rw[e.1];unfold most;rw[if_pos rfl];omega
 ·show pQ (bz p)≤tyP (bz p);omega
 ·show tyK (bz p)=2→_;omega
def s222s:Ab.Spec:=fun args _=>match args with
 | [.iface 177 (.agg ⟨[.string s,.string p]⟩)]=>some (pN (bz p) &&decide (s.size≤9223372036854775807∧p.size≤9223372036854775807),.tuple ⟨[numV (numA (rdV (bz p) (bz s)).1 (pQ (bz p))),.nilIface]⟩)
 | _=>none
theorem ok222s:jao Tryz.prog 222 s222s:=by
 refine jc9 ok_Ub hmix fn222 jai fun args bs v hs=> ?_
 unfold s222s at hs;split at hs
 case h_2=>cases hs
 rename_i s p;simp only[Option.some.injEq,Prod.mk.injEq,jaf,jae]at hs;obtain⟨⟨hn,h1,h2⟩,rfl⟩:=hs;refine⟨rfl,jag,?_⟩;rw[ja2,u222];delta ar fw kw al jt m6 ll iy kr;have hr:=jnc (t:=s) hn;have hp:=pT_v hn;exact c_t (jaa ⟨h2,h1⟩) (c_t (jaa h2) (c_t (jaa (by omega)) fun x hx=>by rw[←hx.h]))
def s170s:Ab.Spec:=fun args _=>match args with
 | [.iface 177 (.agg ⟨[.string s,.string p]⟩)]=>some (pN (bz p) &&decide (s.size≤9223372036854775807∧p.size≤9223372036854775807),.tuple ⟨[S (szO (inB (jf3 (pT p)).toNat (divT (pQ (bz p)).toNat (absI (rdV (bz p) (bz s)).1)))),.nilIface]⟩)
 | _=>none
theorem ok170s:jao Tryz.prog 170 s170s:=by
 refine jc9 ok_Ub hmix fn170 jai fun args bs v hs=> ?_
 unfold s170s at hs;split at hs
 case h_2=>cases hs
 rename_i s p;simp only[Option.some.injEq,Prod.mk.injEq,jaf,jae]at hs;obtain⟨⟨hn,h1,h2⟩,rfl⟩:=hs;refine⟨rfl,jag,?_⟩;rw[ja2,u170];delta ar fw kw al jt a8 m9 iy kr;have hr:=jnc (t:=s) hn;have hp:=pT_v hn;exact c_t (jaa ⟨h2,h1⟩) (c_t (jaa h2) (c_t (jaa ⟨hp.1,by omega,by omega⟩) fun x hx=>by rw[←hx.h]))
def jni:E→Lk→Nat→(Value→Lk→Nat→Prop)→Prop:=fun args m n K=>match args with
 | [.iface 177 (.agg ⟨[.string s,.string p]⟩)]=>match cnd (pN (bz p) &&decide (s.size≤9223372036854775807∧p.size≤9223372036854775807))with
  | true=>∀x:Num,NumIs (numA (rdV (bz p) (bz s)).1 (pQ (bz p))) x→K (.tuple ⟨[numV x,.nilIface]⟩) m n
  | false=>False
 | _=>jle args m n K
def jnk:E→Lk→Nat→(Value→Lk→Nat→Prop)→Prop:=fun args m n K=>match args with
 | [.iface 177 (.agg ⟨[.string s,.string p]⟩)]=>match cnd (pN (bz p) &&decide (s.size≤9223372036854775807∧p.size≤9223372036854775807))with
  | true=>∀b:Y,StrIs (inB (jf3 (pT p)).toNat (divT (pQ (bz p)).toNat (absI (rdV (bz p) (bz s)).1))) b→K (.tuple ⟨[S b,.nilIface]⟩) m n
  | false=>False
 | _=>jlf args m n K
theorem gen_two{f:FuncId}{H1 H2 H:E→Lk→Nat→(Value→Lk→Nat→Prop)→Prop}(h1:jc7 Tryz.prog f H1)(h2:jc7 Tryz.prog f H2)(h:∀args m n K,H args m n K→H1 args m n K∨H2 args m n K):jc7 Tryz.prog f H:=
 ⟨h1.1,fun args m n K hh=>(h args m n K hh).elim (fun q=>h1.2 args m n K q) (fun q=>h2.2 args m n K q)⟩
def hs222:E→Lk→Nat→(Value→Lk→Nat→Prop)→Prop:=fun args m n K=>match args with
 | [.iface 177 (.agg ⟨[.string s,.string p]⟩)]=>match cnd (pN (bz p) &&decide (s.size≤9223372036854775807∧p.size≤9223372036854775807))with
  | true=>∀x:Num,NumIs (numA (rdV (bz p) (bz s)).1 (pQ (bz p))) x→K (.tuple ⟨[numV x,.nilIface]⟩) m n
  | false=>False
 | _=>False
theorem gen_hs222:jc7 Tryz.prog 222 hs222:=by
 refine jdl ok222s fun args m n K hh=> ?_
 unfold hs222 at hh;split at hh
 case h_2=>exact hh.elim
 split at hh
 case h_2=>exact hh.elim
 rename_i hcc;exact⟨_,congrArg some (Prod.ext hcc rfl),rfl,hh _ ⟨rfl⟩⟩
theorem gen_hu222:jc7 Tryz.prog 222 jni:=gen_two gen_hs222 gen_hid222 fun args m n K hh=>by
 unfold jni at hh;split at hh
 ·exact .inl hh
 ·exact .inr hh
def hs170:E→Lk→Nat→(Value→Lk→Nat→Prop)→Prop:=fun args m n K=>match args with
 | [.iface 177 (.agg ⟨[.string s,.string p]⟩)]=>match cnd (pN (bz p) &&decide (s.size≤9223372036854775807∧p.size≤9223372036854775807))with
  | true=>∀b:Y,StrIs (inB (jf3 (pT p)).toNat (divT (pQ (bz p)).toNat (absI (rdV (bz p) (bz s)).1))) b→K (.tuple ⟨[S b,.nilIface]⟩) m n
  | false=>False
 | _=>False
theorem gen_hs170:jc7 Tryz.prog 170 hs170:=by
 refine jdl ok170s fun args m n K hh=> ?_
 unfold hs170 at hh;split at hh
 case h_2=>exact hh.elim
 split at hh
 case h_2=>exact hh.elim
 rename_i hcc;exact⟨_,congrArg some (Prod.ext hcc rfl),rfl,hh _ ⟨rfl⟩⟩
theorem gen_hu170:jc7 Tryz.prog 170 jnk:=gen_two gen_hs170 gen_hid170 fun args m n K hh=>by
 unfold jnk at hh;split at hh
 ·exact .inl hh
 ·exact .inr hh
structure EdIs (p:Y)(n q:Int)(x:Y×Bool×Int):Prop where
 h:(sz (edS (bz p) n q),edF (bz p) n q,edE (bz p) q)=x
def jnj:E→Lk→Nat→(Value→Lk→Nat→Prop)→Prop:=fun args m n K=>match args with
 | [.int .i64 a,.int .i64 q,.string p]=>match cnd (decide (p.size≤9223372036854775807∧ -9223372036854775808≤a∧a≤9223372036854775807))with
  | true=>∀(s:Y)(b:Bool)(e:Int),EdIs p a q (s,b,e)→K (.tuple ⟨[S s,B b,I e]⟩) m n
  | false=>False
 | _=>False
theorem gen_hu171:jc7 Tryz.prog 171 jnj:=by
 refine jdl Px.ok20 fun args m n K hh=> ?_
 unfold jnj at hh;split at hh
 case h_2=>exact hh.elim
 split at hh
 case h_2=>exact hh.elim
 rename_i hcc;exact⟨_,congrArg some (Prod.ext hcc rfl),rfl,hh _ _ _ ⟨rfl⟩⟩
structure HoIs (p s:Y)(b:Bool):Prop where
 h:hoZ (bz p) (bz s)=b
def hu72:E→Lk→Nat→(Value→Lk→Nat→Prop)→Prop:=fun args m n K=>match args with
 | [.string p,.string s]=>match cnd (decide (p.size≤9223372036854775807∧s.size≤9223372036854775807))with
  | true=>∀b:Bool,HoIs p s b→K (B b) m n
  | false=>False
 | _=>False
theorem gen_hu72:jc7 Tryz.prog 72 hu72:=by
 refine jdl Px.ok24 fun args m n K hh=> ?_
 unfold hu72 at hh;split at hh
 case h_2=>exact hh.elim
 split at hh
 case h_2=>exact hh.elim
 rename_i hcc;exact⟨_,congrArg some (Prod.ext hcc rfl),rfl,hh _ ⟨rfl⟩⟩
instance tabsU4:Tabs:=tabs
def s323u:Ab.Spec:=fun args _=>match args with
 | [.agg ⟨[.string s,.string _]⟩]=>some (true,.string s)
 | _=>none
def U0:Env:=(Env.nil.add 26 (sp2 s26)).addG 222 jni
def U1:Env:=((((((((((Env.nil.add 321 (sp1 s321)).addG 170 jnk).addG 169 (hideS (sp3 s169))).addG 171 jnj).addG 72 hu72).add 59 (sp1 Px.s31)).add 61 (sp1 Px.s46)).add 322 (sp1 s322)).add 323 s323u).add 324 (sp1 s324)).addG 168 (inlQ Tryz.prog U0 noL Tryz.f168)
theorem fn323u:Fn1 Tryz.prog 323 Tryz.f323:= .m Tryz.func323
theorem u323(s p:Y)(R:Value→Prop):ja1 Tryz.prog Env.nil noL Tryz.f323 [.agg ⟨[.string s,.string p]⟩] (fun _=>none) 0 (fun v _ _=>R v)=R (Value.string s):=by kernel_rfl
theorem ok323u:jao Tryz.prog 323 s323u:=by
 refine jc9 jan hmix fn323u jai fun args bs v hs=> ?_
 unfold s323u at hs;split at hs
 case h_2=>cases hs
 cases hs;refine⟨rfl,jag,?_⟩;rw[ja2,u323]
theorem ok_U0:jax Tryz.prog U0:=jam (jak jan ok26) gen_hu222
theorem ok_U1:jax Tryz.prog U1:=jam (jak (jak (jak (jak (jak (jam (jam (jam (jam (jak jan ok321) gen_hu170) (jfc ok169)) gen_hu171) gen_hu72) Px.ok31) Px.ok46) ok322) ok323u) ok324) (jar ok_U0 hmix fn168 jai)
abbrev tp3(a:Int)(s:Y)(c:Int)(e:Value):Value:= .tuple ⟨[.agg ⟨[I a,S s]⟩,I c,e]⟩
abbrev er(s:Y):Value:= .iface 119 (.agg ⟨[.string s]⟩)
def tlA(R:Value→Prop)(t:Ty)(x:Num):Prop:=bif decide (ByteArray.size (szO x.2.1)≤9223372036854775807)then R (tp3 (tkV x.1 (bz (szO x.2.1)) x.2.2 t).1 ⟨#[]⟩ (tkV x.1 (bz (szO x.2.1)) x.2.2 t).2.1 .nilIface)else False
def tlC(R:Value→Prop)(t:Ty)(s:Y):Prop:=bif !t.v || true then bif !t.v || decide ((↑(ByteArray.size s):Int)>t.p)then bif decide (0≤t.p∧t.p≤1000) &&true then
  ∀s':Y,szO (jfw (bz s) (Int.toNat t.p) (List.getD (bz (ByteArray.mk #[32])) 0 0))=s'→R (tp3 0 s' 0 .nilIface)else False else R (tp3 0 s 0 .nilIface)else False
def tlB(R:Value→Prop)(t:Ty)(e:Value)(s:Y):Prop:=bif decide (0≤t.p∧t.p≤1000) &&true then
  ∀s':Y,szO (jfw (bz s) (Int.toNat t.p) (List.getD (bz (ByteArray.mk #[48])) 0 0))=s'→R (tp3 0 s' 0 e)else False
def tlX(R:Value→Prop)(t:Ty)(s:Y):Prop:=bif decide (0≤tyP (bz t.s)∧tyP (bz t.s)≤1000) &&true then
  ∀s':Y,szO (jfw (bz s) (Int.toNat (tyP (bz t.s))) (List.getD (bz (ByteArray.mk #[32])) 0 0))=s'→bif decide (ByteArray.size t.s≤9223372036854775807∧ByteArray.size s'≤9223372036854775807)then
   ∀b:Bool,HoIs t.s s' b→bif !b then R (tp3 0 ⟨#[]⟩ 0 (er s'))else R (tp3 0 s' 0 .nilIface)else False else False
def tlE(R:Value→Prop)(t:Ty)(x:Num):Prop:=bif decide (ByteArray.size (szO x.2.1)≤9223372036854775807)then bif decide (ByteArray.size t.s≤9223372036854775807∧ -9223372036854775808≤(tkV x.1 (bz (szO x.2.1)) x.2.2 (pT t.s)).1∧(tkV x.1 (bz (szO x.2.1)) x.2.2 (pT t.s)).1≤9223372036854775807)then
  ∀(s:Y)(b:Bool)(e:Int),EdIs t.s (tkV x.1 (bz (szO x.2.1)) x.2.2 (pT t.s)).1 (pQ (bz t.s)) (s,b,e)→bif !b then R (tp3 0 s 1 .nilIface)else R (tp3 0 s (tkV x.1 (bz (szO x.2.1)) x.2.2 (pT t.s)).2.1 .nilIface)else False else False
def skU(R:Value→Prop)(t:Ty)(nm:(Num→Prop)→Prop)(tx:(Y→Prop)→Prop)(bt:Prop):Prop:=
 bif t.k==1 then nm (tlA R t)else bif t.k==2 then nm (tlA R t)else bif t.k==3 then tx (tlC R t)else bif t.k==4 then bt else
 bif decide (ByteArray.size t.s≤9223372036854775807)then bif decide (ByteArray.size t.s≤9223372036854775807)then bif !pN (bz t.s)then tx (tlX R t)∧tx (tlX R t)∧tx (tlX R t)else nm (tlE R t)else False else False
theorem u99_w(n k p q:Int)(w:Bool)(u:Y)(t:Ty)(R:Value→Prop):ja1 Tryz.prog U1 noL Tryz.f99 [.iface 174 (.agg ⟨[.int .i64 n,.int .i64 k,.int .i64 p,.int .i64 q,.bool w,.string u]⟩),Enc.enc t] (fun _=>none) 0 (fun v _ _=>R v)=(skU R t (fun a=>bif ll (-2147483648) n 2147483648 0 q 9 then∀b:Cv.Num,NumIs (numA n q) b→a b else False) (fun a=>bif m9 (Fx.Ty.mk k p q w u) n then a (szO (txtZ n (Fx.Ty.mk k p q w u)))else False) (bif m9 (Fx.Ty.mk k p q w u) n then∀a:Y,StrIs (inB (jf3 (Fx.Ty.mk k p q w u)).toNat (divT q.toNat (absI n))) a→tlB R t Value.nilIface a else False)):=by kernel_rfl
theorem u99_b(s:Y)(t:Ty)(R:Value→Prop):ja1 Tryz.prog U1 noL Tryz.f99 [.iface 175 (.string s),Enc.enc t] (fun _=>none) 0 (fun v _ _=>R v)=(skU R t (fun a=>bif jco (bz s) &&decide (s.size≤64)then∀b:Cv.Num,NumIs (ja4 false (binD (bz s)) 0) b→a b else False) (fun a=>a s) (tlB R t Value.nilIface s)):=by kernel_rfl
theorem u99_c(s:Y)(t:Ty)(R:Value→Prop):ja1 Tryz.prog U1 noL Tryz.f99 [.iface 178 (.string s),Enc.enc t] (fun _=>none) 0 (fun v _ _=>R v)=(skU R t (fun a=>bif fw s then(∀b:Cv.Num,RdIs s (some b)→a b)∧(RdIs s none→R (tp3 0 a8 0 (er s)))else False) (fun a=>a s) (bif fw s then(BitsIs s true→tlB R t Value.nilIface s)∧(BitsIs s false→tlB R t (er s) a8)else False)):=by kernel_rfl
theorem u99_p(s pc:Y)(t:Ty)(R:Value→Prop):ja1 Tryz.prog U1 noL Tryz.f99 [.iface 177 (.agg ⟨[.string s,.string pc]⟩),Enc.enc t] (fun _=>none) 0 (fun v _ _=>R v)=(skU R t (fun a=>bif pN (bz pc) &&kr pc s then∀b:Cv.Num,NumIs (numA (rdV (bz pc) (bz s)).fst (pQ (bz pc))) b→a b else False) (fun a=>a s) (bif pN (bz pc) &&kr pc s then∀a:Y,StrIs (inB (jf3 (pT pc)).toNat (divT (pQ (bz pc)).toNat (absI (rdV (bz pc) (bz s)).fst))) a→tlB R t Value.nilIface a else False)):=by kernel_rfl
end Go.Cx
end
noncomputable section
namespace Go.Cx
open Go Go.Ab Go.Proofs Go.Shelf Go.Px Go.Cv
theorem nz_len(l:J):(nz l).length≤l.length:=Nat.le_trans (jlx _ _) (jk6 _ _)
theorem jf9(g:Bool)(l:J)(q:Int):(ja4 g l q).2.1.length≤l.length:=by
 unfold ja4;split
 ·simp
 ·exact nz_len l
theorem decR_len{g:Bool}{l:J}{x:Num}(h:decR ja4 g l=some x):x.2.1.length≤l.length+l.length:=by
 rw[decR_eq]at h;cases hd:decE l with
 | none=>rw[hd]at h;cases h
 | some e=>
  rw[hd]at h;have h:decB g (Cv.ahead 69 l) e=some x:=h;unfold decB at h;split at h
  ·cases h;refine Nat.le_trans (jf9 _ _ _) ?_;have h1:=ahead_le 69 l;have h2:=ahead_le 46 (Cv.ahead 69 l)
   have h3:((past 46 (Cv.ahead 69 l)).getD []).length≤l.length:=by
    rw[jhs];split
    ·rw[Option.getD_some,List.length_drop];omega
    ·simp
   rw[List.length_append];omega
  ·cases h
theorem jjw{g:Bool}{l:J}{x:Num}(hl:l.length≤255)(h:bodR ja4 binD g l=some x):x.2.1.length≤600:=by
 unfold bodR at h;split at h
 ·split at h
  ·rename_i q;cases h;refine Nat.le_trans (jf9 _ _ _) ?_;have hr:=bin_31 q.2 (by rw[List.length_dropLast];exact q.1);rw[binD,decZ,zl,List.length_map];have:=jjq 9 (binG l.dropLast 0).toNat (by omega);omega
  ·cases h
 ·have:=decR_len h;omega
theorem rdN_len(l:J):((rdN l).getD num0).2.1.length≤600:=by
 cases h:rdN l with
 | none=>simp[num0]
 | some x=>
  rw[Option.getD_some];unfold rdN at h;split at h
  ·cases h
  rename_i hl;have h1:=jlx (tlZ l 32) 32;have h2:=jk6 l 32;unfold numR at h;rw[trL_eq,trR_eq]at h;generalize trZ (tlZ l 32) 32=u at h h1;unfold sgnR at h;split at h
  ·cases h;simp
  ·rename_i r _;exact jjw (by simp at h1;omega) h
  ·rename_i r _;exact jjw (by simp at h1;omega) h
  ·exact jjw (by omega) h
end Go.Cx
end
noncomputable section
namespace Go.Cx
open Go Go.Ab Go.Px Go.Cv
open Go.Fx (Ty Vl check jbd most base pw bnd Fit fits scl cutN cutC InB)
theorem jfq:∀(l:J)(a:Int),decG l a=a*10^l.length+decG l 0
 | [],a=>by simp[decG]
 | c::r,a=>by
  rw[decG,decG,jfq r (10*a+(c-48)),jfq r (10*0+(c-48)),List.length_cons,Int.pow_succ];grind
theorem jgi(l r:J)(a:Int):decG (l++r) a=decG r (decG l a):=by
 rw[jjp,jjp,jjp,List.foldl_append]
theorem jhd:∀(k:Nat)(a:Int),decG (rep48 k) a=a*10^k
 | 0,a=>by simp[rep48,decG]
 | k+1,a=>by
  rw[rep48,List.replicate_succ,decG,←rep48,jhd k,Int.pow_succ];grind
theorem jkz:∀(l:J)(a:Int),jbm l=true→0≤a→a≤decG l a
 | [],a,_,_=>by simp[decG]
 | c::r,a,h,h0=>by
  simp only[jbm,List.all_cons,jaf]at h;have hc:48≤c∧c≤57:=by simpa[dig]using h.1
  rw[decG];have:=jkz r (10*a+(c-48)) h.2 (by omega);omega
theorem jky:∀(l:J),jbm l=true→decG l 0<10^l.length
 | [],_=>by simp[decG]
 | c::r,h=>by
  simp only[jbm,List.all_cons,jaf]at h;have hc:48≤c∧c≤57:=by simpa[dig]using h.1
  have ih:=jky r h.2;have hp:(0:Int)<10^r.length:=Int.pow_pos (by decide);rw[decG,jfq,List.length_cons,Int.pow_succ];have:(10*0+(c-48))*10^r.length≤9*(10:Int) ^r.length:=Int.mul_le_mul_of_nonneg_right (by omega) (by omega);omega
theorem jjo(l:J)(h:jbm l=true):0≤decG l 0:=jkz l 0 h (Int.le_refl _)
theorem decG_mod{b:Int}(l:J)(y:Int):decG l (y%b)%b=decG l y%b:=by
 rw[jfq l (y%b),jfq l y,Int.add_emod,Int.mul_emod,Int.emod_emod_of_dvd y (Int.dvd_refl b),←Int.mul_emod,←Int.add_emod]
theorem jk7{b:Int}(hb:0<b):∀(l:J)(x k:Int),jbm l=true→0≤x∧x<b→(tkGo b l x k).1=decG l x%b
 | [],x,k,_,hx=>by simp only[tkGo,decG];exact(Int.emod_eq_of_lt hx.1 hx.2).symm
 | c::r,x,k,h,hx=>by
  simp only[jbm,List.all_cons,jaf]at h;have hc:48≤c∧c≤57:=by simpa[dig]using h.1
  have h0:0≤10*x+(c-48):=by omega
  rw[tkGo,decG];split
  ·have e:(10*x+(c-48)).tmod b=(10*x+(c-48))%b:=Int.tmod_eq_emod_of_nonneg h0;rw[e,jk7 hb r _ _ h.2 ⟨Int.emod_nonneg _ (by omega),Int.emod_lt_of_pos _ hb⟩,decG_mod]
  ·exact jk7 hb r _ _ h.2 ⟨h0,by omega⟩
theorem tk_one{b:Int}:∀(l:J)(x:Int),(tkGo b l x 1).2=1
 | [],x=>rfl
 | c::r,x=>by rw[tkGo];split<;>exact tk_one r _
theorem jly{b:Int}(hb:0<b):∀(l:J)(x k:Int),jbm l=true→0≤x∧x<b→(tkGo b l x k).2=if decG l x<b then k else 1
 | [],x,k,_,hx=>(if_pos hx.2).symm
 | c::r,x,k,h,hx=>by
  simp only[jbm,List.all_cons,jaf]at h;have hc:48≤c∧c≤57:=by simpa[dig]using h.1
  have h0:0≤10*x+(c-48):=by omega
  rw[tkGo,decG];split
  ·have:=jkz r _ h.2 h0;rw[tk_one,if_neg (by omega)]
  ·exact jly hb r _ _ h.2 ⟨h0,by omega⟩
theorem decG_take{l:J}(h:jbm l=true){k:Nat}(hk:k≤l.length):decG (l.take (l.length-k)) 0=decG l 0/10^k:=by
 have e:decG l 0=decG (l.take (l.length-k)) 0*10^k+decG (l.drop (l.length-k)) 0:=by
  have:=jgi (l.take (l.length-k)) (l.drop (l.length-k)) 0;rw[List.take_append_drop,jfq (l.drop _)]at this;rw[this,List.length_drop,show l.length-(l.length-k)=k by omega]
 have hd:jbm (l.drop (l.length-k))=true:=List.all_eq_true.2 fun c hc=>List.all_eq_true.1 h c (List.drop_subset _ _ hc)
 have h1:=jjo _ hd;have h2:=jky _ hd;rw[List.length_drop,show l.length-(l.length-k)=k by omega]at h2;rw[e,Int.add_comm,Int.add_mul_ediv_right _ _ (by have:(0:Int)<10^k:=Int.pow_pos (by decide);omega),Int.ediv_eq_zero_of_lt h1 h2,Int.zero_add]
def shf(m d:Int):Int:=if 0≤d then m*10^d.toNat else m/10^ (-d).toNat
theorem jkk{ds:J}{sc q:Int}(h:jbm ds=true):decG (plcR ds sc q) 0=shf (decG ds 0) (q-sc):=by
 unfold plcR plcZ shf;by_cases he:ds=[]
 ·subst he;rw[if_pos rfl,List.take_nil];have:decG [] 0=0:=rfl;rw[this];split<;>simp
 ·rw[if_neg he];split
  ·have e:((ds++rep48 (q-sc).toNat).length-max 0 (min ((ds++rep48 (q-sc).toNat).length:Int) (sc-q))).toNat=(ds++rep48 (q-sc).toNat).length:=by omega
   rw[e,List.take_of_length_le (Nat.le_refl _),jgi,jhd]
  ·have e:(q-sc).toNat=0:=by omega
   rw[e,show rep48 0=[]from rfl,List.append_nil];by_cases hl:(sc-q).toNat≤ds.length
   ·have e2:((ds.length:Int)-max 0 (min (ds.length:Int) (sc-q))).toNat=ds.length-(-(q-sc)).toNat:=by omega
    rw[e2,decG_take h (by omega)]
   ·have e2:((ds.length:Int)-max 0 (min (ds.length:Int) (sc-q))).toNat=0:=by omega
    rw[e2,List.take_zero];refine(Int.ediv_eq_zero_of_lt (jjo ds h) (Int.lt_of_lt_of_le (jky ds h) ?_)).symm;have:(10:Nat) ^ds.length≤10^ (-(q-sc)).toNat:=Nat.pow_le_pow_right (by decide) (by omega)
    exact_mod_cast this
theorem tl_app(l:J):∃k,l=rep48 k++tlZ l 48:=by
 induction l with
 | nil=>exact⟨0,rfl⟩
 | cons c r ih=>
  by_cases h:c=48
  ·subst h;obtain⟨k,e⟩:=ih;refine⟨k+1,?_⟩;rw[tl_cons,rep48,List.replicate_succ,List.cons_append,←rep48,←e]
  ·exact⟨0,by rw[tl_ne h];rfl⟩
theorem tr_app(l:J):∃k,l=trZ l 48++rep48 k∧l.length=(trZ l 48).length+k:=by
 obtain⟨k,e⟩:=tl_app l.reverse;refine⟨k,?_,?_⟩
 ·have:=congrArg List.reverse e;rw[List.reverse_reverse,List.reverse_append,rep48,List.reverse_replicate,←rep48]at this;exact this
 ·have:=congrArg List.length e;rw[List.length_reverse,List.length_append,rep48,List.length_replicate]at this;rw[trZ,List.length_reverse];unfold tlZ at this;omega
theorem jl6(l:J):∃k:Nat,decG l 0=decG (nz l) 0*10^k∧(tlZ l 48).length=(nz l).length+k:=by
 obtain⟨j,e⟩:=tl_app l;obtain⟨k,e2,e3⟩:=tr_app (tlZ l 48);refine⟨k,?_,e3⟩
 have e1:decG l 0=decG (tlZ l 48) 0:=by
  have:=jgi (rep48 j) (tlZ l 48) 0;rw[←e,jhd,Int.zero_mul]at this;exact this
 rw[e1];have:=jgi (nz l) (rep48 k) 0;rw[jhd]at this;rw[←this];exact congrArg (decG · 0) e2
theorem shf_mul(m:Int)(k:Nat)(d:Int):shf m (d+k)=shf (m*10^k) d:=by
 unfold shf;have hp:∀n:Nat,(10:Int) ^n≠0:=fun n=>Int.ne_of_gt (Int.pow_pos (by decide))
 by_cases h:0≤d
 ·rw[if_pos h,if_pos (by omega),show(d+k).toNat=k+d.toNat by omega,Int.pow_add,Int.mul_assoc]
 ·rw[if_neg h];by_cases h2:0≤d+k
  ·rw[if_pos h2,show k=(d+k).toNat+(-d).toNat by omega,Int.pow_add,←Int.mul_assoc,Int.mul_ediv_cancel _ (hp _)];congr 2;omega
  ·rw[if_neg h2,show(-d).toNat=k+(-(d+k)).toNat by omega,Int.pow_add,Int.mul_comm m,Int.mul_ediv_mul_of_pos _ _ (Int.pow_pos (by decide))]
theorem nz_digs{l:J}(h:jbm l=true):jbm (nz l)=true:=List.all_eq_true.2 fun c hc=>by
 refine List.all_eq_true.1 h c ?_;unfold nz trZ at hc;rw[List.mem_reverse]at hc;have h1:=(List.dropWhile_sublist _).subset hc;rw[List.mem_reverse]at h1;exact(List.dropWhile_sublist _).subset h1
theorem norm_val{g:Bool}{l:J}{q Q:Int}(h:jbm l=true):decG (plcR (ja4 g l q).2.1 (ja4 g l q).2.2 Q) 0=shf (decG l 0) (Q-q):=by
 obtain⟨k,e1,e2⟩:=jl6 l;unfold ja4;by_cases h0:nz l=[]
 ·rw[if_pos h0,jkk rfl];rw[h0]at e1;rw[e1];have:decG [] 0=0:=rfl;rw[this,Int.zero_mul];unfold shf;split<;>split<;>simp
 ·rw[if_neg h0,jkk (nz_digs h),e1,←shf_mul];congr 1;simp only;omega
theorem jjh{p:Int→Bool}:∀(l:J)(c:Int),(l.dropWhile p).head?=some c→p c=false
 | [],c,h=>by cases h
 | a::r,c,h=>by
  by_cases ha:p a=true
  ·rw[List.dropWhile_cons_of_pos ha]at h;exact jjh r c h
  ·rw[List.dropWhile_cons_of_neg ha]at h;cases h;simpa using ha
theorem nz_head{l:J}:(nz l).head?≠some 48∧(nz l).getLast?≠some 48:=by
 constructor
 ·intro q;obtain⟨k,e,_⟩:=tr_app (tlZ l 48)
  have:(tlZ l 48).head?=some 48:=by
   rw[e];change (nz l++rep48 k).head?=_;rw[List.head?_append,q];rfl
  have:=jjh l 48 this;simp at this
 ·intro q;unfold nz trZ at q;rw[List.getLast?_reverse]at q;have:=jjh _ 48 q;simp at this
theorem jgp{g:Bool}{l:J}{q:Int}(h:jbm l=true)(hl:l.length≤300)(hq: -100≤q∧q≤100):jgd (ja4 g l q).1 (ja4 g l q).2.1 (ja4 g l q).2.2=true:=by
 obtain⟨k,e1,e2⟩:=jl6 l;have hk:=jk6 l 48;unfold ja4;by_cases h0:nz l=[]
 ·rw[if_pos h0];rfl
 ·rw[if_neg h0];obtain⟨n1,n2⟩:=nz_head (l:=l);unfold jgd;simp only;rw[if_neg h0,nz_digs h,jaa (show(nz l).length≤400 by omega),jaa (show -400≤q-(((tlZ l 48).length:Int)-(nz l).length)∧q-(((tlZ l 48).length:Int)-(nz l).length)≤400 by omega)];have a1:((nz l).head?==some 48)=false:=by simpa using n1
  have a2:((nz l).getLast?==some 48)=false:=by simpa using n2
  rw[a1,a2];rfl
theorem dec_val:∀(k n:Nat),n<10^ (k+1)→decG (zl (Lib.decDigits n)) 0=n
 | k,n,h=>by
  rw[Lib.decDigits];by_cases h10:n<10
  ·rw[dif_pos h10];simp only[zl,List.map_cons,List.map_nil,decG,u8n h10];omega
  ·rw[dif_neg h10];cases k with
   | zero=>omega
   | succ k=>
    have ih:=dec_val k (n/10) (by rw[Nat.pow_succ]at h;omega);rw[zl,List.map_append,←zl,jgi,ih];simp only[List.map_cons,List.map_nil,decG,u8n (show n%10<10 by omega)];omega
theorem ito_val{m:Int}(h:0≤m∧m≤2147483648):decG (itoZ m) 0=m:=by
 obtain⟨k,rfl⟩:∃k:Nat,m=(k:Int):=⟨m.toNat,by omega⟩
 rw[itoZ,Lib.itoa_nonneg];exact dec_val 9 k (by omega)
theorem scl_shf{n d:Int}:scl n d=if n<0 then -(shf (-n) d)else shf n d:=by
 unfold scl shf pw;have hp:∀k:Nat,(0:Int)<10^k:=fun k=>Int.pow_pos (by decide)
 split
 ·split
  ·rw[Int.neg_mul,Int.neg_neg]
  ·rfl
 ·split
  ·rw[←Int.tdiv_eq_ediv_of_nonneg (by omega),Int.neg_tdiv,Int.neg_neg]
  ·rw[Int.tdiv_eq_ediv_of_nonneg (by omega)]
theorem shf_pos{n d:Int}(h:0≤n):0≤shf n d:=by
 have hp:∀k:Nat,(0:Int)<10^k:=fun k=>Int.pow_pos (by decide)
 unfold shf;split
 ·exact Int.mul_nonneg h (Int.le_of_lt (hp _))
 ·exact Int.ediv_nonneg h (Int.le_of_lt (hp _))
theorem jkl{g:Bool}{l:J}{q:Int}:(ja4 g l q).1=(!decide (nz l=[]) &&g):=by
 unfold ja4;by_cases h:nz l=[]
 ·rw[if_pos h,jaa h];rfl
 ·rw[if_neg h,jad h];rfl
theorem tk_num{n q:Int}{t:Ty}(hv:jbd t)(hn: -2147483648≤n∧n≤2147483648)(hq:0≤q∧q≤9):
  tkV (numA n q).1 (numA n q).2.1 (numA n q).2.2 t=(cutN (scl n (t.q-q)) t,cutC (scl n (t.q-q)) t 1,0):=by
 have hm:0≤(if n<0 then -n else n)∧(if n<0 then -n else n)≤2147483648:=by split<;>omega
 obtain⟨d1,d2⟩:=ji6 hm;have dl:=jd9 hm;have hb:=(Fx.bnd_range hv).1;have hN:=jgp (g:=decide (n<0)) (q:=q) d1 (by omega) (by omega);have hV:=norm_val (g:=decide (n<0)) (q:=q) (Q:=t.q) d1;rw[ito_val hm]at hV;obtain⟨-,hD,-,-,-⟩:=jdz hN;have hP:jbm (plcR (ja4 (decide (n<0)) (itoZ (if n<0 then -n else n)) q).2.1 (ja4 (decide (n<0)) (itoZ (if n<0 then -n else n)) q).2.2 t.q)=true:=jer hD;have hs:=shf_pos (d:=t.q-q) hm.1
 have hg:(numA n q).1=true→n<0:=fun h=>by
  rw[numA,jkl]at h;simp only[jaf,jae]at h;exact h.2
 have hg2:(numA n q).1=false→n<0→shf (-n) (t.q-q)=0:=fun h hlt=>by
  rw[numA,jkl,jaa hlt,Bool.and_true]at h;have h0:nz (itoZ (if n<0 then -n else n))=[]:=by simpa using h
  rw[ja4,if_pos h0]at hV;rw[if_pos hlt]at hV;rw[←hV];show decG (plcR [] 0 t.q) 0=0;rw[jkk rfl];show shf 0 _=0;unfold shf;split<;>simp
 unfold tkV;rw[if_neg (by rw[numA,hN];decide),if_neg (fun h=>h hv)];unfold tkR
 rw[show plcR (numA n q).2.1 (numA n q).2.2 t.q=plcR (ja4 (decide (n<0)) (itoZ (if n<0 then -n else n)) q).2.1 (ja4 (decide (n<0)) (itoZ (if n<0 then -n else n)) q).2.2 t.q from rfl,
  jk7 (by omega) _ 0 0 hP ⟨Int.le_refl _,by omega⟩,jly (by omega) _ 0 0 hP ⟨Int.le_refl _,by omega⟩,hV]
 have key:∀X:Int,0≤X→(X.tmod (bnd t)=X%bnd t):=fun X h=>Int.tmod_eq_emod_of_nonneg h
 have inb:∀Z:Int,InB Z t↔(-bnd t<Z∧Z<bnd t):=fun _=>Iff.rfl
 unfold cutN cutC;by_cases hlt:n<0
 ·rw[scl_shf,if_pos hlt];rw[if_pos hlt]at hs ⊢;generalize hX:shf (-n) (t.q-q)=X at*;have hmod:=key X hs;by_cases hg1:(numA n q).1=true
  ·rw[if_pos hg1];by_cases hl:X<bnd t
   ·rw[if_pos hl,if_pos ((inb _).2 (by omega)),if_pos ((inb _).2 (by omega)),Int.emod_eq_of_lt hs hl]
   ·rw[if_neg hl,if_neg (fun h=>absurd ((inb _).1 h) (by omega)),if_neg (fun h=>absurd ((inb _).1 h) (by omega)),Int.neg_tmod,hmod]
  ·have h0:=hg2 (by simpa using hg1) hlt;have h0:X=0:=h0;subst h0;rw[if_neg hg1,if_pos (by omega),if_pos ((inb _).2 (by omega)),if_pos ((inb _).2 (by omega))];simp
 ·rw[scl_shf,if_neg hlt];rw[if_neg hlt]at hs ⊢;generalize hX:shf n (t.q-q)=X at*;have hmod:=key X hs;rw[if_neg (fun h=>hlt (hg h))];by_cases hl:X<bnd t
  ·rw[if_pos hl,if_pos ((inb _).2 (by omega)),if_pos ((inb _).2 (by omega)),Int.emod_eq_of_lt hs hl]
  ·rw[if_neg hl,if_neg (fun h=>absurd ((inb _).1 h) (by omega)),if_neg (fun h=>absurd ((inb _).1 h) (by omega)),hmod]
end Go.Cx
end
noncomputable section
set_option maxHeartbeats 3200000
namespace Go.Cx
open Go Go.Ab Go.Proofs Go.Shelf Go.Px Go.Cv
open Go.Fx (Ty Vl check jbd most base pw bnd Fit fits tv vv tup V0 T0 jbe jbh ja6 jbt str0)
inductive Fu where
 | w (n:Int) (t:Ty)
 | b (s:Y)
 | c (s:Y)
 | p (s pc:Y)
def numU:Fu→Option Num
 | .w n t=>some (numA n t.q)
 | .b s=>some (ja4 false (binD (bz s)) 0)
 | .c s=>rdN (bz s)
 | .p s pc=>some (numA (rdV (bz pc) (bz s)).1 (pQ (bz pc)))
def txtU:Fu→Y
 | .w n t=>szO (txtZ n t)
 | .b s=>s
 | .c s=>s
 | .p s _=>s
def bitU:Fu→Option Y
 | .w n t=>some (szO (inB (jf3 t).toNat (divT t.q.toNat (absI n))))
 | .b s=>some s
 | .c s=>if jco (bz s)=true then some s else none
 | .p s pc=>some (szO (inB (jf3 (pT pc)).toNat (divT (pQ (bz pc)).toNat (absI (rdV (bz pc) (bz s)).1))))
abbrev Cu:=Int×Y×Int×Option Y
def tkU(x:Num)(t:Ty):Int×Int×Int:=tkV x.1 (bz (szO x.2.1)) x.2.2 t
def fiU(s:Y)(n c:Int):Y:=szO (jfw (bz s) n.toNat c)
def cuN(f:Fu)(C:Num→Cu):Cu:=match numU f with
 | some x=>C x
 | none=>(0,⟨#[]⟩,0,some (txtU f))
def cuV(f:Fu)(t:Ty):Cu:=
 if t.k=1∨t.k=2 then cuN f fun x=>((tkU x t).1,⟨#[]⟩,(tkU x t).2.1,none)
 else if t.k=3 then(0,if t.v=true∧ ¬((txtU f).size:Int)>t.p then txtU f else fiU (txtU f) t.p 32,0,none)
 else if t.k=4 then(0,fiU ((bitU f).getD ⟨#[]⟩) t.p 48,0,if(bitU f).isSome then none else some (txtU f))
 else if pN (bz t.s)=true then cuN f fun x=>(0,sz (edS (bz t.s) (tkU x (pT t.s)).1 (pQ (bz t.s))),if edF (bz t.s) (tkU x (pT t.s)).1 (pQ (bz t.s))=true then(tkU x (pT t.s)).2.1 else 1,none)
 else if hoZ (bz t.s) (bz (fiU (txtU f) (tyP (bz t.s)) 32))=true then(0,fiU (txtU f) (tyP (bz t.s)) 32,0,none)else(0,⟨#[]⟩,0,some (fiU (txtU f) (tyP (bz t.s)) 32))
def cuF:Fu→Prop
 | .w n u=>jbd u∧ -2147483648≤n∧n≤2147483648
 | .b s=>jco (bz s)=true∧s.size≤64
 | .c s=>s.size≤9223372036854775807
 | .p s pc=>pN (bz pc)=true∧s.size≤9223372036854775807∧pc.size≤9223372036854775807
def cuA(f:Fu)(t:Ty):Prop:=cuF f∧chk4 t=0∧t.k≠6∧t.s.size≤9223372036854775807
def eV:Option Y→Value
 | none=> .nilIface
 | some s=>er s
abbrev cuR(x:Cu):Value:=tp3 x.1 x.2.1 x.2.2.1 (eV x.2.2.2)
theorem numU_len{f:Fu}(h:cuF f){x:Num}(hx:numU f=some x):x.2.1.length≤600:=by
 cases f with
 | w n u=>
  obtain⟨hv,h1,h2⟩:=h;cases hx;show(numA n u.q).2.1.length≤600;refine Nat.le_trans (jf9 _ _ _) ?_;have:=jd9 (m:=if n<0 then -n else n) (by split<;>omega);omega
 | b s=>
  cases hx;have hb:=jlo h.1 (by rw[jap];exact h.2);have hd:=jlk 20 (binG (bz s) 0) hb.1 (Int.lt_of_lt_of_le hb.2 (by decide));show(ja4 false (binD (bz s)) 0).2.1.length≤600;rw[←jkm];exact Nat.le_trans (jf9 _ _ _) (by omega)
 | c s=>
  have:=rdN_len (bz s);rw[show rdN (bz s)=some x from hx]at this;exact this
 | p s pc=>
  cases hx;have hr:=jnc (t:=s) h.1;show(numA (rdV (bz pc) (bz s)).1 (pQ (bz pc))).2.1.length≤600;refine Nat.le_trans (jf9 _ _ _) ?_;have:=jd9 (m:=if(rdV (bz pc) (bz s)).1<0 then -(rdV (bz pc) (bz s)).1 else(rdV (bz pc) (bz s)).1) (by split<;>omega);omega
theorem tkV_rng(g:Bool)(l:J)(c:Int)(t:Ty): -2147483648≤(tkV g l c t).1∧(tkV g l c t).1≤2147483648:=by
 unfold tkV;split
 ·simp
 rename_i hn;split
 ·simp
 rename_i hv;have hv:jbd t:=Classical.not_not.1 hv;have hb:=Fx.bnd_range hv
 have hd:jbm l=true:=by
  unfold jgd at hn;split at hn
  ·rename_i e;rw[e];rfl
  ·simp at hn;exact hn.2.1
 have hr:=jg6 (b:=bnd t) (by omega) (plcR l c t.q) 0 0 (jer hd) (by omega);unfold tkR;simp only;split<;>omega
theorem k5_of{t:Ty}(h:chk4 t=0)(h6:t.k≠6)(h1:¬(t.k=1∨t.k=2))(h3:t.k≠3)(h4:t.k≠4):t.k=5∧vOK (bz t.s)=true:=by
 unfold chk4 at h;have hv:jbd t→t.k=1∨t.k=2:=fun h=>h.1
 rw[if_neg (fun q=>h1 (hv q)),if_neg (fun q=>h3 q.1),if_neg (fun q=>h4 q.1)]at h;split at h
 ·rename_i q;refine⟨q.1,?_⟩;have:=q.2.2.2.2;unfold pE at this;split at this
  ·assumption
  ·cases this
 ·rw[if_neg (fun q=>h6 q.1)]at h;cases h
theorem p1000{t:Ty}(h:chk4 t=0)(h3:t.k=3∨t.k=4):0≤t.p∧t.p≤1000:=by
 unfold chk4 at h;have hv:jbd t→t.k=1∨t.k=2:=fun h=>h.1
 grind
theorem jmx{f:Fu}{t:Ty}(h:cuA f t){nm:(Num→Prop)→Prop}{tx:(Y→Prop)→Prop}{bt:Prop}
  (hN:∀C:Num→Prop,(∀x,numU f=some x→C x)→(numU f=none→tp3 0 ⟨#[]⟩ 0 (er (txtU f))=cuR (cuV f t))→nm C)
  (hX:∀C:Y→Prop,C (txtU f)→tx C)
  (hB:(∀s,bitU f=some s→tlB (fun v=>v=cuR (cuV f t)) t .nilIface s)→(bitU f=none→tlB (fun v=>v=cuR (cuV f t)) t (er (txtU f)) ⟨#[]⟩)→bt):skU (fun v=>v=cuR (cuV f t)) t nm tx bt:=by
 obtain⟨hF,hk,h6,hs⟩:=h;unfold skU
 have hA:(t.k=1∨t.k=2)→nm (tlA (fun v=>v=cuR (cuV f t)) t):=fun hk12=>by
  have e:cuV f t=cuN f fun x=>((tkU x t).1,⟨#[]⟩,(tkU x t).2.1,none):=if_pos hk12
  refine hN _ (fun x hx=> ?_) (fun hx=> ?_)
  ·rw[e,cuN,hx];exact c_t (jaa (by rw[jcy];exact Nat.le_trans (numU_len hF hx) (by decide))) rfl
  ·rw[e,cuN,hx];rfl
 refine cond_intro (fun h1=>hA (.inl (by simpa using h1))) (fun h1=>cond_intro (fun h2=>hA (.inr (by simpa using h2))) (fun h2=> ?_));have n12:¬(t.k=1∨t.k=2):=by simp at h1 h2;omega
 refine cond_intro (fun h3=> ?_) (fun h3=>cond_intro (fun h4=> ?_) (fun h4=> ?_))
 ·have h3:t.k=3:=by simpa using h3
  have e:cuV f t=(0,if t.v=true∧ ¬((txtU f).size:Int)>t.p then txtU f else fiU (txtU f) t.p 32,0,none):=by unfold cuV;rw[if_neg n12,if_pos h3]
  rw[e];refine hX _ (c_t (Bool.or_true _) (cond_intro (fun h=> ?_) (fun h=> ?_)))
  ·refine c_t (by rw[jaa (p1000 hk (.inl h3))];rfl) fun s' hs=> ?_
   rw[if_neg,←hs]
   ·rfl
   ·rintro ⟨h1,h2⟩;rw[h1,jad h2]at h;cases h
  ·rw[if_pos]
   ·rfl
   ·cases hw:t.v<;>simp[hw]at h ⊢;omega
 ·have h4:t.k=4:=by simpa using h4
  have e:cuV f t=(0,fiU ((bitU f).getD ⟨#[]⟩) t.p 48,0,if(bitU f).isSome then none else some (txtU f)):=by unfold cuV;rw[if_neg n12,if_neg (by omega),if_pos h4]
  rw[e]at hB;refine hB (fun s hs'=> ?_) (fun hs'=> ?_)
  ·rw[hs'];refine c_t (by rw[jaa (p1000 hk (.inr h4))];rfl) fun s' hs=> ?_
   rw[←hs];rfl
  ·rw[hs'];refine c_t (by rw[jaa (p1000 hk (.inr h4))];rfl) fun s' hs=> ?_
   rw[←hs];rfl
 ·have n3:t.k≠3:=by simpa using h3
  have n4:t.k≠4:=by simpa using h4
  have h5:=k5_of hk h6 n12 n3 n4;refine c_t (jaa hs) (c_t (jaa hs) (cond_intro (fun hp=> ?_) (fun hp=> ?_)))
  ·have hp:¬pN (bz t.s)=true:=by simpa using hp
   have e:cuV f t=if hoZ (bz t.s) (bz (fiU (txtU f) (tyP (bz t.s)) 32))=true then(0,fiU (txtU f) (tyP (bz t.s)) 32,0,none)else(0,⟨#[]⟩,0,some (fiU (txtU f) (tyP (bz t.s)) 32)):=by unfold cuV;rw[if_neg n12,if_neg n3,if_neg n4,if_neg hp]
   have hw:0≤tyP (bz t.s)∧tyP (bz t.s)≤1000:=by
    have:= @jj1 t.s;unfold tyP;rw[if_pos h5.2,if_neg hp];omega
   have hT:tlX (fun v=>v=cuR (cuV f t)) t (txtU f):=by
    rw[e];refine c_t (by rw[jaa hw];rfl) fun s' hs'=> ?_
    have es:fiU (txtU f) (tyP (bz t.s)) 32=s':=hs'
    have hl:s'.size≤9223372036854775807:=by
     rw[←es,fiU,jcy,jfw,List.length_append,List.length_take,List.length_replicate];omega
    rw[es];refine c_t (jaa ⟨hs,hl⟩) fun b hb=> ?_
    rw[hb.h];cases b
    ·rfl
    ·rfl
   exact⟨hX _ hT,hX _ hT,hX _ hT⟩
  ·have hp:pN (bz t.s)=true:=by simpa using hp
   have e:cuV f t=cuN f fun x=>(0,sz (edS (bz t.s) (tkU x (pT t.s)).1 (pQ (bz t.s))),if edF (bz t.s) (tkU x (pT t.s)).1 (pQ (bz t.s))=true then(tkU x (pT t.s)).2.1 else 1,none):=by unfold cuV;rw[if_neg n12,if_neg n3,if_neg n4,if_pos hp]
   refine hN _ (fun x hx=> ?_) (fun hx=> ?_)
   ·rw[e,cuN,hx];refine c_t (jaa (by rw[jcy];exact Nat.le_trans (numU_len hF hx) (by decide))) ?_;have hr:=tkV_rng x.1 (bz (szO x.2.1)) x.2.2 (pT t.s);refine c_t (jaa ⟨hs,by omega,by omega⟩) fun s b c hc=> ?_
    have hc:=hc.h;simp only[Prod.mk.injEq]at hc;obtain⟨c1,c2,c3⟩:=hc;simp only[tkU];rw[c1];simp only[c2];cases b<;>rfl
   ·rw[e,cuN,hx];rfl
def decU:Value→Option Fu
 | .iface 174 (.agg ⟨[.int .i64 n,.int .i64 k,.int .i64 p,.int .i64 q,.bool w,.string u]⟩)=>some (.w n ⟨k,p,q,w,u⟩)
 | .iface 175 (.string s)=>some (.b s)
 | .iface 178 (.string s)=>some (.c s)
 | .iface 177 (.agg ⟨[.string s,.string p]⟩)=>some (.p s p)
 | _=>none
open Classical in
theorem cuD_ex:∃d:Fu→Ty→Bool,∀f t,d f t=true↔cuA f t:=⟨fun f t=>decide (cuA f t),fun f t=>by simp⟩
def cuD:Fu→Ty→Bool:=Classical.choose cuD_ex
theorem jk0{f:Fu}{t:Ty}:cuD f t=true↔cuA f t:=Classical.choose_spec cuD_ex f t
def s99u:Ab.Spec:=fun args _=>match args with
 | [a,.agg ⟨[.int .i64 k,.int .i64 p,.int .i64 q,.bool w,.string u]⟩]=>match decU a with
  | some f=>some (cuD f ⟨k,p,q,w,u⟩,cuR (cuV f ⟨k,p,q,w,u⟩))
  | none=>none
 | _=>none
theorem ok99u:jao Tryz.prog 99 s99u:=by
 refine jc9 ok_U1 hmix fn99 jai fun args bs v hs=> ?_
 unfold s99u at hs;split at hs
 case h_2=>cases hs
 rename_i a k p q w u;split at hs
 case h_2=>cases hs
 rename_i f hf;simp only[Option.some.injEq,Prod.mk.injEq]at hs;obtain⟨hA,rfl⟩:=hs;have hA:=jk0.1 hA;have en:(.agg ⟨[.int .i64 k,.int .i64 p,.int .i64 q,.bool w,.string u]⟩:Value)=Enc.enc (⟨k,p,q,w,u⟩:Ty):=rfl;unfold decU at hf;split at hf
 ·cases hf;refine⟨rfl,jag,?_⟩;rw[ja2];rw[en,u99_w];delta m9 ll;refine jmx hA (fun C h1 _=> ?_) (fun C h1=> ?_) (fun h1 _=> ?_)
  ·exact c_t (jaa (by have⟨h1,h2,h3⟩:=hA.1;obtain⟨v1,v2,v3,v4,v5⟩:=Fx.valid_r h1;exact⟨h2,h3,v3,v5⟩)) fun x hx=>h1 x (congrArg some hx.h)
  ·exact c_t (jaa hA.1) h1
  ·exact c_t (jaa hA.1) fun s hs=>h1 s (congrArg some hs.h)
 ·cases hf;refine⟨rfl,jag,?_⟩;rw[ja2];rw[en,u99_b];refine jmx hA (fun C h1 _=> ?_) (fun C h1=>h1) (fun h1 _=>h1 _ rfl);have:=hA.1;exact c_t (by rw[this.1,jaa this.2];rfl) fun x hx=>h1 x (congrArg some hx.h)
 ·cases hf;refine⟨rfl,jag,?_⟩;rw[ja2];rw[en,u99_c];delta a8 fw;refine jmx hA (fun C h1 h2=> ?_) (fun C h1=>h1) (fun h1 h2=> ?_)
  ·exact c_t (jaa hA.1) ⟨fun x hx=>h1 x hx.h,fun hx=>h2 hx.h⟩
  ·exact c_t (jaa hA.1) ⟨fun hx=>h1 _ (if_pos hx.h),fun hx=>h2 (if_neg (by rw[hx.h];decide))⟩
 ·cases hf;refine⟨rfl,jag,?_⟩;rw[ja2];have hc:=hA.1;rw[en,u99_p];delta iy kr;refine jmx hA (fun C h1 _=> ?_) (fun C h1=>h1) (fun h1 _=> ?_)
  ·exact c_t (by rw[hc.1,jaa hc.2];rfl) fun x hx=>h1 x (congrArg some hx.h)
  ·exact c_t (by rw[hc.1,jaa hc.2];rfl) fun s hs=>h1 s (congrArg some hs.h)
 ·cases hf
end Go.Cx
end
noncomputable section
namespace Go.Ab
open Go Go.RowKit
variable [Tabs]
def cj(p:Prop):Nat→Prop
 | 0=>p
 | n+1=>p∧cj p n
omit [Tabs] in
theorem cj_of{p:Prop}(h:p):∀n,cj p n
 | 0=>h
 | n+1=>⟨h,cj_of h n⟩
def jna:List (E×Value)→List Nat→Prop
 | [],_=>True
 | (_,v)::r,[]=>v=v∧jna r []
 | (_,v)::r,k::ks=>cj (v=v) k∧jna r ks
omit [Tabs] in
theorem jkf:∀l ks,jna l ks
 | [],_=>trivial
 | (_,_)::r,[]=>⟨rfl,jkf r []⟩
 | (_,_)::r,k::ks=>⟨cj_of rfl k,jkf r ks⟩
def RunL(P:Program)(G:Env)(L:Nat→Option jb9)(fn:Func):List (E×Value)→Prop
 | []=>True
 | (a,v)::r=>ja1 P G L fn a (fun _=>none) 0 (fun v' _ _=>v'=v)∧RunL P G L fn r
theorem allD_of{P:Program}{G:Env}{L:Nat→Option jb9}{fn:Func}:∀{l:List (E×Value)},RunL P G L fn l→AllD P G L fn l
 | [],_=>trivial
 | (_,_)::_,h=>⟨by rw[ja2];exact h.1,allD_of h.2⟩
theorem jaz(ks:List Nat){P:Program}{G:Env}{L:Nat→Option jb9}{f:FuncId}{fn:Func}(hG:jax P G)(hm:P.follows .mixedOrders=true)(hf:Fn1 P f fn)(hL:LOKf P L fn){l:List (E×Value)}
  (hp:(l.all fun x=>ja5 x.1&&Nat.ble x.1.length fn.ntmps)=true) (h:RunL P G L fn l=jna l ks):jao P f (memo l):=
 jed hG hm hf hL hp (allD_of (cast h.symm (jkf l ks)))
end Go.Ab
end
noncomputable section
namespace Go.Cs
open Go Go.Ab Go.Proofs Go.Shelf Go.Px Go.Cx Go.RowKit
/-- The tables; lengths and characters are computed. -/
instance tabsC:Tabs:={row:=jmy,plain:=tabs.plain,conc:=true}
theorem RelM.toT{N:Nat}{w0:World}{m:Lk}{ι:Nm}{w:World}(h: @RelM tabsC N w0 m ι w): @RelM tabs N w0 m ι w:=
 @RelM.mk tabs N w0 m ι w h.below h.base h.blk h.view h.inj
theorem RelM.toC{N:Nat}{w0:World}{m:Lk}{ι:Nm}{w:World}(h: @RelM tabs N w0 m ι w): @RelM tabsC N w0 m ι w:=
 @RelM.mk tabsC N w0 m ι w (@RelM.below tabs N w0 m ι w h) (@RelM.base tabs N w0 m ι w h) (@RelM.blk tabs N w0 m ι w h) (@RelM.view tabs N w0 m ι w h) (@RelM.inj tabs N w0 m ι w h)
theorem jdg{f:FuncId}{s:Ab.Spec}(h: @jao tabs Tryz.prog f s): @jao tabsC Tryz.prog f s:=
 ⟨h.1,fun args v N w0 lk ι w hr hs hv=>h.2 args v N w0 lk ι w (RelM.toT hr) hs hv⟩
theorem pureT{f:FuncId}{s:Ab.Spec}(h: @jao tabsC Tryz.prog f s): @jao tabs Tryz.prog f s:=
 ⟨h.1,fun args v N w0 lk ι w hr hs hv=>h.2 args v N w0 lk ι w (RelM.toC hr) hs hv⟩
theorem pure_at{f:FuncId}{s:Ab.Spec}(h:jao Tryz.prog f s){l:List (E×Value)}(hl:∀a v,(a,v)∈l→ ∀bs,s a bs=some (true,v)):jao Tryz.prog f (memo l):=
 ⟨h.1,fun args v N w0 lk ι w hr hs hv=>h.2 args v N w0 lk ι w hr (hl _ _ (jhu hs).2 _) hv⟩
def s154(s t:Y):Bool×Value:=(oneB t&&asc (bz t),.string (sz (tlZ (bz s) ((bz t).getD 0 0))))
theorem ok154:jao Tryz.prog 154 (sp2 s154):=by
 have e:s154=Cx.s154:=by funext s t;simp only[s154,Cx.s154,jc3]
 rw[e];exact jdg Cx.ok154
def s131(s t:Y):Bool×Value:=(decide (s.size≤9223372036854775807) && (oneB t&&asc (bz t)),.string (sz (trZ (bz s) ((bz t).getD 0 0))))
theorem ok131:jao Tryz.prog 131 (sp2 s131):=by
 have e:s131=Cx.s131:=by funext s t;simp only[s131,Cx.s131,jc3]
 rw[e];exact jdg Cx.ok131
def s55(s t:Y):Bool×Value:=(decide (s.size≤9223372036854775807) && (decide (t.size≤1000) &&asc (bz t)),.string (sz (jb4 (bz s) (bz t))))
theorem ok55:jao Tryz.prog 55 (sp2 s55):=by
 have e:s55=Cx.s55:=by funext s t;simp only[s55,Cx.s55,jc3]
 rw[e];exact jdg Cx.ok55
def s30(s:Y)(n:Int):Bool×Value:=(decide (0≤n∧n≤1000∧s.size≤1000),.string (sz (repZ (bz s) n.toNat)))
theorem ok30:jao Tryz.prog 30 (sp2 s30):=by
 have e:s30=Cx.s30:=by funext s n;simp only[s30,Cx.s30,jc3]
 rw[e];exact jdg Cx.ok30
theorem dec1234:Lib.decDigits 1234=[49,50,51,52]:=by
 rw[Lib.decDigits,dif_neg (by decide),Lib.decDigits,dif_neg (by decide),Lib.decDigits_two (by decide) (by decide)];rfl
theorem dec1230:Lib.decDigits 1230=[49,50,51,48]:=by
 rw[Lib.decDigits,dif_neg (by decide),Lib.decDigits,dif_neg (by decide),Lib.decDigits_two (by decide) (by decide)];rfl
theorem dec150:Lib.decDigits 150=[49,53,48]:=by
 rw[Lib.decDigits,dif_neg (by decide),Lib.decDigits_two (by decide) (by decide)];rfl
theorem dec123:Lib.decDigits 123=[49,50,51]:=by
 rw[Lib.decDigits,dif_neg (by decide),Lib.decDigits_two (by decide) (by decide)];rfl
theorem dec234:Lib.decDigits 234=[50,51,52]:=by
 rw[Lib.decDigits,dif_neg (by decide),Lib.decDigits_two (by decide) (by decide)];rfl
theorem ito{n:Nat}{l:Yb}(h:Lib.decDigits n=l):Cx.s29 (n:Int)=(decide (-9223372036854775808≤(n:Int)∧(n:Int)≤9223372036854775807),.string ⟨l.toArray⟩):=by
 rw[Cx.s29,jc3,itoZ,Lib.itoa_nonneg,h,jg4]
theorem fmt{n:Nat}{l:Yb}(h:Lib.decDigits n=l):Px.s87 ⟨(n:Int)⟩ 10=(decide (0≤(n:Int)∧(n:Int)<18446744073709551616) &&jnh 10,.string ⟨l.toArray⟩):=by
 show(_,Value.string (sz (zl (Lib.decDigits (n:Int).toNat))))=_;rw[Int.toNat_natCast,h,jg4]
def m29:List (E×Value):=[([.int .i64 150],.string ⟨#[49,53,48]⟩),([.int .i64 123],.string ⟨#[49,50,51]⟩),([.int .i64 1234],.string ⟨#[49,50,51,52]⟩)]
theorem jkn{α:Type}{p:α→Prop}:∀{l:List α},(l.foldr (fun a q=>p a∧q) True)→ ∀a∈l,p a
 | _::_,h,_,ha=>by
  rcases List.mem_cons.1 ha with rfl | ha
  ·exact h.1
  ·exact jkn h.2 _ ha
theorem pk29:jao Tryz.prog 29 (memo m29):=pure_at (jdg Cx.ok29) fun a v h bs=>by
 have:=jkn (p:=fun x:E×Value=>sp1 Cx.s29 x.1 bs=some (true,x.2)) (l:=m29) ⟨congrArg some (ito dec150),congrArg some (ito dec123),congrArg some (ito dec1234),trivial⟩ _ h;exact this
def m81:List (E×Value):=[([.int .u64 1230,.int .i64 10],.string ⟨#[49,50,51,48]⟩),([.int .u64 234,.int .i64 10],.string ⟨#[50,51,52]⟩)]
theorem pk81:jao Tryz.prog 81 (memo m81):=pure_at (jdg Px.ok87) fun a v h bs=>by
 have:=jkn (p:=fun x:E×Value=>sp2 Px.s87 x.1 bs=some (true,x.2)) (l:=m81) ⟨congrArg some (fmt dec1230),congrArg some (fmt dec234),trivial⟩ _ h;exact this
theorem genC: @jc7 tabsC Tryz.prog 100 h100:=by
 obtain⟨h1,h2⟩:= @gen100;refine⟨h1,fun args m n K hh N w0 ι w hrel hwf hargs=> ?_⟩;refine(h2 args m n K hh N w0 ι w (RelM.toT hrel) hwf hargs).mono fun e w' ⟨v,m',n',ι',h⟩=>⟨v,m',n',ι',h.1,h.2.1,h.2.2.1,h.2.2.2.1,RelM.toC h.2.2.2.2.1,h.2.2.2.2.2⟩
def S0:Env:=Env.nil
theorem ok_S0:jax Tryz.prog S0:=jan
end Go.Cs
end
noncomputable section
set_option maxRecDepth 100000
set_option maxHeartbeats 3200000
namespace Go.Cs
open Go Go.Ab Go.Proofs Go.Px Go.Cx
theorem jcj{row tail:E}{cap n:Nat}(h:jay tail cap n 1=true)(hr:Nat.beq row.length n=true):
  (Nat.beq (List.length (row++tail)) (cap*1) &&Nat.ble n cap&&Nat.ble cap 9223372036854775807&&true&&true)=true:=by
 simp only[jay,jaf]at h;obtain⟨⟨⟨_,h2⟩,h3⟩,h4⟩:=h;have hr:=jah hr;have h2:=jah h2
 have e:Nat.beq (List.length (row++tail)) (cap*1)=true:=by
  rw[List.length_append,hr,←h2,Nat.mul_one,Nat.add_comm];exact Nat.beq_refl _
 rw[e,h3,h4];rfl
theorem fn234:Fn1 Tryz.prog 234 Tryz.f234:= .m Tryz.func234
def B1:Env:=Env.nil.add 272 (sp2 Px.s141)
theorem ok_B1:jax Tryz.prog B1:=jak jan (jdg Px.ok141)
theorem fn235:Fn1 Tryz.prog 235 Tryz.f235:= .m Tryz.func235
def B2:Env:=(Env.nil.addG 234 (inlQ Tryz.prog S0 noL Tryz.f234)).addG 235 (inlQ Tryz.prog B1 noL Tryz.f235)
theorem ok_B2:jax Tryz.prog B2:=jam (jam jan (jar ok_S0 hmix fn234 jai)) (jar ok_B1 hmix fn235 jai)
theorem fn188:Fn1 Tryz.prog 188 Tryz.f188:= .m Tryz.func188
def m188:List (E×Value):=[([.string ⟨#[90,90,57,86,46,57,57]⟩],.tuple ⟨[.string ⟨#[90,90,57,86,46,57,57]⟩,.bool true]⟩),([.string ⟨#[57,57,57]⟩],.tuple ⟨[.string ⟨#[57,57,57]⟩,.bool true]⟩),([.string ⟨#[65,65,57]⟩],.tuple ⟨[.string ⟨#[65,65,57]⟩,.bool true]⟩)]
def o4(a:E)(b:Nat)(f:Prop)(e:Value):Prop:=cw a b 1→(bif iq ([e]++a) b 1&&true then∀c:Nat,∀d:E,cw d c 2→cq (iq ([e,e]++d) c 2&&true) f else False)
def l7(c:Prop)(d:Value):Prop:=∀a:Nat,∀b:E,o4 b a c d
def qk(a e f o:E)(b:Nat)(p:Prop)(c d:Value):Prop:=cw a b 3→(bif iq ([c,c,d]++a) b 3&&true then∀g:Nat,∀h:E,cw h g 4→(bif iq (e++h) g 4&&true then∀i:Nat,∀j:E,cw j i 5→(bif iq (c::f++j) i 5&&true then∀k:Nat,∀l:E,cw l k 6→(bif iq (c::c::o++l) k 6&&true then∀m:Nat,∀n:E,cw n m 7→p else False)else False)else False)else False)
def ow:Value:=e8 [90,90,57,86,46,57,57]
theorem v188_0(R:Value→Prop):ja1 Tryz.prog B2 noL Tryz.f188 [S ⟨#[90,90,57,86,46,57,57]⟩] (fun _=>none) 0 (fun v _ _=>R v)=(l7 (∀e:Nat,∀f:E,qk f (jo 90 90 57 86) (jo 90 57 86 46) (jo 57 86 46 57) e (R (al (ow::dw))) (ao 90) (ao 57)) (ao 90)):=by kernel_rfl
theorem k188_0:ja2 Tryz.prog B2 noL Tryz.f188 [.string ⟨#[90,90,57,86,46,57,57]⟩] (.tuple ⟨[.string ⟨#[90,90,57,86,46,57,57]⟩,.bool true]⟩):=by
 rw[ja2,v188_0];delta cq iq cw o4 l7 ao qk al dw e8 ow jo;intro c1 t1 h1;refine c_t (jcj (row:=[.int .u8 90]) h1 rfl) ?_;intro c2 t2 h2;refine c_t (jcj (row:=[.int .u8 90,.int .u8 90]) h2 rfl) ?_;intro c3 t3 h3;refine c_t (jcj (row:=[.int .u8 90,.int .u8 90,.int .u8 57]) h3 rfl) ?_;intro c4 t4 h4;refine c_t (jcj (row:=[.int .u8 90,.int .u8 90,.int .u8 57,.int .u8 86]) h4 rfl) ?_;intro c5 t5 h5;refine c_t (jcj (row:=[.int .u8 90,.int .u8 90,.int .u8 57,.int .u8 86,.int .u8 46]) h5 rfl) ?_;intro c6 t6 h6;refine c_t (jcj (row:=[.int .u8 90,.int .u8 90,.int .u8 57,.int .u8 86,.int .u8 46,.int .u8 57]) h6 rfl) ?_;intro c7 t7 h7;rfl
def fx(a b c:UInt8):Value:= .string ⟨#[a,b,c]⟩
theorem v188_1(R:Value→Prop):ja1 Tryz.prog B2 noL Tryz.f188 [S ⟨#[57,57,57]⟩] (fun _=>none) 0 (fun v _ _=>R v)=(l7 (∀e:Nat,∀f:E,cw f e 3→R (al (fx 57 57 57::dw))) (ao 57)):=by kernel_rfl
theorem k188_1:ja2 Tryz.prog B2 noL Tryz.f188 [.string ⟨#[57,57,57]⟩] (.tuple ⟨[.string ⟨#[57,57,57]⟩,.bool true]⟩):=by
 rw[ja2,v188_1];delta cq iq cw o4 l7 ao al dw fx;intro c1 t1 h1;refine c_t (jcj (row:=[.int .u8 57]) h1 rfl) ?_;intro c2 t2 h2;refine c_t (jcj (row:=[.int .u8 57,.int .u8 57]) h2 rfl) ?_;intro c3 t3 h3;rfl
theorem v188_2(R:Value→Prop):ja1 Tryz.prog B2 noL Tryz.f188 [S ⟨#[65,65,57]⟩] (fun _=>none) 0 (fun v _ _=>R v)=(l7 (∀e:Nat,∀f:E,cw f e 3→R (al (fx 65 65 57::dw))) (ao 65)):=by kernel_rfl
theorem k188_2:ja2 Tryz.prog B2 noL Tryz.f188 [.string ⟨#[65,65,57]⟩] (.tuple ⟨[.string ⟨#[65,65,57]⟩,.bool true]⟩):=by
 rw[ja2,v188_2];delta cq iq cw o4 l7 ao al dw fx;intro c1 t1 h1;refine c_t (jcj (row:=[.int .u8 65]) h1 rfl) ?_;intro c2 t2 h2;refine c_t (jcj (row:=[.int .u8 65,.int .u8 65]) h2 rfl) ?_;intro c3 t3 h3;rfl
theorem pk188:jao Tryz.prog 188 (memo m188):=jed ok_B2 hmix fn188 jai (by kernel_rfl) ⟨k188_0,k188_1,k188_2,trivial⟩
def B3:Env:=Env.nil.add 272 (sp2 Px.s141)
theorem ok_B3:jax Tryz.prog B3:=jak jan (jdg Px.ok141)
theorem fn281:Fn1 Tryz.prog 281 Tryz.f281:= .m Tryz.func281
def B4:Env:=(((Env.nil.add 272 (sp2 Px.s141)).add 279 (sp2 Px.s157)).add 129 (sp2 s132)).add 280 (sp2 s280)
theorem ok_B4:jax Tryz.prog B4:=jak (jak (jak (jak jan (jdg Px.ok141)) (jdg Px.ok157)) (jdg ok132)) (jdg ok280)
theorem fn244:Fn1 Tryz.prog 244 Tryz.f244:= .m Tryz.func244
def B5:Env:=Env.nil.addG 281 (inlQ Tryz.prog B3 noL Tryz.f281)
theorem ok_B5:jax Tryz.prog B5:=jam jan (jar ok_B3 hmix fn281 jai)
theorem fn245:Fn1 Tryz.prog 245 Tryz.f245:= .m Tryz.func245
def B6:Env:=Env.nil
theorem ok_B6:jax Tryz.prog B6:=jan
theorem fn246:Fn1 Tryz.prog 246 Tryz.f246:= .m Tryz.func246
def B7:Env:=Env.nil.add 272 (sp2 Px.s141)
theorem ok_B7:jax Tryz.prog B7:=jak jan (jdg Px.ok141)
theorem fn247:Fn1 Tryz.prog 247 Tryz.f247:= .m Tryz.func247
def B8:Env:=((((((Env.nil.add 129 (sp2 s132)).add 130 (sp2 s130)).add 203 (sp2 s102)).addG 244 (inlQ Tryz.prog B4 noL Tryz.f244)).addG 245 (inlQ Tryz.prog B5 noL Tryz.f245)).addG 246 (inlQ Tryz.prog B6 noL Tryz.f246)).addG 247 (inlQ Tryz.prog B7 noL Tryz.f247)
theorem ok_B8:jax Tryz.prog B8:=jam (jam (jam (jam (jak (jak (jak jan (jdg ok132)) (jdg ok130)) (jdg ok102)) (jar ok_B4 hmix fn244 jai)) (jar ok_B5 hmix fn245 jai)) (jar ok_B6 hmix fn246 jai)) (jar ok_B7 hmix fn247 jai)
theorem fn204:Fn1 Tryz.prog 204 Tryz.f204:= .m Tryz.func204
def B9:Env:=(((Env.nil.add 55 (sp2 s55)).add 203 (sp2 s102)).add 188 (memo m188)).addG 204 (inlQ Tryz.prog B8 noL Tryz.f204)
theorem ok_B9:jax Tryz.prog B9:=jam (jak (jak (jak jan ok55) (jdg ok102)) pk188) (jar ok_B8 hmix fn204 jai)
theorem fn145:Fn1 Tryz.prog 145 Tryz.f145:= .m Tryz.func145
def B10:Env:=Env.nil.addG 145 (inlQ Tryz.prog B9 noL Tryz.f145)
theorem ok_B10:jax Tryz.prog B10:=jam jan (jar ok_B9 hmix fn145 jai)
theorem fn113:Fn1 Tryz.prog 113 Tryz.f113:= .m Tryz.func113
def m113:List (E×Value):=[([.string ⟨#[90,90,57,86,46,57,57]⟩],.tuple ⟨[.agg ⟨[.string ⟨#[90,90,57,86,46,57,57]⟩,.bool true,.int .i64 6,.int .i64 5,.int .i64 2,.bool false]⟩,.int .i64 0]⟩),([.string ⟨#[57,57,57]⟩],.tuple ⟨[.agg ⟨[.string ⟨#[57,57,57]⟩,.bool true,.int .i64 3,.int .i64 3,.int .i64 0,.bool false]⟩,.int .i64 0]⟩),([.string ⟨#[65,65,57]⟩],.tuple ⟨[.agg ⟨[.string ⟨#[65,65,57]⟩,.bool false,.int .i64 3,.int .i64 0,.int .i64 0,.bool false]⟩,.int .i64 0]⟩)]
def ky(a b c d:Int):E:=ak a::ak b::d7 c d
theorem v113_0(R:Value→Prop):ja1 Tryz.prog B10 noL Tryz.f113 [S ⟨#[90,90,57,86,46,57,57]⟩] (fun _=>none) 0 (fun v _ _=>R v)=(∀a:Nat,jh 7 a→l7 (∀f:Nat,∀g:E,qk g (ky 1 1 0 2) (ky 1 0 2 3) (ky 0 2 3 0) f (∀p:Nat,jh 7 p→R (al [.agg ⟨ow::B true::ak 6::li 5 2⟩,ak 0])) (ak 1) (ak 0)) (ak 1)):=by kernel_rfl
theorem k113_0:ja2 Tryz.prog B10 noL Tryz.f113 [.string ⟨#[90,90,57,86,46,57,57]⟩] (.tuple ⟨[.agg ⟨[.string ⟨#[90,90,57,86,46,57,57]⟩,.bool true,.int .i64 6,.int .i64 5,.int .i64 2,.bool false]⟩,.int .i64 0]⟩):=by
 rw[ja2,v113_0];delta cq iq cw o4 l7 ak qk al fv li e8 ow jh d7 ky;intro c1 h1;intro c2 t2 h2;refine c_t (jcj (row:=[.int .i64 1]) h2 rfl) ?_;intro c3 t3 h3;refine c_t (jcj (row:=[.int .i64 1,.int .i64 1]) h3 rfl) ?_;intro c4 t4 h4;refine c_t (jcj (row:=[.int .i64 1,.int .i64 1,.int .i64 0]) h4 rfl) ?_;intro c5 t5 h5;refine c_t (jcj (row:=[.int .i64 1,.int .i64 1,.int .i64 0,.int .i64 2]) h5 rfl) ?_;intro c6 t6 h6;refine c_t (jcj (row:=[.int .i64 1,.int .i64 1,.int .i64 0,.int .i64 2,.int .i64 3]) h6 rfl) ?_;intro c7 t7 h7;refine c_t (jcj (row:=[.int .i64 1,.int .i64 1,.int .i64 0,.int .i64 2,.int .i64 3,.int .i64 0]) h7 rfl) ?_;intro c8 t8 h8;intro c9 h9;rfl
theorem v113_1(R:Value→Prop):ja1 Tryz.prog B10 noL Tryz.f113 [S ⟨#[57,57,57]⟩] (fun _=>none) 0 (fun v _ _=>R v)=(∀a:Nat,jh 3 a→l7 (∀f:Nat,∀g:E,cw g f 3→(∀h:Nat,jh 3 h→R (al [.agg ⟨fx 57 57 57::B true::ak 3::li 3 0⟩,ak 0]))) (ak 0)):=by kernel_rfl
theorem k113_1:ja2 Tryz.prog B10 noL Tryz.f113 [.string ⟨#[57,57,57]⟩] (.tuple ⟨[.agg ⟨[.string ⟨#[57,57,57]⟩,.bool true,.int .i64 3,.int .i64 3,.int .i64 0,.bool false]⟩,.int .i64 0]⟩):=by
 rw[ja2,v113_1];delta cq iq cw o4 l7 ak al fv li fx jh;intro c1 h1;intro c2 t2 h2;refine c_t (jcj (row:=[.int .i64 0]) h2 rfl) ?_;intro c3 t3 h3;refine c_t (jcj (row:=[.int .i64 0,.int .i64 0]) h3 rfl) ?_;intro c4 t4 h4;intro c5 h5;rfl
theorem v113_2(R:Value→Prop):ja1 Tryz.prog B10 noL Tryz.f113 [S ⟨#[65,65,57]⟩] (fun _=>none) 0 (fun v _ _=>R v)=(R (.tuple ⟨[.agg ⟨[S ⟨#[65,65,57]⟩,B false,I 3,I 0,I 0,B false]⟩,I 0]⟩)):=by kernel_rfl
theorem pk113:jao Tryz.prog 113 (memo m113):=jed ok_B10 hmix fn113 jai (by kernel_rfl) ⟨k113_0,k113_1,by rw[ja2,v113_2],trivial⟩
def B11:Env:=Env.nil.add 113 (memo m113)
theorem ok_B11:jax Tryz.prog B11:=jak jan pk113
theorem fn67:Fn1 Tryz.prog 67 Tryz.f67:= .m Tryz.func67
def m67:List (E×Value):=[([.string ⟨#[90,90,57,86,46,57,57]⟩],.int .i64 0),([.string ⟨#[57,57,57]⟩],.int .i64 0),([.string ⟨#[65,65,57]⟩],.int .i64 0)]
theorem pk67:jao Tryz.prog 67 (memo m67):=jaz [] ok_B11 hmix fn67 jai (by kernel_rfl) (by kernel_rfl)
def B12:Env:=Env.nil.add 113 (memo m113)
theorem ok_B12:jax Tryz.prog B12:=jak jan pk113
theorem fn61:Fn1 Tryz.prog 61 Tryz.f61:= .m Tryz.func61
def m61:List (E×Value):=[([.string ⟨#[90,90,57,86,46,57,57]⟩],.tuple ⟨[.agg ⟨[.int .i64 1,.int .i64 5,.int .i64 2,.bool false,.string ⟨#[]⟩]⟩,.int .i64 0]⟩),([.string ⟨#[57,57,57]⟩],.tuple ⟨[.agg ⟨[.int .i64 1,.int .i64 3,.int .i64 0,.bool false,.string ⟨#[]⟩]⟩,.int .i64 0]⟩),([.string ⟨#[65,65,57]⟩],.tuple ⟨[.agg ⟨[.int .i64 3,.int .i64 3,.int .i64 0,.bool false,.string ⟨#[]⟩]⟩,.int .i64 0]⟩)]
theorem pk61:jao Tryz.prog 61 (memo m61):=jaz [] ok_B12 hmix fn61 jai (by kernel_rfl) (by kernel_rfl)
def B13:Env:=Env.nil.addG 145 (inlQ Tryz.prog B9 noL Tryz.f145)
theorem ok_B13:jax Tryz.prog B13:=jam jan (jar ok_B9 hmix fn145 jai)
theorem fn136:Fn1 Tryz.prog 136 Tryz.f136:= .m Tryz.func136
def B14:Env:=Env.nil.addG 136 (inlQ Tryz.prog B13 noL Tryz.f136)
theorem ok_B14:jax Tryz.prog B14:=jam jan (jar ok_B13 hmix fn136 jai)
theorem fn59:Fn1 Tryz.prog 59 Tryz.f59:= .m Tryz.func59
def m59:List (E×Value):=[([.string ⟨#[90,90,57,86,46,57,57]⟩],.bool true),([.string ⟨#[57,57,57]⟩],.bool true),([.string ⟨#[65,65,57]⟩],.bool false)]
def iz(a b:E)(c d e:Nat):Bool:=(a++b).length.beq (c*d) &&e.ble c&&c.ble 9223372036854775807&&true&&true
def n7(d:E)(a b:Nat)(e:Prop):Prop:=∀c:E,jay c a 1 b=true→cq (iz d c a b 1) e
def nc(d:Int)(c:Nat)(e:Prop):Prop:=∀a:Nat,jh c a→(∀b:Nat,n7 [ak d] b 1 e)
theorem v59_0(R:Value→Prop):ja1 Tryz.prog B14 noL Tryz.f59 [S ⟨#[90,90,57,86,46,57,57]⟩] (fun _=>none) 0 (fun v _ _=>R v)=(nc 1 7 (∀d:Nat,∀e:E,cw e d 2→(bif iz (d7 1 1) e d 1 2 then∀f:Nat,∀g:E,cw g f 3→(bif iz (ak 1::d7 1 0) g f 1 3 then∀h:Nat,∀i:E,cw i h 4→(bif iz (ky 1 1 0 2) i h 1 4 then∀j:Nat,∀k:E,cw k j 5→(bif iz (ak 1::ky 1 0 2 3) k j 1 5 then∀l:Nat,∀m:E,cw m l 6→(bif iz (ak 1::ak 1::ky 0 2 3 0) m l 1 6 then∀n:Nat,∀o:E,cw o n 7→(∀p:Nat,jh 7 p→R (B true))else False)else False)else False)else False)else False))):=by kernel_rfl
theorem k59_0:ja2 Tryz.prog B14 noL Tryz.f59 [.string ⟨#[90,90,57,86,46,57,57]⟩] (.bool true):=by
 rw[ja2,v59_0];delta cq iz n7 ak jh nc cw d7 ky;intro c1 h1;intro c2 t2 h2;refine c_t (jcj (row:=[.int .i64 1]) h2 rfl) ?_;intro c3 t3 h3;refine c_t (jcj (row:=[.int .i64 1,.int .i64 1]) h3 rfl) ?_;intro c4 t4 h4;refine c_t (jcj (row:=[.int .i64 1,.int .i64 1,.int .i64 0]) h4 rfl) ?_;intro c5 t5 h5;refine c_t (jcj (row:=[.int .i64 1,.int .i64 1,.int .i64 0,.int .i64 2]) h5 rfl) ?_;intro c6 t6 h6;refine c_t (jcj (row:=[.int .i64 1,.int .i64 1,.int .i64 0,.int .i64 2,.int .i64 3]) h6 rfl) ?_;intro c7 t7 h7;refine c_t (jcj (row:=[.int .i64 1,.int .i64 1,.int .i64 0,.int .i64 2,.int .i64 3,.int .i64 0]) h7 rfl) ?_;intro c8 t8 h8;intro c9 h9;rfl
def ny(c:E)(a b:Nat)(d:Prop):Prop:=∀e:E,jay e a b 1=true→cq (iz c e a 1 b) d
def ox(a b:Nat)(c:Prop):Prop:=∀g:E,jay g a b 1=true→(∀h:Nat,jh b h→c)
theorem v59_1(R:Value→Prop):ja1 Tryz.prog B14 noL Tryz.f59 [S ⟨#[57,57,57]⟩] (fun _=>none) 0 (fun v _ _=>R v)=(nc 0 3 (∀d:Nat,ny (d7 0 0) d 2 (∀f:Nat,ox f 3 (R (B true))))):=by kernel_rfl
theorem k59_1:ja2 Tryz.prog B14 noL Tryz.f59 [.string ⟨#[57,57,57]⟩] (.bool true):=by
 rw[ja2,v59_1];delta cq iz n7 ak jh nc ny ox d7;intro c1 h1;intro c2 t2 h2;refine c_t (jcj (row:=[.int .i64 0]) h2 rfl) ?_;intro c3 t3 h3;refine c_t (jcj (row:=[.int .i64 0,.int .i64 0]) h3 rfl) ?_;intro c4 t4 h4;intro c5 h5;rfl
theorem v59_2(R:Value→Prop):ja1 Tryz.prog B14 noL Tryz.f59 [S ⟨#[65,65,57]⟩] (fun _=>none) 0 (fun v _ _=>R v)=(R (B false)):=by kernel_rfl
theorem pk59:jao Tryz.prog 59 (memo m59):=jed ok_B14 hmix fn59 jai (by kernel_rfl) ⟨k59_0,k59_1,by rw[ja2,v59_2],trivial⟩
def B15:Env:=Env.nil
theorem ok_B15:jax Tryz.prog B15:=jan
theorem fn147:Fn1 Tryz.prog 147 Tryz.f147:= .m Tryz.func147
def B16:Env:=(((Env.nil.add 154 (sp2 s154)).add 55 (sp2 s55)).add 30 (sp2 s30)).add 81 (memo m81)
theorem ok_B16:jax Tryz.prog B16:=jak (jak (jak (jak jan ok154) ok55) ok30) pk81
theorem fn225:Fn1 Tryz.prog 225 Tryz.f225:= .m Tryz.func225
def B17:Env:=Env.nil
theorem ok_B17:jax Tryz.prog B17:=jan
theorem fn287:Fn1 Tryz.prog 287 Tryz.f287:= .m Tryz.func287
def B18:Env:=Env.nil
theorem ok_B18:jax Tryz.prog B18:=jan
theorem fn288:Fn1 Tryz.prog 288 Tryz.f288:= .m Tryz.func288
def B19:Env:=Env.nil.add 55 (sp2 s55)
theorem ok_B19:jax Tryz.prog B19:=jak jan ok55
theorem fn251:Fn1 Tryz.prog 251 Tryz.f251:= .m Tryz.func251
def B20:Env:=(Env.nil.addG 287 (inlQ Tryz.prog B17 noL Tryz.f287)).addG 288 (inlQ Tryz.prog B18 noL Tryz.f288)
theorem ok_B20:jax Tryz.prog B20:=jam (jam jan (jar ok_B17 hmix fn287 jai)) (jar ok_B18 hmix fn288 jai)
theorem fn252:Fn1 Tryz.prog 252 Tryz.f252:= .m Tryz.func252
def B21:Env:=Env.nil.addG 287 (inlQ Tryz.prog B17 noL Tryz.f287)
theorem ok_B21:jax Tryz.prog B21:=jam jan (jar ok_B17 hmix fn287 jai)
theorem fn253:Fn1 Tryz.prog 253 Tryz.f253:= .m Tryz.func253
def B22:Env:=Env.nil
theorem ok_B22:jax Tryz.prog B22:=jan
theorem fn254:Fn1 Tryz.prog 254 Tryz.f254:= .m Tryz.func254
def B23:Env:=Env.nil
theorem ok_B23:jax Tryz.prog B23:=jan
theorem fn255:Fn1 Tryz.prog 255 Tryz.f255:= .m Tryz.func255
def B24:Env:=Env.nil
theorem ok_B24:jax Tryz.prog B24:=jan
theorem fn256:Fn1 Tryz.prog 256 Tryz.f256:= .m Tryz.func256
def B25:Env:=((((((Env.nil.add 30 (sp2 s30)).addG 251 (inlQ Tryz.prog B19 noL Tryz.f251)).addG 252 (inlQ Tryz.prog B20 noL Tryz.f252)).addG 253 (inlQ Tryz.prog B21 noL Tryz.f253)).addG 254 (inlQ Tryz.prog B22 noL Tryz.f254)).addG 255 (inlQ Tryz.prog B23 noL Tryz.f255)).addG 256 (inlQ Tryz.prog B24 noL Tryz.f256)
theorem ok_B25:jax Tryz.prog B25:=jam (jam (jam (jam (jam (jam (jak jan ok30) (jar ok_B19 hmix fn251 jai)) (jar ok_B20 hmix fn252 jai)) (jar ok_B21 hmix fn253 jai)) (jar ok_B22 hmix fn254 jai)) (jar ok_B23 hmix fn255 jai)) (jar ok_B24 hmix fn256 jai)
theorem fn207:Fn1 Tryz.prog 207 Tryz.f207:= .m Tryz.func207
def B26:Env:=((Env.nil.addG 136 (inlQ Tryz.prog B13 noL Tryz.f136)).addG 225 (inlQ Tryz.prog B16 noL Tryz.f225)).addG 207 (inlQ Tryz.prog B25 noL Tryz.f207)
theorem ok_B26:jax Tryz.prog B26:=jam (jam (jam jan (jar ok_B13 hmix fn136 jai)) (jar ok_B16 hmix fn225 jai)) (jar ok_B25 hmix fn207 jai)
theorem fn171:Fn1 Tryz.prog 171 Tryz.f171:= .m Tryz.func171
def m171:List (E×Value):=[([.int .i64 1230,.int .i64 2,.string ⟨#[90,90,57,86,46,57,57]⟩],.tuple ⟨[.string ⟨#[32,49,50,46,51,48]⟩,.bool true,.int .i64 0]⟩),([.int .i64 234,.int .i64 0,.string ⟨#[57,57,57]⟩],.tuple ⟨[.string ⟨#[50,51,52]⟩,.bool true,.int .i64 0]⟩)]
def ql(d:Int)(b e:E)(a c f:Nat)(h:Value)(g:Value→Prop):Prop:=∀w:Nat,ny b w a (∀y:Nat,∀z:E,jay z y c 1=true→(bif iz (ao d::e) z y 1 c then∀aa:Nat,∀ab:E,jay ab aa f 1=true→g (al [h,.bool true,ak 0])else False))
def n6:Yb:=[32,49,50,46,51,48]
theorem v171_0(R:Value→Prop):ja1 Tryz.prog B26 noL Tryz.f171 [I 1230,I 2,S ⟨#[90,90,57,86,46,57,57]⟩] (fun _=>none) 0 (fun v _ _=>R v)=(nc 1 7 (∀d:Nat,ny (d7 1 1) d 2 (∀f:Nat,∀g:E,jay g f 3 1=true→(bif iz (ak 1::d7 1 0) g f 1 3 then∀h:Nat,∀i:E,jay i h 4 1=true→(bif iz (ky 1 1 0 2) i h 1 4 then∀j:Nat,∀k:E,jay k j 5 1=true→(bif iz (ak 1::ky 1 0 2 3) k j 1 5 then∀l:Nat,∀m:E,jay m l 6 1=true→(bif iz (ak 1::ak 1::ky 0 2 3 0) m l 1 6 then∀n:Nat,ox n 7 (∀q:Nat,∀r:E,jay r q 1 1=true→(bif iz [ao 32] r q 1 1 then∀s:Nat,∀t:E,jay t s 2 1=true→(bif iz [ao 32,ao 49] t s 1 2 then∀u:Nat,∀v:E,jay v u 3 1=true→(bif iz [ao 32,ao 49,ao 50] v u 1 3 then ql 32 (jo 32 49 50 46) (jo 49 50 46 51) 4 5 6 (e8 n6) R else False)else False)else False))else False)else False)else False)else False)))):=by kernel_rfl
theorem k171_0:ja2 Tryz.prog B26 noL Tryz.f171 [.int .i64 1230,.int .i64 2,.string ⟨#[90,90,57,86,46,57,57]⟩] (.tuple ⟨[.string ⟨#[32,49,50,46,51,48]⟩,.bool true,.int .i64 0]⟩):=by
 rw[ja2,v171_0];delta cq iz n7 ak jh nc ny ox al ao ql e8 n6 jo d7 ky;intro c1 h1;intro c2 t2 h2;refine c_t (jcj (row:=[.int .i64 1]) h2 rfl) ?_;intro c3 t3 h3;refine c_t (jcj (row:=[.int .i64 1,.int .i64 1]) h3 rfl) ?_;intro c4 t4 h4;refine c_t (jcj (row:=[.int .i64 1,.int .i64 1,.int .i64 0]) h4 rfl) ?_;intro c5 t5 h5;refine c_t (jcj (row:=[.int .i64 1,.int .i64 1,.int .i64 0,.int .i64 2]) h5 rfl) ?_;intro c6 t6 h6;refine c_t (jcj (row:=[.int .i64 1,.int .i64 1,.int .i64 0,.int .i64 2,.int .i64 3]) h6 rfl) ?_;intro c7 t7 h7;refine c_t (jcj (row:=[.int .i64 1,.int .i64 1,.int .i64 0,.int .i64 2,.int .i64 3,.int .i64 0]) h7 rfl) ?_;intro c8 t8 h8;intro c9 h9;intro c10 t10 h10;refine c_t (jcj (row:=[.int .u8 32]) h10 rfl) ?_;intro c11 t11 h11;refine c_t (jcj (row:=[.int .u8 32,.int .u8 49]) h11 rfl) ?_;intro c12 t12 h12;refine c_t (jcj (row:=[.int .u8 32,.int .u8 49,.int .u8 50]) h12 rfl) ?_;intro c13 t13 h13;refine c_t (jcj (row:=[.int .u8 32,.int .u8 49,.int .u8 50,.int .u8 46]) h13 rfl) ?_;intro c14 t14 h14;refine c_t (jcj (row:=[.int .u8 32,.int .u8 49,.int .u8 50,.int .u8 46,.int .u8 51]) h14 rfl) ?_;intro c15 t15 h15;rfl
theorem v171_1(R:Value→Prop):ja1 Tryz.prog B26 noL Tryz.f171 [I 234,I 0,S ⟨#[57,57,57]⟩] (fun _=>none) 0 (fun v _ _=>R v)=(nc 0 3 (∀d:Nat,ny (d7 0 0) d 2 (∀f:Nat,ox f 3 (ql 50 [ao 50] [ao 51] 1 2 3 (fx 50 51 52) R)))):=by kernel_rfl
theorem k171_1:ja2 Tryz.prog B26 noL Tryz.f171 [.int .i64 234,.int .i64 0,.string ⟨#[57,57,57]⟩] (.tuple ⟨[.string ⟨#[50,51,52]⟩,.bool true,.int .i64 0]⟩):=by
 rw[ja2,v171_1];delta cq iz n7 ak jh nc ny ox al ao ql fx d7;intro c1 h1;intro c2 t2 h2;refine c_t (jcj (row:=[.int .i64 0]) h2 rfl) ?_;intro c3 t3 h3;refine c_t (jcj (row:=[.int .i64 0,.int .i64 0]) h3 rfl) ?_;intro c4 t4 h4;intro c5 h5;intro c6 t6 h6;refine c_t (jcj (row:=[.int .u8 50]) h6 rfl) ?_;intro c7 t7 h7;refine c_t (jcj (row:=[.int .u8 50,.int .u8 51]) h7 rfl) ?_;intro c8 t8 h8;rfl
theorem pk171:jao Tryz.prog 171 (memo m171):=jed ok_B26 hmix fn171 jai (by kernel_rfl) ⟨k171_0,k171_1,trivial⟩
def B27:Env:=(Env.nil.addG 145 (inlQ Tryz.prog B9 noL Tryz.f145)).addG 147 (inlQ Tryz.prog B15 noL Tryz.f147)
theorem ok_B27:jax Tryz.prog B27:=jam (jam jan (jar ok_B9 hmix fn145 jai)) (jar ok_B15 hmix fn147 jai)
theorem fn72:Fn1 Tryz.prog 72 Tryz.f72:= .m Tryz.func72
def m72:List (E×Value):=[([.string ⟨#[65,65,57]⟩,.string ⟨#[97,49,49]⟩],.bool false)]
theorem v72_0(R:Value→Prop):ja1 Tryz.prog B27 noL Tryz.f72 [S ⟨#[65,65,57]⟩,S ⟨#[97,49,49]⟩] (fun _=>none) 0 (fun v _ _=>R v)=(∀c1:Nat,Nat.ble 3 c1=true→R (B false)):=by kernel_rfl
theorem k72_0:ja2 Tryz.prog B27 noL Tryz.f72 [.string ⟨#[65,65,57]⟩,.string ⟨#[97,49,49]⟩] (.bool false):=by
 rw[ja2,v72_0];intro c1 h1;rfl
theorem pk72:jao Tryz.prog 72 (memo m72):=jed ok_B27 hmix fn72 jai (by kernel_rfl) ⟨k72_0,trivial⟩
def B28:Env:=((Env.nil.add 30 (sp2 s30)).addG 145 (inlQ Tryz.prog B9 noL Tryz.f145)).addG 207 (inlQ Tryz.prog B25 noL Tryz.f207)
theorem ok_B28:jax Tryz.prog B28:=jam (jam (jak jan ok30) (jar ok_B9 hmix fn145 jai)) (jar ok_B25 hmix fn207 jai)
theorem fn176:Fn1 Tryz.prog 176 Tryz.f176:= .m Tryz.func176
def m176:List (E×Value):=[([.string ⟨#[65,65,57]⟩],.tuple ⟨[.string ⟨#[32,32,32]⟩,.int .i64 0]⟩)]
theorem pk176:jao Tryz.prog 176 (memo m176):=jaz [] ok_B28 hmix fn176 jai (by kernel_rfl) (by kernel_rfl)
def A5:Env:=(Env.nil.add 67 (memo m67)).add 66 (sp1 Cx.s66)
theorem ok_A5:jax Tryz.prog A5:=jak (jak jan pk67) (jdg Cx.ok66)
theorem fn20:Fn1 Tryz.prog 20 Tryz.f20:= .m Tryz.func20
def ia(a b c d:Int):Prod E Value:=([co a b c],ak d)
def ls(a:UInt8):Value:= .agg ⟨[ak 5,ak 0,ak 0,.bool false,fx a a 57]⟩
def pj:Value:= .agg ⟨[ak 5,ak 0,ak 0,.bool false,ow]⟩
def m20:List (E×Value):=[ia 1 4 2 0,ia 3 3 0 0,ia 1 3 0 0,ia 2 15 0 0,ia 4 1 0 0,ia 4 3 0 0,ia 3 5 0 0,ia 1 3 1 0,([pj],ak 0),ia 1 4 0 0,([ls 57],ak 0),([ls 65],ak 0),ia 3 256 0 5,ia 4 64 0 0]
theorem pk20:jao Tryz.prog 20 (memo m20):=jaz [0,1,0,0,0,0,1,0,0,0,0,0,1] ok_A5 hmix fn20 jai (by kernel_rfl) (by kernel_rfl)
def A6:Env:=Env.nil
theorem ok_A6:jax Tryz.prog A6:=jan
theorem fn191:Fn1 Tryz.prog 191 Tryz.f191:= .m Tryz.func191
def m191:List (E×Value):=[([],.agg ⟨ak 1::ak 10::ak 100::ak 1000::ak 10000::ak 100000::ak 1000000::ak 10000000::ak 100000000::ak 1000000000::ak 10000000000::ak 100000000000::ak 1000000000000::ak 10000000000000::ak 100000000000000::ky 1000000000000000 10000000000000000 100000000000000000 1000000000000000000⟩)]
theorem pk191:jao Tryz.prog 191 (memo m191):=jaz [] ok_A6 hmix fn191 jai (by kernel_rfl) (by kernel_rfl)
def A7:Env:=Env.nil.add 191 (memo m191)
theorem ok_A7:jax Tryz.prog A7:=jak jan pk191
theorem fn144:Fn1 Tryz.prog 144 Tryz.f144:= .m Tryz.func144
def m144:List (E×Value):=[ia 1 4 2 10000,ia 2 15 0 32768,ia 1 3 1 1000,ia 1 4 0 10000]
theorem pk144:jao Tryz.prog 144 (memo m144):=jaz [] ok_A7 hmix fn144 jai (by kernel_rfl) (by kernel_rfl)
def A8:Env:=(Env.nil.add 66 (sp1 Cx.s66)).add 144 (memo m144)
theorem ok_A8:jax Tryz.prog A8:=jak (jak jan (jdg Cx.ok66)) pk144
theorem fn70:Fn1 Tryz.prog 70 Tryz.f70:= .m Tryz.func70
def g0(a:Int):Value:= .agg ⟨[ak a,d9]⟩
def qm:E:=[.agg ⟨[.int .i64 (-150),d9]⟩,co 1 4 2]
def m70:List (E×Value):=[(qm,ak 0),([g0 1,co 2 15 0],ak 0),([g0 123,co 1 3 1],ak 0),([g0 1234,co 1 4 0],ak 0)]
theorem pk70:jao Tryz.prog 70 (memo m70):=jaz [] ok_A8 hmix fn70 jai (by kernel_rfl) (by kernel_rfl)
def A9:Env:=Env.nil.add 55 (sp2 s55)
theorem ok_A9:jax Tryz.prog A9:=jak jan ok55
theorem fn71:Fn1 Tryz.prog 71 Tryz.f71:= .m Tryz.func71
def m71:List (E×Value):=[([.string ⟨#[49,48,49]⟩],.bool true),([.string ⟨#[50]⟩],.bool false)]
theorem pk71:jao Tryz.prog 71 (memo m71):=jaz [] ok_A9 hmix fn71 jai (by kernel_rfl) (by kernel_rfl)
def A10:Env:=(((Env.nil.add 72 (memo m72)).add 20 (memo m20)).add 70 (memo m70)).add 71 (memo m71)
theorem ok_A10:jax Tryz.prog A10:=jak (jak (jak (jak jan pk72) pk20) pk70) pk71
theorem fn22:Fn1 Tryz.prog 22 Tryz.f22:= .m Tryz.func22
def m22:List (E×Value):=[(qm,ak 0),([dt [49,50,120],co 3 3 0],ak 0),([g0 1,co 2 15 0],ak 0),([dt [49,48,49],co 4 3 0],ak 0),([g0 123,co 1 3 1],ak 0),([g0 1234,co 1 4 0],ak 0),([dt [97,49,49],co 3 3 0],ak 0),([dt [50],co 4 1 0],ak 6)]
theorem pk22:jao Tryz.prog 22 (memo m22):=jaz [] ok_A10 hmix fn22 jai (by kernel_rfl) (by kernel_rfl)
def A11:Env:=(Env.nil.add 154 (sp2 s154)).add 131 (sp2 s131)
theorem ok_A11:jax Tryz.prog A11:=jak (jak jan ok154) ok131
theorem fn77:Fn1 Tryz.prog 77 Tryz.f77:= .m Tryz.func77
def pk:Value:= .agg (jy false 0 [49,50,51,52])
def pm:Value:= .agg (jy false 1 [49,50,51])
def m77:List (E×Value):=[(.bool true::g8 2 [48,48,49,50,53,48],.agg (jy true 1 [49,50,53])),(.bool false::g8 0 [49,50,48,48],.agg (jy false (-2) [49,50])),(.bool false::g8 1 [49,50,51],pm),(.bool false::g8 0 [49,50,51,52],pk)]
theorem pk77:jao Tryz.prog 77 (memo m77):=jaz [] ok_A11 hmix fn77 jai (by kernel_rfl) (by kernel_rfl)
def A12:Env:=Env.nil.add 55 (sp2 s55)
theorem ok_A12:jax Tryz.prog A12:=jak jan ok55
theorem fn84:Fn1 Tryz.prog 84 Tryz.f84:= .m Tryz.func84
def m84:List (E×Value):=[([.agg (jy false 2 [49,50,51,52,53])],.bool true),([pm],.bool true),([pk],.bool true)]
theorem pk84:jao Tryz.prog 84 (memo m84):=jaz [] ok_A12 hmix fn84 jai (by kernel_rfl) (by kernel_rfl)
def A13:Env:=(Env.nil.add 154 (sp2 s154)).add 30 (sp2 s30)
theorem ok_A13:jax Tryz.prog A13:=jak (jak jan ok154) ok30
theorem fn86:Fn1 Tryz.prog 86 Tryz.f86:= .m Tryz.func86
def m86:List (E×Value):=[([.agg (jy false 2 [49,50,51,52,53]),ak 1],e8 [49,50,51,52]),([pm,ak 2],e8 [49,50,51,48]),([pk,ak 0],e8 [49,50,51,52])]
theorem pk86:jao Tryz.prog 86 (memo m86):=jaz [] ok_A13 hmix fn86 jai (by kernel_rfl) (by kernel_rfl)
def A14:Env:=((Env.nil.add 85 (sp1 Cx.s85)).add 84 (memo m84)).add 86 (memo m86)
theorem ok_A14:jax Tryz.prog A14:=jak (jak (jak jan (jdg Cx.ok85)) pk84) pk86
theorem fn26:Fn1 Tryz.prog 26 Tryz.f26:= .m Tryz.func26
def m26:List (E×Value):=[([.agg (jy false 2 [49,50,51,52,53]),co 1 3 1],al (g0 234::d7 1 0)),([pm,co 1 5 2],al (g0 1230::d7 0 0)),([pk,co 1 3 0],al (g0 234::d7 1 0))]
theorem pk26:jao Tryz.prog 26 (memo m26):=jaz [] ok_A14 hmix fn26 jai (by kernel_rfl) (by kernel_rfl)
def A15:Env:=Env.nil.add 59 (memo m59)
theorem ok_A15:jax Tryz.prog A15:=jak jan pk59
theorem fn97:Fn1 Tryz.prog 97 Tryz.f97:= .m Tryz.func97
def lu(a b c d:Int):Value:= .iface 174 (.agg ⟨[ak a,ak b,ak c,ak d,.bool false,d9]⟩)
def m97:List (E×Value):=[(qm,.iface 174 (.agg ⟨[.int .i64 (-150),ak 1,ak 4,ak 2,.bool false,d9]⟩)),([dt [49,50,120],co 3 3 0],.iface 178 (fx 49 50 120)),([g0 1,co 2 15 0],lu 1 2 15 0),([dt [49,48,49],co 4 3 0],.iface 175 (fx 49 48 49)),([g0 123,co 1 3 1],lu 123 1 3 1),([g0 1234,co 1 4 0],lu 1234 1 4 0),([dt [97,49,49],co 3 3 0],.iface 178 (fx 97 49 49))]
theorem pk97:jao Tryz.prog 97 (memo m97):=jaz [] ok_A15 hmix fn97 jai (by kernel_rfl) (by kernel_rfl)
def A16:Env:=Env.nil
theorem ok_A16:jax Tryz.prog A16:=jan
theorem fn112:Fn1 Tryz.prog 112 Tryz.f112:= .m Tryz.func112
def m112:List (E×Value):=[ia 1 4 2 7,ia 1 3 1 6]
theorem pk112:jao Tryz.prog 112 (memo m112):=jaz [] ok_A16 hmix fn112 jai (by kernel_rfl) (by kernel_rfl)
def A17:Env:=((Env.nil.add 30 (sp2 s30)).add 29 (memo m29)).add 112 (memo m112)
theorem ok_A17:jax Tryz.prog A17:=jak (jak (jak jan ok30) pk29) pk112
theorem fn321:Fn1 Tryz.prog 321 Tryz.f321:= .m Tryz.func321
def m321:List (E×Value):=[([.agg ⟨[.int .i64 (-150),.int .i64 1,.int .i64 4,.int .i64 2,.bool false,.string ⟨#[]⟩]⟩],.string ⟨#[32,32,45,49,46,53,48]⟩)]
theorem pk321:jao Tryz.prog 321 (memo m321):=jaz [] ok_A17 hmix fn321 jai (by kernel_rfl) (by kernel_rfl)
def A18:Env:=Env.nil
theorem ok_A18:jax Tryz.prog A18:=jan
theorem fn322:Fn1 Tryz.prog 322 Tryz.f322:= .m Tryz.func322
def m322:List (E×Value):=[([.string ⟨#[49,48,49]⟩],.string ⟨#[49,48,49]⟩)]
theorem pk322:jao Tryz.prog 322 (memo m322):=jaz [] ok_A18 hmix fn322 jai (by kernel_rfl) (by kernel_rfl)
def A19:Env:=Env.nil
theorem ok_A19:jax Tryz.prog A19:=jan
theorem fn324:Fn1 Tryz.prog 324 Tryz.f324:= .m Tryz.func324
def m324:List (E×Value):=[([.string ⟨#[49,50,120]⟩],.string ⟨#[49,50,120]⟩),([.string ⟨#[97,49,49]⟩],.string ⟨#[97,49,49]⟩)]
theorem pk324:jao Tryz.prog 324 (memo m324):=jaz [] ok_A19 hmix fn324 jai (by kernel_rfl) (by kernel_rfl)
def A20:Env:=((((Env.nil.add 22 (memo m22)).add 97 (memo m97)).add 321 (memo m321)).add 322 (memo m322)).add 324 (memo m324)
theorem ok_A20:jax Tryz.prog A20:=jak (jak (jak (jak (jak jan pk22) pk97) pk321) pk322) pk324
theorem fn32:Fn1 Tryz.prog 32 Tryz.f32:= .m Tryz.func32
def m32:List (E×Value):=[(qm,al (g8 0 [32,32,45,49,46,53,48]))]
theorem pk32:jao Tryz.prog 32 (memo m32):=jaz [] ok_A20 hmix fn32 jai (by kernel_rfl) (by kernel_rfl)
def A21:Env:=Env.nil
theorem ok_A21:jax Tryz.prog A21:=jan
theorem fn153:Fn1 Tryz.prog 153 Tryz.f153:= .m Tryz.func153
def A22:Env:=Env.nil
theorem ok_A22:jax Tryz.prog A22:=jan
theorem fn214:Fn1 Tryz.prog 214 Tryz.f214:= .m Tryz.func214
def A23:Env:=Env.nil
theorem ok_A23:jax Tryz.prog A23:=jan
theorem fn215:Fn1 Tryz.prog 215 Tryz.f215:= .m Tryz.func215
def A24:Env:=Env.nil
theorem ok_A24:jax Tryz.prog A24:=jan
theorem fn76:Fn1 Tryz.prog 76 Tryz.f76:= .m Tryz.func76
def A25:Env:=((((Env.nil.add 152 (sp1 Cx.s152)).add 213 (sp1 Cx.s213)).addG 153 (inlQ Tryz.prog A21 noL Tryz.f153)).addG 214 (inlQ Tryz.prog A22 noL Tryz.f214)).addG 215 (inlQ Tryz.prog A23 noL Tryz.f215)
theorem ok_A25:jax Tryz.prog A25:=jam (jam (jam (jak (jak jan (jdg Cx.ok152)) (jdg Cx.ok213)) (jar ok_A21 hmix fn153 jai)) (jar ok_A22 hmix fn214 jai)) (jar ok_A23 hmix fn215 jai)
theorem fn212:Fn1 Tryz.prog 212 Tryz.f212:= .m Tryz.func212
def A26:Env:=(((Env.nil.add 152 (sp1 Cx.s152)).add 213 (sp1 Cx.s213)).addG 214 (inlQ Tryz.prog A22 noL Tryz.f214)).addG 215 (inlQ Tryz.prog A23 noL Tryz.f215)
theorem ok_A26:jax Tryz.prog A26:=jam (jam (jak (jak jan (jdg Cx.ok152)) (jdg Cx.ok213)) (jar ok_A22 hmix fn214 jai)) (jar ok_A23 hmix fn215 jai)
theorem fn263:Fn1 Tryz.prog 263 Tryz.f263:= .m Tryz.func263
def A27:Env:=(Env.nil.add 152 (sp1 Cx.s152)).addG 215 (inlQ Tryz.prog A23 noL Tryz.f215)
theorem ok_A27:jax Tryz.prog A27:=jam (jak jan (jdg Cx.ok152)) (jar ok_A23 hmix fn215 jai)
theorem fn264:Fn1 Tryz.prog 264 Tryz.f264:= .m Tryz.func264
def A28:Env:=((((((((Env.nil.add 152 (sp1 Cx.s152)).add 321 (memo m321)).add 322 (memo m322)).add 324 (memo m324)).addG 153 (inlQ Tryz.prog A21 noL Tryz.f153)).addG 76 (inlQ Tryz.prog A24 noL Tryz.f76)).addG 212 (inlQ Tryz.prog A25 noL Tryz.f212)).addG 263 (inlQ Tryz.prog A26 noL Tryz.f263)).addG 264 (inlQ Tryz.prog A27 noL Tryz.f264)
theorem ok_A28:jax Tryz.prog A28:=jam (jam (jam (jam (jam (jak (jak (jak (jak jan (jdg Cx.ok152)) pk321) pk322) pk324) (jar ok_A21 hmix fn153 jai)) (jar ok_A24 hmix fn76 jai)) (jar ok_A25 hmix fn212 jai)) (jar ok_A26 hmix fn263 jai)) (jar ok_A27 hmix fn264 jai)
theorem fn151:Fn1 Tryz.prog 151 Tryz.f151:= .m Tryz.func151
def A29:Env:=(((((((((Env.nil.add 55 (sp2 s55)).add 77 (memo m77)).add 321 (memo m321)).add 322 (memo m322)).add 324 (memo m324)).addG 76 (inlQ Tryz.prog A24 noL Tryz.f76)).addG 212 (inlQ Tryz.prog A25 noL Tryz.f212)).addG 263 (inlQ Tryz.prog A26 noL Tryz.f263)).addG 264 (inlQ Tryz.prog A27 noL Tryz.f264)).addG 151 (inlQ Tryz.prog A28 noL Tryz.f151)
theorem ok_A29:jax Tryz.prog A29:=jam (jam (jam (jam (jam (jak (jak (jak (jak (jak jan ok55) pk77) pk321) pk322) pk324) (jar ok_A24 hmix fn76 jai)) (jar ok_A25 hmix fn212 jai)) (jar ok_A26 hmix fn263 jai)) (jar ok_A27 hmix fn264 jai)) (jar ok_A28 hmix fn151 jai)
theorem fn24:Fn1 Tryz.prog 24 Tryz.f24:= .m Tryz.func24
def m24:List (E×Value):=[([e8 [32,32,45,48,48,49,50,46,53,48,32]],al (.agg (jy true 1 [49,50,53])::dw)),([e8 [49,50,48,48]],al (.agg (jy false (-2) [49,50])::dw)),([e8 [49,69,49,50,51]],nq),([fx 49 50 120],nq)]
theorem pk24:jao Tryz.prog 24 (memo m24):=jaz [] ok_A29 hmix fn24 jai (by kernel_rfl) (by kernel_rfl)
def A30:Env:=(((((((((Env.nil.add 29 (memo m29)).add 77 (memo m77)).add 321 (memo m321)).add 322 (memo m322)).add 324 (memo m324)).addG 212 (inlQ Tryz.prog A25 noL Tryz.f212)).addG 263 (inlQ Tryz.prog A26 noL Tryz.f263)).addG 264 (inlQ Tryz.prog A27 noL Tryz.f264)).addG 151 (inlQ Tryz.prog A28 noL Tryz.f151)).add 24 (memo m24)
theorem ok_A30:jax Tryz.prog A30:=jak (jam (jam (jam (jam (jak (jak (jak (jak (jak jan pk29) pk77) pk321) pk322) pk324) (jar ok_A25 hmix fn212 jai)) (jar ok_A26 hmix fn263 jai)) (jar ok_A27 hmix fn264 jai)) (jar ok_A28 hmix fn151 jai)) pk24
theorem fn222:Fn1 Tryz.prog 222 Tryz.f222:= .m Tryz.func222
def m222:List (E×Value):=[([.iface 178 (fx 49 50 120)],al (.agg (jy false 0 [])::m8 (fx 49 50 120))),([lu 123 1 3 1],al (pm::jt)),([lu 1234 1 4 0],al (pk::jt))]
theorem pk222:jao Tryz.prog 222 (memo m222):=jaz [] ok_A30 hmix fn222 jai (by kernel_rfl) (by kernel_rfl)
def A31:Env:=(Env.nil.add 26 (memo m26)).add 222 (memo m222)
theorem ok_A31:jax Tryz.prog A31:=jak (jak jan pk26) pk222
theorem fn168:Fn1 Tryz.prog 168 Tryz.f168:= .m Tryz.func168
def m168:List (E×Value):=[([.iface 178 (fx 49 50 120),co 1 3 0],al (dt []::ak 0::m8 (fx 49 50 120))),([lu 123 1 3 1,co 1 5 2],al (g0 1230::ak 0::jt)),([lu 1234 1 4 0,co 1 3 0],al (g0 234::ak 1::jt))]
theorem pk168:jao Tryz.prog 168 (memo m168):=jaz [] ok_A31 hmix fn168 jai (by kernel_rfl) (by kernel_rfl)
def A32:Env:=Env.nil
theorem ok_A32:jax Tryz.prog A32:=jan
theorem fn115:Fn1 Tryz.prog 115 Tryz.f115:= .m Tryz.func115
def m115:List (E×Value):=[ia 2 15 0 15,ia 1 3 0 10]
theorem pk115:jao Tryz.prog 115 (memo m115):=jaz [] ok_A32 hmix fn115 jai (by kernel_rfl) (by kernel_rfl)
def A33:Env:=Env.nil
theorem ok_A33:jax Tryz.prog A33:=jan
theorem fn223:Fn1 Tryz.prog 223 Tryz.f223:= .m Tryz.func223
def m223:List (E×Value):=[([.int .i64 1,.int .i64 15],.string ⟨#[48,48,48,48,48,48,48,48,48,48,48,48,48,48,49]⟩)]
theorem pk223:jao Tryz.prog 223 (memo m223):=jaz [] ok_A33 hmix fn223 jai (by kernel_rfl) (by kernel_rfl)
def A34:Env:=Env.nil.add 30 (sp2 s30)
theorem ok_A34:jax Tryz.prog A34:=jak jan ok30
theorem fn169:Fn1 Tryz.prog 169 Tryz.f169:= .m Tryz.func169
def oy:Yb:=[49,48,49,32,32]
def m169:List (E×Value):=[([e8 [48,48,48,48,48,48,48,48,48,48,48,48,48,48,49],ak 1,e8 [48]],e8 [48]),([fx 49 48 49,ak 5,e8 [32]],e8 oy),([fx 97 49 49,ak 3,e8 [32]],fx 97 49 49)]
theorem pk169:jao Tryz.prog 169 (memo m169):=jaz [] ok_A34 hmix fn169 jai (by kernel_rfl) (by kernel_rfl)
def A35:Env:=(((((((((Env.nil.add 71 (memo m71)).add 321 (memo m321)).add 322 (memo m322)).add 324 (memo m324)).addG 212 (inlQ Tryz.prog A25 noL Tryz.f212)).addG 263 (inlQ Tryz.prog A26 noL Tryz.f263)).addG 264 (inlQ Tryz.prog A27 noL Tryz.f264)).addG 151 (inlQ Tryz.prog A28 noL Tryz.f151)).add 115 (memo m115)).add 223 (memo m223)
theorem ok_A35:jax Tryz.prog A35:=jak (jak (jam (jam (jam (jam (jak (jak (jak (jak jan pk71) pk321) pk322) pk324) (jar ok_A25 hmix fn212 jai)) (jar ok_A26 hmix fn263 jai)) (jar ok_A27 hmix fn264 jai)) (jar ok_A28 hmix fn151 jai)) pk115) pk223
theorem fn170:Fn1 Tryz.prog 170 Tryz.f170:= .m Tryz.func170
def m170:List (E×Value):=[([lu 1 2 15 0],al (e8 [48,48,48,48,48,48,48,48,48,48,48,48,48,48,49]::jt))]
theorem pk170:jao Tryz.prog 170 (memo m170):=jaz [] ok_A35 hmix fn170 jai (by kernel_rfl) (by kernel_rfl)
def A36:Env:=(((((((((((((Env.nil.add 61 (memo m61)).add 59 (memo m59)).add 171 (memo m171)).add 72 (memo m72)).add 321 (memo m321)).add 322 (memo m322)).add 324 (memo m324)).addG 212 (inlQ Tryz.prog A25 noL Tryz.f212)).addG 263 (inlQ Tryz.prog A26 noL Tryz.f263)).addG 264 (inlQ Tryz.prog A27 noL Tryz.f264)).addG 151 (inlQ Tryz.prog A28 noL Tryz.f151)).add 168 (memo m168)).add 169 (memo m169)).add 170 (memo m170)
theorem ok_A36:jax Tryz.prog A36:=jak (jak (jak (jam (jam (jam (jam (jak (jak (jak (jak (jak (jak (jak jan pk61) pk59) pk171) pk72) pk321) pk322) pk324) (jar ok_A25 hmix fn212 jai)) (jar ok_A26 hmix fn263 jai)) (jar ok_A27 hmix fn264 jai)) (jar ok_A28 hmix fn151 jai)) pk168) pk169) pk170
theorem fn99:Fn1 Tryz.prog 99 Tryz.f99:= .m Tryz.func99
def m99:List (E×Value):=[([.iface 178 (fx 49 50 120),co 1 3 0],al (dt []::ak 0::m8 (fx 49 50 120))),([lu 1 2 15 0,co 4 1 0],al (dt [48]::ak 0::jt)),([.iface 175 (fx 49 48 49),co 3 5 0],al (dt oy::ak 0::jt)),([lu 123 1 3 1,pj],al (dt n6::ak 0::jt)),([lu 1234 1 4 0,ls 57],al (dt [50,51,52]::ak 1::jt)),([.iface 178 (fx 97 49 49),ls 65],al (dt []::ak 0::m8 (fx 97 49 49)))]
theorem pk99:jao Tryz.prog 99 (memo m99):=jaz [0,0,0,0,0,2] ok_A36 hmix fn99 jai (by kernel_rfl) (by kernel_rfl)
def A37:Env:=(Env.nil.add 30 (sp2 s30)).add 176 (memo m176)
theorem ok_A37:jax Tryz.prog A37:=jak (jak jan ok30) pk176
theorem fn101:Fn1 Tryz.prog 101 Tryz.f101:= .m Tryz.func101
def m101:List (E×Value):=[([co 1 3 0],dt []),([ls 65],dt [32,32,32])]
theorem pk101:jao Tryz.prog 101 (memo m101):=jaz [] ok_A37 hmix fn101 jai (by kernel_rfl) (by kernel_rfl)
def A38:Env:=(((((Env.nil.addG 100 h100).add 20 (memo m20)).add 22 (memo m22)).add 97 (memo m97)).add 99 (memo m99)).add 101 (memo m101)
theorem ok_A38:jax Tryz.prog A38:=jak (jak (jak (jak (jak (jam jan genC) pk20) pk22) pk97) pk99) pk101
theorem fn34:Fn1 Tryz.prog 34 Tryz.f34:= .m Tryz.func34
def m34:List (E×Value):=[([dt [49,50,120],co 3 3 0,co 1 3 0],al (dt []::d7 4 0)),([g0 1,co 2 15 0,co 4 1 0],al (dt [48]::d7 0 0)),([dt [49,48,49],co 4 3 0,co 3 5 0],al (dt oy::d7 0 0)),([g0 123,co 1 3 1,pj],al (dt n6::d7 0 0)),([g0 1234,co 1 4 0,ls 57],al (dt [50,51,52]::d7 1 0)),([dt [97,49,49],co 3 3 0,ls 65],al (dt [32,32,32]::d7 4 0))]
theorem pk34:jao Tryz.prog 34 (memo m34):=jaz [] ok_A38 hmix fn34 jai (by kernel_rfl) (by kernel_rfl)
def A39:Env:=Env.nil.add 34 (memo m34)
theorem ok_A39:jax Tryz.prog A39:=jak jan pk34
theorem fn48:Fn1 Tryz.prog 48 Tryz.f48:= .m Tryz.func48
def m48:List (E×Value):=[([dt [49,50,120],co 3 3 0,co 1 3 0,dt [],ak 4],.bool true),([g0 1,co 2 15 0,co 4 1 0,dt [48],ak 0],.bool true),([dt [49,48,49],co 4 3 0,co 3 5 0,dt oy,ak 0],.bool true),([g0 123,co 1 3 1,pj,dt n6,ak 0],.bool true),([g0 1234,co 1 4 0,ls 57,dt [50,51,52],ak 1],.bool true),([dt [97,49,49],co 3 3 0,ls 65,dt [32,32,32],ak 4],.bool true)]
theorem pk48:jao Tryz.prog 48 (memo m48):=jaz [] ok_A39 hmix fn48 jai (by kernel_rfl) (by kernel_rfl)
def A40:Env:=Env.nil.add 20 (memo m20)
theorem ok_A40:jax Tryz.prog A40:=jak jan pk20
theorem fn108:Fn1 Tryz.prog 108 Tryz.f108:= .m Tryz.func108
def m108:List (E×Value):=[ia 4 3 0 0,ia 1 3 1 0,ia 1 3 0 0,ia 2 15 0 0]
theorem pk108:jao Tryz.prog 108 (memo m108):=jaz [] ok_A40 hmix fn108 jai (by kernel_rfl) (by kernel_rfl)
def A41:Env:=(((Env.nil.add 61 (memo m61)).add 59 (memo m59)).add 85 (sp1 Cx.s85)).add 108 (memo m108)
theorem ok_A41:jax Tryz.prog A41:=jak (jak (jak (jak jan pk61) pk59) (jdg Cx.ok85)) pk108
theorem fn38:Fn1 Tryz.prog 38 Tryz.f38:= .m Tryz.func38
def m38:List (E×Value):=[([co 4 3 0],al [co 2 31 0,ak 0]),([co 1 3 1],al [co 1 3 1,ak 0]),([co 2 15 0],al [co 2 15 0,ak 0])]
theorem pk38:jao Tryz.prog 38 (memo m38):=jaz [] ok_A41 hmix fn38 jai (by kernel_rfl) (by kernel_rfl)
def A42:Env:=((Env.nil.add 113 (memo m113)).add 112 (memo m112)).add 108 (memo m108)
theorem ok_A42:jax Tryz.prog A42:=jak (jak (jak jan pk113) pk112) pk108
theorem fn40:Fn1 Tryz.prog 40 Tryz.f40:= .m Tryz.func40
def m40:List (E×Value):=[([co 1 3 1],al [co 3 6 0,ak 0])]
theorem pk40:jao Tryz.prog 40 (memo m40):=jaz [] ok_A42 hmix fn40 jai (by kernel_rfl) (by kernel_rfl)
def A43:Env:=(((Env.nil.add 61 (memo m61)).add 85 (sp1 Cx.s85)).add 115 (memo m115)).add 108 (memo m108)
theorem ok_A43:jax Tryz.prog A43:=jak (jak (jak (jak jan pk61) (jdg Cx.ok85)) pk115) pk108
theorem fn42:Fn1 Tryz.prog 42 Tryz.f42:= .m Tryz.func42
def m42:List (E×Value):=[([co 1 3 0],al [co 4 10 0,ak 0])]
theorem pk42:jao Tryz.prog 42 (memo m42):=jaz [] ok_A43 hmix fn42 jai (by kernel_rfl) (by kernel_rfl)
def A44:Env:=Env.nil.add 66 (sp1 Cx.s66)
theorem ok_A44:jax Tryz.prog A44:=jak jan (jdg Cx.ok66)
theorem fn117:Fn1 Tryz.prog 117 Tryz.f117:= .m Tryz.func117
def m117:List (E×Value):=[([co 1 3 1],al [co 2 11 0,ak 0])]
theorem pk117:jao Tryz.prog 117 (memo m117):=jaz [] ok_A44 hmix fn117 jai (by kernel_rfl) (by kernel_rfl)
def A45:Env:=Env.nil
theorem ok_A45:jax Tryz.prog A45:=jan
theorem fn53:Fn1 Tryz.prog 53 Tryz.f53:= .m Tryz.func53
def m53:List (E×Value):=[([.int .i64 (-150)],.agg ⟨[.int .i64 (-150),d9]⟩),([ak 0],dt []),([ak 1],g0 1),([ak 123],g0 123),([ak 1234],g0 1234),([ak 234],g0 234)]
theorem pk53:jao Tryz.prog 53 (memo m53):=jaz [] ok_A45 hmix fn53 jai (by kernel_rfl) (by kernel_rfl)
def A46:Env:=Env.nil
theorem ok_A46:jax Tryz.prog A46:=jan
theorem fn65:Fn1 Tryz.prog 65 Tryz.f65:= .m Tryz.func65
def m65:List (E×Value):=[(d7 3 1,co 1 3 1),(d7 4 2,co 1 4 2),(d7 3 0,co 1 3 0),(d7 4 0,co 1 4 0)]
theorem pk65:jao Tryz.prog 65 (memo m65):=jaz [] ok_A46 hmix fn65 jai (by kernel_rfl) (by kernel_rfl)
def A47:Env:=Env.nil
theorem ok_A47:jax Tryz.prog A47:=jan
theorem fn50:Fn1 Tryz.prog 50 Tryz.f50:= .m Tryz.func50
def lv(a b:Int):Prod E Value:=([ak a],co b a 0)
def m50:List (E×Value):=[lv 15 2,lv 11 2,lv 31 2]
theorem pk50:jao Tryz.prog 50 (memo m50):=jaz [] ok_A47 hmix fn50 jai (by kernel_rfl) (by kernel_rfl)
def A48:Env:=Env.nil
theorem ok_A48:jax Tryz.prog A48:=jan
theorem fn51:Fn1 Tryz.prog 51 Tryz.f51:= .m Tryz.func51
def m51:List (E×Value):=[lv 1 4,lv 3 4,lv 10 4,lv 64 4]
theorem pk51:jao Tryz.prog 51 (memo m51):=jaz [] ok_A48 hmix fn51 jai (by kernel_rfl) (by kernel_rfl)
def A49:Env:=Env.nil
theorem ok_A49:jax Tryz.prog A49:=jan
theorem fn54:Fn1 Tryz.prog 54 Tryz.f54:= .m Tryz.func54
def m54:List (E×Value):=[lv 3 3,lv 5 3,lv 6 3,lv 256 3]
theorem pk54:jao Tryz.prog 54 (memo m54):=jaz [] ok_A49 hmix fn54 jai (by kernel_rfl) (by kernel_rfl)
def A50:Env:=Env.nil
theorem ok_A50:jax Tryz.prog A50:=jan
theorem fn60:Fn1 Tryz.prog 60 Tryz.f60:= .m Tryz.func60
def m60:List (E×Value):=[([ow],pj),([fx 57 57 57],ls 57),([fx 65 65 57],ls 65)]
theorem pk60:jao Tryz.prog 60 (memo m60):=jaz [] ok_A50 hmix fn60 jai (by kernel_rfl) (by kernel_rfl)
def A51:Env:=Env.nil
theorem ok_A51:jax Tryz.prog A51:=jan
theorem fn52:Fn1 Tryz.prog 52 Tryz.f52:= .m Tryz.func52
def m52:List (E×Value):=[([fx 49 50 120],dt [49,50,120]),([e8 [48]],dt [48]),([fx 49 48 49],dt [49,48,49]),([e8 oy],dt oy),([e8 n6],dt n6),([fx 50 51 52],dt [50,51,52]),([fx 97 49 49],dt [97,49,49]),([fx 32 32 32],dt [32,32,32]),([e8 [50]],dt [50])]
theorem pk52:jao Tryz.prog 52 (memo m52):=jaz [] ok_A51 hmix fn52 jai (by kernel_rfl) (by kernel_rfl)
def A52:Env:=(((((((((((((Env.nil.add 59 (memo m59)).add 85 (sp1 Cx.s85)).add 20 (memo m20)).add 321 (memo m321)).add 322 (memo m322)).add 324 (memo m324)).addG 212 (inlQ Tryz.prog A25 noL Tryz.f212)).addG 263 (inlQ Tryz.prog A26 noL Tryz.f263)).addG 264 (inlQ Tryz.prog A27 noL Tryz.f264)).addG 151 (inlQ Tryz.prog A28 noL Tryz.f151)).add 38 (memo m38)).add 40 (memo m40)).add 42 (memo m42)).add 117 (memo m117)
theorem ok_A52:jax Tryz.prog A52:=jak (jak (jak (jak (jam (jam (jam (jam (jak (jak (jak (jak (jak (jak jan pk59) (jdg Cx.ok85)) pk20) pk321) pk322) pk324) (jar ok_A25 hmix fn212 jai)) (jar ok_A26 hmix fn263 jai)) (jar ok_A27 hmix fn264 jai)) (jar ok_A28 hmix fn151 jai)) pk38) pk40) pk42) pk117
theorem fn44:Fn1 Tryz.prog 44 Tryz.f44:= .m Tryz.func44
def A53:Env:=Env.nil
theorem ok_A53:jax Tryz.prog A53:=jan
theorem fn46:Fn1 Tryz.prog 46 Tryz.f46:= .m Tryz.func46
def L46:E:=[.int .i64 2,.int .i64 11,.int .i64 0,.bool false,.string ⟨#[]⟩,.int .i64 2,.int .i64 15,.int .i64 0,.bool false,.string ⟨#[]⟩]
def s46c:Ab.Spec:=fun args bs=>match args,bs with
 | [.slice (some ⟨_,0,some 1⟩) 2 _,.slice (some ⟨_,0,some 1⟩) 2 _],[some ⟨l1,_,_⟩,some ⟨l2,_,_⟩]=>match eqVL (l1.take 10) L46&&eqVL (l2.take 10) L46 with
  | true=>some (ja5 l1&&ja5 l2,.bool true)
  | false=>none
 | _,_=>none
def vwT(c d:E)(t u:TypeId):Lk:=fun k=>match k with | 0=>some ⟨c,t,false⟩ | 1=>some ⟨d,u,false⟩ | _=>none
theorem v46(r1 r2:E)(t u:TypeId)(c1 c2:Nat)(R:Value→Prop):ja1 Tryz.prog A53 noL Tryz.f46 [.slice (some ⟨0,0,some 1⟩) 2 c1,.slice (some ⟨1,0,some 1⟩) 2 c2] (vwT (L46++r1) (L46++r2) t u) 2 (fun v _ _=>R v)=R (B true):=by kernel_rfl
theorem pk46:jao Tryz.prog 46 s46c:=by
 refine pure_viewQ ok_A53 hmix fn46 jai fun args bs v hs=> ?_
 unfold s46c at hs;split at hs
 case h_2=>cases hs
 rename_i k1 c1 k2 c2 l1 t1 o1 l2 t2 o2;split at hs
 case h_2=>cases hs
 rename_i hq;simp only[Option.some.injEq,Prod.mk.injEq,jaf]at hs hq;obtain⟨⟨p1,p2⟩,rfl⟩:=hs;obtain⟨q1,q2⟩:=hq;have e1:l1=L46++l1.drop 10:=by rw[←jfd q1,List.take_append_drop]
 have e2:l2=L46++l2.drop 10:=by rw[←jfd q2,List.take_append_drop]
 refine⟨[.slice (some ⟨0,0,some 1⟩) 2 c1,.slice (some ⟨1,0,some 1⟩) 2 c2],2,rfl,rfl,jag,?_⟩
 have e:jke [some ⟨l1,t1,o1⟩,some ⟨l2,t2,o2⟩]=vwT (L46++l1.drop 10) (L46++l2.drop 10) t1 t2:=by
  funext k;rw[←e1,←e2]
  match k with
  | 0=>simp only[jke,jmv,p1,vwT]
  | 1=>simp only[jke,jmv,p2,vwT]
  | k+2=>rfl
 rw[jmt,e,v46]
def A54:Env:=(((((((((((((((((Env.nil.add 20 (memo m20)).add 22 (memo m22)).add 26 (memo m26)).add 32 (memo m32)).add 24 (memo m24)).add 48 (memo m48)).add 38 (memo m38)).add 40 (memo m40)).add 42 (memo m42)).add 53 (memo m53)).add 65 (memo m65)).add 50 (memo m50)).add 51 (memo m51)).add 54 (memo m54)).add 60 (memo m60)).add 52 (memo m52)).addG 44 (inlQ Tryz.prog A52 noL Tryz.f44)).add 46 (s46c)
theorem ok_A54:jax Tryz.prog A54:=jak (jam (jak (jak (jak (jak (jak (jak (jak (jak (jak (jak (jak (jak (jak (jak (jak (jak jan pk20) pk22) pk26) pk32) pk24) pk48) pk38) pk40) pk42) pk53) pk65) pk50) pk51) pk54) pk60) pk52) (jar ok_A52 hmix fn44 jai)) pk46
end Go.Cs
end
noncomputable section
set_option maxRecDepth 100000
namespace Go.Cs
open Go Go.Ab Go.Proofs Go.Px Go.Cx
def T31:E:=[.int .i64 1,.int .i64 3,.int .i64 1,.bool false,.string ⟨#[]⟩]
theorem fn18:Fn1 Tryz.prog 18 Tryz.f18:= .m Tryz.func18
theorem v18(R:Value→Prop):ja1 Tryz.prog A54 noL Tryz.f18 [] (fun _=>none) 0 (fun v _ _=>R v)=(∀a:Nat,n7 T31 a 5 (∀c:Nat,∀d:E,jay d c (1+1) 5=true→cu (ja5 (L46++d) &&ja5 L46) (B true) R)):=by kernel_rfl
def s18:Bool×Value:=(true,.bool true)
theorem okC18:jao Tryz.prog 18 (sp0 s18):=by
 refine qure0 ok_A54 hmix fn18 jai fun _=> ?_
 rw[ja2,v18];delta cq iz n7 cu;intro cap tail h;simp only[jay,jaf]at h;obtain⟨⟨⟨_,h2⟩,h3⟩,h4⟩:=h;have e:(T31++tail).length=tail.length+1*5:=by rw[List.length_append];show 5+_=_;omega
 refine c_t (by rw[e,h2,h3,h4];rfl) fun cap2 tail2 h=> ?_
 simp only[jay,jaf]at h;obtain⟨⟨⟨h1,_⟩,_⟩,_⟩:=h;refine c_t ?_ rfl;have:ja5 (L46++tail2)=true:=by rw[jbc]at h1 ⊢;intro v hv;rcases List.mem_append.1 hv with hv | hv;exact jbc.1 (show ja5 L46=true from rfl) v hv;exact h1 v hv
 rw[this];rfl
theorem ok18: @jao tabs Tryz.prog 18 (sp0 s18):=pureT okC18
end Go.Cs
end
noncomputable section
set_option maxHeartbeats 3200000
namespace Go.Cx
open Go Go.Ab Go.Proofs Go.Shelf Go.Px Go.Cv
open Go.Fx (Ty Vl check jbd most base pw bnd Fit fits tv vv tup V0 T0 jbe jbh ja6 jbt str0)
instance tabsT:Tabs:=tabs
def sz63(t:Ty):Prop:=t.s.size≤9223372036854775807
instance (t:Ty):Decidable (sz63 t):=by unfold sz63;infer_instance
def M0:Env:=(Env.nil.add 66 (sp1 s66)).add 67 (sp1 Px.s33)
theorem ok_M0:jax Tryz.prog M0:=jak (jak jan ok66) Px.ok33
def s20f(t:Ty):Bool×Value:=(decide (sz63 t),I (chk4 t))
def qn(a d:Bool)(e:Y)(b:Fx.Ty)(c:Int):Bool:= !a || !(Fx.Ty.k b==Fx.Ty.k b&& (Fx.Ty.p b==c&& (Fx.Ty.q b==0&& (Fx.Ty.v b==d&& (d4 (Fx.Ty.s b) e&&true)))))
def qo(c:Bool)(a:Fx.Ty)(b:Int)(d:Value→Prop):Prop:=bif jc (Fx.Ty.p a) 0 then az (!fq (Fx.Ty.p a) 0 b) true (qn (fq (Fx.Ty.p a) 0 b) c a8 a (Fx.Ty.p a)) (d (ak 5)) (d (ak 0))else False
theorem v20f(t:Ty)(R:Value→Prop):ja1 Tryz.prog M0 noL Tryz.f20 [Enc.enc t] (fun _=>none) 0 (fun v _ _=>R v)=(bif cv t 1 then R (I (Fx.check t))else bif cv t 2 then R (I (Fx.check t))else bif cv t 3 then qo (Fx.Ty.v t) t 255 R∧qo (Fx.Ty.v t) t 255 R else bif cv t 4 then qo false t 64 R else bif cv t 5 then bif fw (Fx.Ty.s t)then az (!pE (bz (Fx.Ty.s t))==0) true (qn (pE (bz (Fx.Ty.s t))==0) false (Fx.Ty.s t) t 0) (R (ak 5)) (R (ak 0))else False else bif cv t 6 then f0 (qn true false a8 t 0) (ak 5) (ak 0) R else R (ak 5)):=by kernel_rfl
theorem ok20f:jao Tryz.prog 20 (sp1 s20f):=by
 refine jb8 ok_M0 hmix fn20 jai jag fun t hc=> ?_
 rw[ja2,v20f];delta ak f0 d4 qn a8 cv ar az fw fq jc qo;have hc:(sz63 t):=jab hc
 try dsimp only[s20f]
 have hs:t.s.size≤9223372036854775807:=hc;have nvk:∀k:Int,t.k=k→k≠1→k≠2→ ¬jbd t:=fun k hk h1 h2 hv=>by have:=hv.1;omega
 have ck:t.k=1∨t.k=2→check t=chk4 t:=fun hk=>by
  unfold Fx.check chk4;by_cases hv:jbd t
  ·rw[if_pos hv,if_pos hv]
  ·rw[if_neg hv,if_neg hv,if_neg (by omega),if_neg (by omega),if_neg (by omega),if_neg (by omega)]
 refine cond_intro (fun hk=> ?_) (fun h1=> ?_)
 ·rw[ck (.inl (by simpa using hk))]
 refine cond_intro (fun hk=> ?_) (fun h2=> ?_)
 ·rw[ck (.inr (by simpa using hk))]
 have h1:t.k≠1:=by simpa using h1
 have h2:t.k≠2:=by simpa using h2
 have nv:¬jbd t:=nvk _ rfl h1 h2;apply cond_intro<;>intro h3
 ·have h3:t.k=3:=by simpa using h3
  have key:∀X:Prop,(bif !(decide (t.p≥0) &&decide (t.p≤255)) || !(t.k==t.k&& (t.p==t.p&& (t.q==0&& (t.v==t.v&& (t.s.toList==(ByteArray.mk #[]).toList&&true)))))then Value.int IntKind.i64 5=I (chk4 t)else Value.int IntKind.i64 0=I (chk4 t)):=fun _=>by
   rw[jcv];unfold chk4;rw[if_neg nv];apply cond_intro<;>intro h
   ·rw[if_neg,if_neg (by omega),if_neg (by omega),if_neg (by omega)];rintro ⟨-,q1,q2,q3,q4⟩;simp[q1,q2,q3,q4]at h
   ·rw[if_pos];simp at h;exact⟨h3,h.2.1,h.2.2,h.1.1,h.1.2⟩
  exact⟨c_t (Bool.or_true _) (c_t (Bool.or_true _) (key True)),c_t (Bool.or_true _) (c_t (Bool.or_true _) (key True))⟩
 have h3:t.k≠3:=by simpa using h3
 apply cond_intro<;>intro h4
 ·have h4:t.k=4:=by simpa using h4
  refine c_t (Bool.or_true _) (c_t (Bool.or_true _) ?_);rw[jcv];unfold chk4;rw[if_neg nv,if_neg (by omega)];apply cond_intro<;>intro h
  ·rw[if_neg,if_neg (by omega),if_neg (by omega)];rintro ⟨-,q1,q2,q3,q4,q5⟩;simp[q1,q2,q3,q4,q5]at h
  ·rw[if_pos];simp at h;exact⟨h4,h.2.1,h.2.2.2,h.2.2.1,h.1.1,h.1.2⟩
 have h4:t.k≠4:=by simpa using h4
 apply cond_intro<;>intro h5
 ·have h5:t.k=5:=by simpa using h5
  refine c_t (jaa hs) (c_t (Bool.or_true _) ?_);unfold chk4;rw[if_neg nv,if_neg (by omega),if_neg (by omega)];apply cond_intro<;>intro h
  ·rw[if_neg,if_neg (by omega)];rintro ⟨-,q1,q2,q3,q4⟩;simp[q1,q2,q3,q4]at h
  ·rw[if_pos];simp at h;exact⟨h5,h.2.1,h.2.2.1,h.2.2.2,h.1⟩
 have h5:t.k≠5:=by simpa using h5
 apply cond_intro<;>intro h6
 ·have h6:t.k=6:=by simpa using h6
  rw[jcv];unfold chk4;rw[if_neg nv,if_neg (by omega),if_neg (by omega),if_neg (by omega)];apply cond_intro<;>intro h
  ·rw[if_neg];rintro ⟨-,q1,q2,q3,q4⟩;simp[q1,q2,q3,q4]at h
  ·rw[if_pos];simp at h;exact⟨h6,h.2.1,h.2.2.2,h.1,h.2.2.1⟩
 have h6:t.k≠6:=by simpa using h6
 unfold chk4;rw[if_neg nv,if_neg (by omega),if_neg (by omega),if_neg (by omega),if_neg (by omega)]
instance tabsT1:Tabs:=tabs
def Q0:Env:=(((Env.nil.add 20 (sp1 s20f)).add 70 (sp2 s70)).add 71 (sp1 s71)).add 72 (sp2 Px.s24)
theorem ok_Q0:jax Tryz.prog Q0:=jak (jak (jak (jak jan ok20f) ok70) ok71) Px.ok24
def s22f(v:Vl)(t:Ty):Bool×Value:=(decide (t.s.size≤9223372036854775807∧v.s.size≤9223372036854775807),I (fit4 v t))
theorem v22f(v:Vl)(t:Ty)(R:Value→Prop):ja1 Tryz.prog Q0 noL Tryz.f22 [Enc.enc v,Enc.enc t] (fun _=>none) 0 (fun v _ _=>R v)=(bif decide (sz63 t)then bif chk4 t !=0 then R (I (chk4 t))else bif cv t 1 then R (I (Fx.fits v t))else bif cv t 2 then R (I (Fx.fits v t))else qi (fw (Fx.Vl.s v)) t v (f0 (!Fx.Vl.n v==0) (ak 6) (ak 0) R) R else False):=by kernel_rfl
theorem ok22f:jao Tryz.prog 22 (sp2 s22f):=by
 refine jct ok_Q0 hmix fn22 jai jag fun v t hc=> ?_
 rw[ja2,v22f];delta ak rp o3 fq jc d4 a8 cv iy kz ep bk a7 qi f0 fw;have hc:(t.s.size≤9223372036854775807∧v.s.size≤9223372036854775807):=jab hc
 try dsimp only[s22f]
 rw[jcv];unfold fit4 is4;refine c_t (jaa hc.1) ?_
 have hk:chk4 t=0→(t.k=1∨t.k=2∨t.k=3∨t.k=4∨t.k=5∨t.k=6)∧((t.k=1∨t.k=2)→jbd t):=fun h=>by
  unfold chk4 at h;have hv:jbd t→t.k=1∨t.k=2:=fun h=>h.1
  grind
 apply cond_intro<;>intro h
 ·rw[if_pos (by simpa using h)]
 have h0:chk4 t=0:=by simpa using h
 rw[if_neg (fun z=>z h0)];obtain⟨hk,hval⟩:=hk h0;have hf:jbd t→Fx.fits v t=if Fit v t then 0 else 6:=fun h=>if_pos h
 simp only[Bool.or_true,Bool.and_true,Bool.cond_self,jaa hc,jaa hc.2]
 repeat' apply cond_intro<;>intro h
 all_goals first | (exfalso;simp at h;done) | (congr 1;grind) | (exfalso;grind)
instance tabsT2:Tabs:=tabs
theorem ex_ck3(t:Ty):∃x:Int,x=chk4 t:=⟨_,rfl⟩
def ckT(t:Ty):Int:=Classical.choose (ex_ck3 t)
theorem ckT_eq(t:Ty):ckT t=chk4 t:=Classical.choose_spec (ex_ck3 t)
theorem ex_ft3(v:Vl)(t:Ty):∃x:Int,x=fit4 v t:=⟨_,rfl⟩
def ftT(v:Vl)(t:Ty):Int:=Classical.choose (ex_ft3 v t)
theorem jj8(v:Vl)(t:Ty):ftT v t=fit4 v t:=Classical.choose_spec (ex_ft3 v t)
def z20(t:Ty):Bool×Value:=(decide (t.s.size≤9223372036854775807),I (ckT t))
def z22(v:Vl)(t:Ty):Bool×Value:=(decide (t.s.size≤9223372036854775807∧v.s.size≤9223372036854775807),I (ftT v t))
def z19(t:Ty):Bool×Value:=(true,B (decide ((t.s.size:Int)≤200)))
theorem fn19s:Fn1 Tryz.prog 19 Tryz.f19:= .m Tryz.func19
theorem v19s(t:Ty)(R:Value→Prop):ja1 Tryz.prog Env.nil noL Tryz.f19 [Enc.enc t] (fun _=>none) 0 (fun v _ _=>R v)=R (B (decide ((t.s.size:Int)≤200))):=by kernel_rfl
theorem ok19s:jao Tryz.prog 19 (sp1 z19):=by
 refine jb8 jan hmix fn19s jai jag fun t hc=> ?_
 rw[ja2,v19s];rfl
theorem z20_eq:z20=s20f:=by funext t;simp only[z20,s20f,ckT_eq];rfl
theorem z22_eq:z22=s22f:=by funext v t;simp only[z22,s22f,jj8]
theorem z22_eq2:z22=s23:=by funext v t;simp only[z22,s23,jj8]
def s3(t:Ty)(v:Vl):Bool×Value:=(decide (t.s.size≤9223372036854775807∧v.s.size≤9223372036854775807),B true)
def isR(s:Y)(c:Int)(l:J):Prop:=bz s=List.replicate (s.size-l.length) c++l∧l.length≤s.size
instance (s:ByteArray)(c:Int)(l:List Int):Decidable (isR s c l):=by unfold isR;infer_instance
theorem fixU_len{m q:Int}(hm:0≤m∧m≤2147483648)(hq:0≤q∧q≤9):q<(fixU m q).length∧(fixU m q).length≤20∧IsB (fixU m q):=by
 have h:=jd9 hm;refine⟨?_,?_,rep48_isB _ |>.append (ji5 _)⟩
 ·unfold fixU Cv.rep48;rw[List.length_append,List.length_replicate];omega
 ·unfold fixU Cv.rep48;rw[List.length_append,List.length_replicate];omega
theorem fixS_len{n q:Int}(hn: -2147483648≤n∧n≤2147483648)(hq:0≤q∧q≤9):(fixS n q).length≤30∧IsB (fixS n q):=by
 have key:∀m:Int,0≤m∧m≤2147483648→(fixD m q).length≤25∧IsB (fixD m q):=fun m hm=>by
  obtain⟨l1,l2,l3⟩:=fixU_len hm hq;unfold fixD;split
  ·refine⟨?_,(l3.take _).append (.cons (by omega) (l3.drop _))⟩;simp only[List.length_append,List.length_take,List.length_cons,List.length_drop];omega
  ·exact⟨by have:=jd9 hm;omega,ji5 _⟩
 unfold fixS;split
 ·obtain⟨a,b⟩:=key (-n) (by omega);exact⟨by rw[List.length_cons];omega,.cons (by omega) b⟩
 ·obtain⟨a,b⟩:=key n (by omega);exact⟨by omega,b⟩
def txS(v:Vl)(t:Ty):Y:=if jbd t then szO (txtZ v.n t)else v.s
theorem fit_n32{v:Vl}{t:Ty}(h:fit4 v t=0)(hv:jbd t): -2147483648≤v.n∧v.n≤2147483648:=by
 unfold fit4 at h;have hc:chk4 t=0:=if_pos hv;rw[if_neg (fun q=>q hc)]at h;split at h
 ·rename_i i;unfold is4 at i;rw[if_pos hv.1]at i;have i:Fx.fits v t=0:=by simpa using i
  unfold Fx.fits at i;rw[if_pos hv]at i;split at i
  ·rename_i f;have:=Fx.bnd_range hv;have:=f.2;omega
  ·cases i
 ·cases h
def txE(v:Vl)(t:Ty):Int:=if fit4 v t≠0 then fit4 v t else if t.k=6 then 5 else 0
def txV(v:Vl)(t:Ty):Value:= .tuple ⟨[S (if txE v t≠0 then⟨#[]⟩else txS v t),I (txE v t)]⟩
structure Sh where
 s:Y
 p:Y
instance:Enc Sh where
 enc x:= .agg ⟨[.string x.s,.string x.p]⟩
 dec | .agg ⟨[.string s,.string p]⟩=>some ⟨s,p⟩ | _=>none
 dec_some:=by
  intro v a h;split at h
  ·cases h;rfl
  ·cases h
 plain_enc _:=rfl
instance tabsT5:Tabs:=tabs
def P3:Env:=Env.nil
theorem ok_P3:jax Tryz.prog P3:=jan
def s323(x:Sh):Bool×Value:=(true,S x.s)
theorem fn323:Fn1 Tryz.prog 323 Tryz.f323:= .m Tryz.func323
theorem v323(x:Sh)(R:Value→Prop):ja1 Tryz.prog P3 noL Tryz.f323 [Enc.enc x] (fun _=>none) 0 (fun v _ _=>R v)=(R (S (Sh.s x))):=by kernel_rfl
theorem ok323:jao Tryz.prog 323 (sp1 s323):=by
 refine jb8 ok_P3 hmix fn323 jai jag fun x hc=> ?_
 rw[ja2,v323]
 try dsimp only[s323]
def P4:Env:=P3.add 59 (sp1 Px.s31)
theorem fn97':Fn1 Tryz.prog 97 Tryz.f97:= .m Tryz.func97
def P5:Env:=(((((P3.add 22 (sp2 z22)).addG 97 (inlQ Tryz.prog P4 noL Tryz.f97)).add 321 (sp1 s321)).add 322 (sp1 s322)).add 323 (sp1 s323)).add 324 (sp1 s324)
theorem ok_P4:jax Tryz.prog P4:=jak ok_P3 Px.ok31
theorem ok_P5:jax Tryz.prog P5:=jak (jak (jak (jak (jam (jak ok_P3 (z22_eq▸ok22f)) (jar ok_P4 hmix fn97' jai)) ok321) ok322) ok323) ok324
def s32f(v:Vl)(t:Ty):Bool×Value:=(decide (t.s.size≤9223372036854775807∧v.s.size≤9223372036854775807),txV v t)
theorem fn32:Fn1 Tryz.prog 32 Tryz.f32:= .m Tryz.func32
def qp(a:Fx.Ty)(c d e:Value)(b:Value→Prop):Prop:=bif cv a 4 then b c else bif cv a 5 then kw (pN (bz (Fx.Ty.s a))) (Fx.Ty.s a) (b d) (b e)else b e
theorem v32f(v:Vl)(t:Ty)(R:Value→Prop):ja1 Tryz.prog P5 noL Tryz.f32 [Enc.enc v,Enc.enc t] (fun _=>none) 0 (fun v _ _=>R v)=(bif kz t v 9223372036854775807 9223372036854775807 then bif ftT v t !=0 then R (al (g8 (ftT v t) []))else bif cv t 6 then R (.tuple ⟨g8 5 []⟩)else bif cv t 1 then jl (m9 t (Fx.Vl.n v)) (S (szO (txtZ (Fx.Vl.n v) t))) (ak 0) R else bif cv t 2 then jl (m9 t (Fx.Vl.n v)) (S (szO (txtZ (Fx.Vl.n v) t))) (ak 0) R else qp t (al (ax (Fx.Vl.s v) [] (ak 0))) (al (ax (Fx.Vl.s v) [] (ak 0))) (al (ax (Fx.Vl.s v) [] (ak 0))) R else False):=by kernel_rfl
theorem ok32f:jao Tryz.prog 32 (sp2 s32f):=by
 refine jct ok_P5 hmix fn32 jai jag fun v t hc=> ?_
 rw[ja2,v32f];delta ar fw kw cv qp al ax ak jl m9 e8 g8 iy kz;have hc:(t.s.size≤9223372036854775807∧v.s.size≤9223372036854775807):=jab hc
 try dsimp only[s32f]
 have hn:fit4 v t=0→jbd t→ -2147483648≤v.n∧v.n≤2147483648:=fun h hv=>fit_n32 h hv
 refine c_t (jaa hc) ?_;simp only[jj8];unfold txV txE;apply cond_intro<;>intro h
 ·have h:fit4 v t≠0:=by simpa using h
  simp only[if_pos h]
 have h:fit4 v t=0:=by simpa using h
 have h':¬fit4 v t≠0:=fun q=>q h
 have hv:(t.k=1∨t.k=2)→jbd t:=fun hk=>by
  have hc4:chk4 t=0:=by
   unfold fit4 at h;split at h
   ·exact h
   ·rename_i q;exact Decidable.not_not.1 q
  unfold chk4 at hc4;split at hc4
  ·assumption
  ·rw[if_neg (by omega),if_neg (by omega),if_neg (by omega),if_neg (by omega)]at hc4;cases hc4
 simp only[if_neg h'];apply cond_intro<;>intro h6
 ·have h6:t.k=6:=by simpa using h6
  simp only[if_pos h6];rfl
 have h6:¬t.k=6:=by simpa using h6
 simp only[if_neg h6,txS];refine cond_intro (fun k1=> ?_) (fun k1=>cond_intro (fun k2=> ?_) (fun k2=> ?_))
 ·have V:=hv (.inl (by simpa using k1));refine c_t (jaa ⟨V,hn h V⟩) ?_;rw[if_pos V];rfl
 ·have V:=hv (.inr (by simpa using k2));refine c_t (jaa ⟨V,hn h V⟩) ?_;rw[if_pos V];rfl
 have nV:¬jbd t:=fun V=>by
  have:=V.1;simp only[beq_eq_false_iff_ne]at k1 k2;omega
 rw[if_neg nV];refine cond_intro (fun _=>rfl) (fun _=>cond_intro (fun _=>c_t (jaa hc.1) (cond_intro (fun _=>rfl) (fun _=>rfl))) (fun _=>rfl))
instance tabsU6:Tabs:=tabs
def jbs(v:Vl)(t:Ty):Fu:=if t.k=1∨t.k=2 then .w v.n t else if t.k=4 then .b v.s else if t.k=5∧pN (bz t.s)=true then .p v.s t.s else .c v.s
open Classical in
theorem cuK_ex:∃d:Bool→Fu→Ty→Bool,∀b f t,d b f t=true↔cuA f t∧(cuV f t).2.2.2.isNone=b:=⟨fun b f t=>decide (cuA f t∧(cuV f t).2.2.2.isNone=b),fun b f t=>by simp⟩
def cuK:Bool→Fu→Ty→Bool:=Classical.choose cuK_ex
theorem jid{b:Bool}{f:Fu}{t:Ty}:cuK b f t=true↔cuA f t∧(cuV f t).2.2.2.isNone=b:=Classical.choose_spec cuK_ex b f t
theorem cuO_ex:∃d:Fu→Ty→Int×Y×Int×Y,∀f t,d f t=((cuV f t).1,(cuV f t).2.1,(cuV f t).2.2.1,(cuV f t).2.2.2.getD ⟨#[]⟩):=⟨_,fun _ _=>rfl⟩
def cuO:Fu→Ty→Int×Y×Int×Y:=Classical.choose cuO_ex
theorem jml(f:Fu)(t:Ty):cuO f t=((cuV f t).1,(cuV f t).2.1,(cuV f t).2.2.1,(cuV f t).2.2.2.getD ⟨#[]⟩):=Classical.choose_spec cuO_ex f t
def s97w(v:Vl)(t:Ty):Bool×Value:=(decide (t.k=1∨t.k=2),.iface 174 (.agg ⟨[.int .i64 v.n,.int .i64 t.k,.int .i64 t.p,.int .i64 t.q,.bool t.v,.string t.s]⟩))
def s97b(v:Vl)(t:Ty):Bool×Value:=(decide (t.k=4),.iface 175 (.string v.s))
def s97p(v:Vl)(t:Ty):Bool×Value:=(decide (t.k=5∧pN (bz t.s)=true∧t.s.size≤9223372036854775807),.iface 177 (.agg ⟨[.string v.s,.string t.s]⟩))
def s97c(v:Vl)(t:Ty):Bool×Value:=(decide (¬(t.k=1∨t.k=2)∧t.k≠4∧(t.k=5→ ¬pN (bz t.s)=true)∧t.s.size≤9223372036854775807),.iface 178 (.string v.s))
def s99y:Ab.Spec:=fun args _=>match args with
 | [a,.agg ⟨[.int .i64 k,.int .i64 p,.int .i64 q,.bool w,.string u]⟩]=>match decU a with
  | some f=>some (cuK true f ⟨k,p,q,w,u⟩,tp3 (cuO f ⟨k,p,q,w,u⟩).1 (cuO f ⟨k,p,q,w,u⟩).2.1 (cuO f ⟨k,p,q,w,u⟩).2.2.1 .nilIface)
  | none=>none
 | _=>none
def s99n:Ab.Spec:=fun args _=>match args with
 | [a,.agg ⟨[.int .i64 k,.int .i64 p,.int .i64 q,.bool w,.string u]⟩]=>match decU a with
  | some f=>some (cuK false f ⟨k,p,q,w,u⟩,tp3 (cuO f ⟨k,p,q,w,u⟩).1 (cuO f ⟨k,p,q,w,u⟩).2.1 (cuO f ⟨k,p,q,w,u⟩).2.2.1 (er (cuO f ⟨k,p,q,w,u⟩).2.2.2))
  | none=>none
 | _=>none
def zrV(t:Ty):Y:=if t.k=4 then szO (List.replicate t.p.toNat 48)else if t.k=5 then sz (zeS (bz t.s))else⟨#[]⟩
theorem zrO_ex:∃d:Ty→Y,d=zrV:=⟨_,rfl⟩
def zrO:Ty→Y:=Classical.choose zrO_ex
theorem zrO_eq:zrO=zrV:=Classical.choose_spec zrO_ex
def s101u(t:Ty):Bool×Value:=(decide (t.s.size≤9223372036854775807∧(t.k=4→0≤t.p∧t.p≤1000)),.agg ⟨[I 0,S (zrO t)]⟩)
def Uz:Env:=K9p.add 176 (sp1 Px.s54)
def Uv:Env:=(((Env.nil.add 22 (sp2 z22)).add 20 (sp1 z20)).add 101 (sp1 s101u)).addG 100 h100
def Uy(s97:Vl→Ty→Bool×Value):Env:=(Uv.add 97 (sp2 s97)).add 99 s99y
def Un(s97:Vl→Ty→Bool×Value):Env:=(Uv.add 97 (sp2 s97)).add 99 s99n
def v97:Env:=Env.nil.add 59 (sp1 Px.s31)
theorem u97(v:Vl)(t:Ty)(R:Value→Prop):ja1 Tryz.prog v97 noL Tryz.f97 [Enc.enc v,Enc.enc t] (fun _=>none) 0 (fun v _ _=>R v)=(bif cv t 1 then R (s97w v t).snd else bif cv t 2 then R (s97w v t).snd else qp t (s97b v t).snd (s97p v t).snd (s97c v t).snd R):=by kernel_rfl
theorem u101(t:Ty)(R:Value→Prop):ja1 Tryz.prog Uz noL Tryz.f101 [Enc.enc t] (fun _=>none) 0 (fun v _ _=>R v)=(bif cv t 4 then ou (Fx.Ty.p t) (∀a:Y,nr (Fx.Ty.p t) 48=a→R (.agg ⟨[Px.I 0,S a]⟩)) 48 else bif cv t 5 then cu (fw (Fx.Ty.s t)) (.agg ⟨[Px.I 0,S (sz (zeS (bz (Fx.Ty.s t))))]⟩) R else R (.agg ⟨[Px.I 0,S a8]⟩)):=by kernel_rfl
def hd34(R:Value→Prop)(v:Vl)(f t:Ty)(c:Bool)(X:Prop):Prop:=
 bif decide (ByteArray.size f.s≤9223372036854775807∧ByteArray.size v.s≤9223372036854775807)then bif ftT v f !=0 then R (tp3 0 ⟨#[]⟩ 0 (I (ftT v f)))else
 bif decide (ByteArray.size t.s≤9223372036854775807)then bif ckT t !=0 then R (tp3 0 ⟨#[]⟩ 0 (I (ckT t)))else
 bif f.k==6 || true then bif f.k==6 || t.k==6 then bif f.k !=t.k then R (tp3 0 ⟨#[]⟩ 0 (I 5))else R (tp3 v.n v.s 0 (I 0))else bif c then X else False else False else False else False
def tl34(R:Value→Prop)(g:Fu)(t:Ty):Prop:=bif cuK true g t then R (tp3 (cuO g t).1 (cuO g t).2.1 (cuO g t).2.2.1 (I 0))else False
def tn34(R:Value→Prop)(g:Fu)(t:Ty):Prop:=bif cuK false g t then bif decide (t.s.size≤9223372036854775807∧(t.k=4→0≤t.p∧t.p≤1000))then R (tp3 0 (zrO t) 4 (I 0))else False else False
theorem u34yw(v:Vl)(f t:Ty)(R:Value→Prop):ja1 Tryz.prog (Uy s97w) noL Tryz.f34 [Enc.enc v,Enc.enc f,Enc.enc t] (fun _=>none) 0 (fun v _ _=>R v)=hd34 R v f t (s97w v f).1 (tl34 R (.w v.n f) t):=by kernel_rfl
theorem u34yb(v:Vl)(f t:Ty)(R:Value→Prop):ja1 Tryz.prog (Uy s97b) noL Tryz.f34 [Enc.enc v,Enc.enc f,Enc.enc t] (fun _=>none) 0 (fun v _ _=>R v)=hd34 R v f t (s97b v f).1 (tl34 R (.b v.s) t):=by kernel_rfl
theorem u34yp(v:Vl)(f t:Ty)(R:Value→Prop):ja1 Tryz.prog (Uy s97p) noL Tryz.f34 [Enc.enc v,Enc.enc f,Enc.enc t] (fun _=>none) 0 (fun v _ _=>R v)=hd34 R v f t (s97p v f).1 (tl34 R (.p v.s f.s) t):=by kernel_rfl
theorem u34yc(v:Vl)(f t:Ty)(R:Value→Prop):ja1 Tryz.prog (Uy s97c) noL Tryz.f34 [Enc.enc v,Enc.enc f,Enc.enc t] (fun _=>none) 0 (fun v _ _=>R v)=hd34 R v f t (s97c v f).1 (tl34 R (.c v.s) t):=by kernel_rfl
theorem u34nw(v:Vl)(f t:Ty)(R:Value→Prop):ja1 Tryz.prog (Un s97w) noL Tryz.f34 [Enc.enc v,Enc.enc f,Enc.enc t] (fun _=>none) 0 (fun v _ _=>R v)=hd34 R v f t (s97w v f).1 (tn34 R (.w v.n f) t):=by kernel_rfl
theorem u34nb(v:Vl)(f t:Ty)(R:Value→Prop):ja1 Tryz.prog (Un s97b) noL Tryz.f34 [Enc.enc v,Enc.enc f,Enc.enc t] (fun _=>none) 0 (fun v _ _=>R v)=hd34 R v f t (s97b v f).1 (tn34 R (.b v.s) t):=by kernel_rfl
theorem u34np(v:Vl)(f t:Ty)(R:Value→Prop):ja1 Tryz.prog (Un s97p) noL Tryz.f34 [Enc.enc v,Enc.enc f,Enc.enc t] (fun _=>none) 0 (fun v _ _=>R v)=hd34 R v f t (s97p v f).1 (tn34 R (.p v.s f.s) t):=by kernel_rfl
theorem u34nc(v:Vl)(f t:Ty)(R:Value→Prop):ja1 Tryz.prog (Un s97c) noL Tryz.f34 [Enc.enc v,Enc.enc f,Enc.enc t] (fun _=>none) 0 (fun v _ _=>R v)=hd34 R v f t (s97c v f).1 (tn34 R (.c v.s) t):=by kernel_rfl
theorem ok_v97:jax Tryz.prog v97:=jak jan Px.ok31
theorem ok_Uz:jax Tryz.prog Uz:=jak ok_K9p Px.ok54
theorem ok97w:jao Tryz.prog 97 (sp2 s97w):=by
 refine jct ok_v97 hmix fn97 jai jag fun v t hc=> ?_
 have hc:t.k=1∨t.k=2:=jab hc;rw[ja2,u97];delta ar fw kw cv qp;exact cond_intro (fun _=>rfl) fun h1=>cond_intro (fun _=>rfl) fun h2=>by simp at h1 h2;omega
theorem ok97b:jao Tryz.prog 97 (sp2 s97b):=by
 refine jct ok_v97 hmix fn97 jai jag fun v t hc=> ?_
 have hc:t.k=4:=jab hc;rw[ja2,u97];delta ar fw kw cv qp;rw[hc];rfl
theorem ok97p:jao Tryz.prog 97 (sp2 s97p):=by
 refine jct ok_v97 hmix fn97 jai jag fun v t hc=> ?_
 have hc:t.k=5∧pN (bz t.s)=true∧t.s.size≤9223372036854775807:=jab hc;rw[ja2,u97];delta ar fw kw cv qp;rw[hc.1,hc.2.1];refine cond_intro (fun h=>absurd h (by decide)) fun _=>cond_intro (fun h=>absurd h (by decide)) fun _=>cond_intro (fun h=>absurd h (by decide)) fun _=>c_t rfl (c_t (jaa hc.2.2) rfl)
theorem ok97c:jao Tryz.prog 97 (sp2 s97c):=by
 refine jct ok_v97 hmix fn97 jai jag fun v t hc=> ?_
 have hc:¬(t.k=1∨t.k=2)∧t.k≠4∧(t.k=5→ ¬pN (bz t.s)=true)∧t.s.size≤9223372036854775807:=jab hc;rw[ja2,u97];delta ar fw kw cv qp;refine cond_intro (fun h=> ?_) fun h1=>cond_intro (fun h=> ?_) fun h2=>cond_intro (fun h=> ?_) fun h4=>cond_intro (fun h=> ?_) fun h5=>rfl
 ·exact absurd (.inl (by simpa using h)) hc.1
 ·exact absurd (.inr (by simpa using h)) hc.1
 ·exact absurd (by simpa using h) hc.2.1
 ·refine c_t (jaa hc.2.2.2) ?_;have:=hc.2.2.1 (by simpa using h);exact cond_intro (fun h=>absurd h this) fun _=>rfl
theorem s99_y{args:E}{bs:O}{v:Value}(h:s99y args bs=some (true,v)):s99u args bs=some (true,v):=by
 unfold s99y at h;unfold s99u;split at h
 case h_2=>cases h
 split at h
 case h_2=>cases h
 rename_i f hf
 try simp only[hf]
 simp only[Option.some.injEq,Prod.mk.injEq]at h;obtain⟨h1,rfl⟩:=h;obtain⟨h2,h3⟩:=jid.1 h1;rw[jk0.2 h2,jml];refine congrArg some (congrArg (Prod.mk true) ?_);show tp3 _ _ _ _=tp3 _ _ _ _;cases e:(cuV f ⟨_,_,_,_,_⟩).2.2.2 with
 | none=>rfl
 | some _=>rw[e]at h3;cases h3
theorem s99_n{args:E}{bs:O}{v:Value}(h:s99n args bs=some (true,v)):s99u args bs=some (true,v):=by
 unfold s99n at h;unfold s99u;split at h
 case h_2=>cases h
 split at h
 case h_2=>cases h
 rename_i f hf
 try simp only[hf]
 simp only[Option.some.injEq,Prod.mk.injEq]at h;obtain⟨h1,rfl⟩:=h;obtain⟨h2,h3⟩:=jid.1 h1;rw[jk0.2 h2,jml];refine congrArg some (congrArg (Prod.mk true) ?_);show tp3 _ _ _ _=tp3 _ _ _ _;cases e:(cuV f ⟨_,_,_,_,_⟩).2.2.2 with
 | none=>rw[e]at h3;cases h3
 | some _=>rfl
theorem jgn{ι:Type}{P:Program}{f:FuncId}{s:Ab.Spec}{T:ι→Ab.Spec}(i0:ι)(hT:∀i,jao P f (T i))(h:∀args bs v,s args bs=some (true,v)→ ∃i,T i args bs=some (true,v)):jao P f s:=
 ⟨(hT i0).1, fun args v N w0 m ι w hrel hs hv => by
  obtain⟨i,hi⟩:=h _ _ _ hs;exact(hT i).2 args v N w0 m ι w hrel hi hv⟩
theorem ok99y:jao Tryz.prog 99 s99y:=jgn () (fun _=>ok99u) fun _ _ _ h=>⟨(),s99_y h⟩
theorem ok99n:jao Tryz.prog 99 s99n:=jgn () (fun _=>ok99u) fun _ _ _ h=>⟨(),s99_n h⟩
theorem ok101u:jao Tryz.prog 101 (sp1 s101u):=by
 refine jb8 ok_Uz hmix fn101 jai jag fun t hc=> ?_
 have hc:t.s.size≤9223372036854775807∧(t.k=4→0≤t.p∧t.p≤1000):=jab hc;rw[ja2,u101];delta a8 cu fw cv km ou nr;dsimp only[s101u];rw[zrO_eq];unfold zrV;refine cond_intro (fun h4=> ?_) fun h4=>cond_intro (fun h5=> ?_) fun h5=> ?_
 ·have h4:t.k=4:=by simpa using h4
  refine c_t (jaa ⟨(hc.2 h4).1,(hc.2 h4).2,by decide⟩) fun s' e=> ?_
  rw[←e,show bz (ByteArray.mk #[48])=[48]from rfl,jho,if_pos h4]
 ·have h5:t.k=5:=by simpa using h5
  rw[if_neg (by omega),if_pos h5];exact c_t (jaa hc.1) rfl
 ·have h4:t.k≠4:=by simpa using h4
  have h5:t.k≠5:=by simpa using h5
  rw[if_neg h4,if_neg h5]
theorem ok_Uv:jax Tryz.prog Uv:=jam (jak (jak (jak jan (z22_eq▸ok22f)) (z20_eq▸ok20f)) ok101u) gen100
def toV(v:Vl)(f t:Ty):Int×Y×Int×Int:=
 if fit4 v f≠0 then(0,⟨#[]⟩,0,fit4 v f)else if chk4 t≠0 then(0,⟨#[]⟩,0,chk4 t)
 else if f.k=6∨t.k=6 then(if f.k≠t.k then(0,⟨#[]⟩,0,5)else(v.n,v.s,0,0))
 else if(cuV (jbs v f) t).2.2.2=none then((cuV (jbs v f) t).1,(cuV (jbs v f) t).2.1,(cuV (jbs v f) t).2.2.1,0)else(0,zrV t,4,0)
def toC(v:Vl)(f t:Ty):Prop:=t.s.size≤9223372036854775807∧f.s.size≤9223372036854775807∧v.s.size≤9223372036854775807
instance (v:Vl)(f t:Ty):Decidable (toC v f t):=by unfold toC;infer_instance
abbrev toR(v:Vl)(f t:Ty):Value:=tp3 (toV v f t).1 (toV v f t).2.1 (toV v f t).2.2.1 (I (toV v f t).2.2.2)
theorem hd_ok{v:Vl}{f t:Ty}{c:Bool}{X:Prop}(h:toC v f t)(hX:fit4 v f=0→chk4 t=0→f.k≠6→t.k≠6→c=true∧X):hd34 (fun x=>x=toR v f t) v f t c X:=by
 obtain⟨h1,h2,h3⟩:=h;unfold hd34;rw[jj8,ckT_eq];refine c_t (jaa ⟨h2,h3⟩) (cond_intro (fun e=> ?_) (fun e=>c_t (jaa h1) (cond_intro (fun e'=> ?_) (fun e'=>c_t (Bool.or_true _) (cond_intro (fun e6=>cond_intro (fun g=> ?_) (fun g=> ?_)) (fun e6=> ?_))))))
 ·have e:fit4 v f≠0:=by simpa using e
  unfold toR toV;rw[if_pos e]
 ·have e:¬fit4 v f≠0:=by simpa using e
  have e':chk4 t≠0:=by simpa using e'
  unfold toR toV;rw[if_neg e,if_pos e']
 ·have e:¬fit4 v f≠0:=by simpa using e
  have e':¬chk4 t≠0:=by simpa using e'
  unfold toR toV;rw[if_neg e,if_neg e',if_pos (by simpa using e6),if_pos (by simpa using g)]
 ·have e:¬fit4 v f≠0:=by simpa using e
  have e':¬chk4 t≠0:=by simpa using e'
  unfold toR toV;rw[if_neg e,if_neg e',if_pos (by simpa using e6),if_neg (by simpa using g)]
 ·have e6:f.k≠6∧t.k≠6:=by simpa using e6
  obtain⟨a,b⟩:=hX (by simpa using e) (by simpa using e') e6.1 e6.2;exact c_t a b
def earl(v:Vl)(f t:Ty):Prop:=fit4 v f≠0∨chk4 t≠0∨f.k=6∨t.k=6
instance (v:Vl)(f t:Ty):Decidable (earl v f t):=by unfold earl;infer_instance
def s34i(c:Vl→Ty→Bool×Value)(b:Bool)(v:Vl)(f t:Ty):Bool×Value:=(decide (toC v f t) && (decide (earl v f t) || (c v f).1&&cuK b (jbs v f) t),toR v f t)
theorem i_c{c:Vl→Ty→Bool×Value}{b:Bool}{v:Vl}{f t:Ty}(h:(s34i c b v f t).1=true):toC v f t∧(fit4 v f=0→chk4 t=0→f.k≠6→t.k≠6→(c v f).1=true∧cuK b (jbs v f) t=true):=by
 have h:(decide (toC v f t) && (decide (earl v f t) || (c v f).1&&cuK b (jbs v f) t))=true:=h;rw[jaf,Bool.or_eq_true,jaf]at h;refine⟨jab h.1,fun h1 h2 h3 h4=>h.2.resolve_left fun e=> ?_⟩;rcases jab e with e | e | e | e
 ·exact e h1
 ·exact e h2
 ·exact h3 e
 ·exact h4 e
theorem tl_y{v:Vl}{f t:Ty}{g:Fu}(hg:jbs v f=g)(h1:fit4 v f=0)(h2:chk4 t=0)(h3:f.k≠6)(h4:t.k≠6)(hk:cuK true (jbs v f) t=true):tl34 (fun x=>x=toR v f t) g t:=by
 subst hg;refine c_t hk ?_;have hn:(cuV (jbs v f) t).2.2.2=none:=by simpa using(jid.1 hk).2
 rw[jml];unfold toR toV;rw[if_neg (by simp[h1]),if_neg (by simp[h2]),if_neg (by simp[h3,h4]),if_pos hn]
theorem tl_n{v:Vl}{f t:Ty}{g:Fu}(hs:t.s.size≤9223372036854775807)(hg:jbs v f=g)(h1:fit4 v f=0)(h2:chk4 t=0)(h3:f.k≠6)(h4:t.k≠6)(hk:cuK false (jbs v f) t=true):tn34 (fun x=>x=toR v f t) g t:=by
 subst hg;refine c_t hk (c_t (jaa ⟨hs,fun q=>p1000 h2 (.inr q)⟩) ?_)
 have hn:¬(cuV (jbs v f) t).2.2.2=none:=by
  have:=(jid.1 hk).2;intro e;rw[e]at this;cases this
 rw[zrO_eq];unfold toR toV;rw[if_neg (by simp[h1]),if_neg (by simp[h2]),if_neg (by simp[h3,h4]),if_neg hn]
theorem fm_w{v:Vl}{f:Ty}(h:(s97w v f).1=true):jbs v f= .w v.n f:=if_pos (jab h)
theorem fm_b{v:Vl}{f:Ty}(h:(s97b v f).1=true):jbs v f= .b v.s:=by
 have h:f.k=4:=jab h;unfold jbs;rw[if_neg (by omega),if_pos h]
theorem fm_p{v:Vl}{f:Ty}(h:(s97p v f).1=true):jbs v f= .p v.s f.s:=by
 have h:f.k=5∧pN (bz f.s)=true∧f.s.size≤9223372036854775807:=jab h;unfold jbs;rw[if_neg (by omega),if_neg (by omega),if_pos ⟨h.1,h.2.1⟩]
theorem fm_c{v:Vl}{f:Ty}(h:(s97c v f).1=true):jbs v f= .c v.s:=by
 have h:¬(f.k=1∨f.k=2)∧f.k≠4∧(f.k=5→ ¬pN (bz f.s)=true)∧f.s.size≤9223372036854775807:=jab h;unfold jbs;rw[if_neg h.1,if_neg h.2.1,if_neg fun q=>h.2.2.1 q.1 q.2]
theorem ok_Uy{c:Vl→Ty→Bool×Value}(h:jao Tryz.prog 97 (sp2 c)):jax Tryz.prog (Uy c):=jak (jak ok_Uv h) ok99y
theorem ok_Un{c:Vl→Ty→Bool×Value}(h:jao Tryz.prog 97 (sp2 c)):jax Tryz.prog (Un c):=jak (jak ok_Uv h) ok99n
theorem jk3{c:Vl→Ty→Bool×Value}{g:Vl→Ty→Fu}(h:jao Tryz.prog 97 (sp2 c))(hg:∀v f,(c v f).1=true→jbs v f=g v f)
  (hu:∀(v:Vl)(f t:Ty)(R:Value→Prop),ja1 Tryz.prog (Uy c) noL Tryz.f34 [Enc.enc v,Enc.enc f,Enc.enc t] (fun _=>none) 0 (fun v _ _=>R v)=hd34 R v f t (c v f).1 (tl34 R (g v f) t)):jao Tryz.prog 34 (sp3 (s34i c true)):=by
 refine jki (ok_Uy h) hmix fn34 jai jag fun v f t hc=> ?_
 obtain⟨h1,h2⟩:=i_c hc;rw[ja2,hu];exact hd_ok h1 fun a b d e=>⟨(h2 a b d e).1,tl_y (hg v f (h2 a b d e).1) a b d e (h2 a b d e).2⟩
theorem jlc{c:Vl→Ty→Bool×Value}{g:Vl→Ty→Fu}(h:jao Tryz.prog 97 (sp2 c))(hg:∀v f,(c v f).1=true→jbs v f=g v f)
  (hu:∀(v:Vl)(f t:Ty)(R:Value→Prop),ja1 Tryz.prog (Un c) noL Tryz.f34 [Enc.enc v,Enc.enc f,Enc.enc t] (fun _=>none) 0 (fun v _ _=>R v)=hd34 R v f t (c v f).1 (tn34 R (g v f) t)):jao Tryz.prog 34 (sp3 (s34i c false)):=by
 refine jki (ok_Un h) hmix fn34 jai jag fun v f t hc=> ?_
 obtain⟨h1,h2⟩:=i_c hc;rw[ja2,hu];exact hd_ok h1 fun a b d e=>⟨(h2 a b d e).1,tl_n h1.1 (hg v f (h2 a b d e).1) a b d e (h2 a b d e).2⟩
def cF:Fin 4→Vl→Ty→Bool×Value
 | 0=>s97w
 | 1=>s97b
 | 2=>s97p
 | 3=>s97c
theorem ok34y:∀i,jao Tryz.prog 34 (sp3 (s34i (cF i) true))
 | 0=>jk3 ok97w (fun _ _=>fm_w) u34yw
 | 1=>jk3 ok97b (fun _ _=>fm_b) u34yb
 | 2=>jk3 ok97p (fun _ _=>fm_p) u34yp
 | 3=>jk3 ok97c (fun _ _=>fm_c) u34yc
theorem ok34n:∀i,jao Tryz.prog 34 (sp3 (s34i (cF i) false))
 | 0=>jlc ok97w (fun _ _=>fm_w) u34nw
 | 1=>jlc ok97b (fun _ _=>fm_b) u34nb
 | 2=>jlc ok97p (fun _ _=>fm_p) u34np
 | 3=>jlc ok97c (fun _ _=>fm_c) u34nc
def s34u(v:Vl)(f t:Ty):Bool×Value:=(decide (toC v f t),toR v f t)
theorem cuF_of{v:Vl}{f:Ty}(hf:f.s.size≤9223372036854775807)(hv:v.s.size≤9223372036854775807)(h:fit4 v f=0):cuF (jbs v f):=by
 unfold fit4 at h;split at h
 ·rename_i q;exact absurd h q
 rename_i c1;split at h
 case isFalse=>cases h
 rename_i i1;have c1:chk4 f=0:=by simpa using c1
 unfold is4 at i1;unfold jbs;by_cases k12:f.k=1∨f.k=2
 ·rw[if_pos k12]at i1 ⊢
  have hV:jbd f:=by
   unfold chk4 at c1;split at c1
   ·assumption
   ·rw[if_neg (by omega),if_neg (by omega),if_neg (by omega),if_neg (by omega)]at c1;cases c1
  have hb:=Fx.bnd_range hV;have i1:Fx.fits v f=0:=by simpa using i1
  unfold Fx.fits at i1;rw[if_pos hV]at i1;split at i1
  ·rename_i hF;obtain⟨-,g1,g2⟩:=hF;exact⟨hV,by omega,by omega⟩
  ·cases i1
 ·rw[if_neg k12]at i1 ⊢;by_cases k4:f.k=4
  ·rw[if_pos k4];rw[if_neg (by omega),if_pos k4]at i1;simp only[jaf,jae]at i1;have:=p1000 c1 (.inr k4)
   have h64:f.p≤64:=by
    unfold chk4 at c1;rw[if_neg (fun q=>k12 q.1),if_neg (by omega)]at c1;split at c1
    ·rename_i q;exact q.2.2.2.2.2
    ·rw[if_neg (by omega),if_neg (by omega)]at c1;cases c1
   exact⟨i1.2,by omega⟩
  ·rw[if_neg k4];split
   ·rename_i q;exact⟨q.2,hv,hf⟩
   ·exact hv
theorem ok34u:jao Tryz.prog 34 (sp3 s34u):=by
 refine jgn (T:=fun i:Fin 4×Bool=>sp3 (s34i (cF i.1) i.2)) (0,true) (fun i=> ?_) fun args bs r hs=> ?_
 ·obtain⟨i,b⟩:=i;cases b
  ·exact ok34n i
  ·exact ok34y i
 ·unfold sp3 at hs;split at hs
  case h_2=>cases hs
  split at hs
  case h_2=>cases hs
  rename_i v f t hv hf ht;simp only[s34u,Option.some.injEq,Prod.mk.injEq]at hs;obtain⟨hc,rfl⟩:=hs;have hC:=jab hc
  have key:∃i:Fin 4×Bool,(decide (earl v f t) || (cF i.1 v f).1&&cuK i.2 (jbs v f) t)=true:=by
   by_cases he:earl v f t
   ·exact⟨(0,true),by rw[jaa he];rfl⟩
   have h1:fit4 v f=0:=Classical.not_not.1 fun q=>he (.inl q)
   have h2:chk4 t=0:=Classical.not_not.1 fun q=>he (.inr (.inl q))
   have h4:t.k≠6:=fun q=>he (.inr (.inr (.inr q)))
   have hk:cuK (cuV (jbs v f) t).2.2.2.isNone (jbs v f) t=true:=jid.2 ⟨⟨cuF_of hC.2.1 hC.2.2 h1,h2,h4,hC.1⟩,rfl⟩
   have hi:∃i,(cF i v f).1=true:=by
    by_cases k12:f.k=1∨f.k=2
    ·exact⟨0,jaa k12⟩
    by_cases k4:f.k=4
    ·exact⟨1,jaa k4⟩
    by_cases k5:f.k=5∧pN (bz f.s)=true
    ·exact⟨2,jaa ⟨k5.1,k5.2,hC.2.1⟩⟩
    ·exact⟨3,jaa ⟨k12,k4,fun q w=>k5 ⟨q,w⟩,hC.2.1⟩⟩
   obtain⟨i,hi⟩:=hi;exact⟨(i,_),by rw[hi,hk];simp⟩
  obtain⟨i,hi⟩:=key;refine⟨i,?_⟩;unfold sp3;simp only[hv,hf,ht];refine congrArg some (Prod.ext ?_ rfl);show(decide (toC v f t) &&_)=true;rw[hc,hi];rfl
instance tabsU9:Tabs:=tabs
def Y0:Env:=Env.nil
theorem ok_Y0:jax Tryz.prog Y0:=jan
def s96(v:Vl):Bool×Value:=(true,B (decide ((v.s.size:Int)>2000)))
theorem fn96:Fn1 Tryz.prog 96 Tryz.f96:= .m Tryz.func96
theorem v96(v:Vl)(R:Value→Prop):ja1 Tryz.prog Y0 noL Tryz.f96 [Enc.enc v] (fun _=>none) 0 (fun v _ _=>R v)=(R (B (decide ((v.s.size:Int)>2000)))):=by kernel_rfl
theorem ok96:jao Tryz.prog 96 (sp1 s96):=by
 refine jb8 ok_Y0 hmix fn96 jai jag fun v hc=> ?_
 rw[ja2,v96]
 try dsimp only[s96]
def Y1:Env:=Env.nil.add 96 (sp1 s96)
theorem ok_Y1:jax Tryz.prog Y1:=jak jan ok96
def Y1_165:Env:=Env.nil.addG 165 (inlQ Tryz.prog Y1 noL Tryz.f165)
theorem fn165:Fn1 Tryz.prog 165 Tryz.f165:= .m Tryz.func165
theorem ok_Y1_165:jax Tryz.prog Y1_165:=jam jan (jar ok_Y1 hmix fn165 jai)
def Y1_95:Env:=(Env.nil.add 96 (sp1 s96)).addG 95 (inlQ Tryz.prog Y1_165 noL Tryz.f95)
theorem fn95:Fn1 Tryz.prog 95 Tryz.f95:= .m Tryz.func95
theorem ok_Y1_95:jax Tryz.prog Y1_95:=jam (jak jan ok96) (jar ok_Y1_165 hmix fn95 jai)
def Y1_31:Env:=((Env.nil.add 19 (sp1 z19)).add 23 (sp2 z22)).addG 31 (inlQ Tryz.prog Y1_95 noL Tryz.f31)
theorem fn31:Fn1 Tryz.prog 31 Tryz.f31:= .m Tryz.func31
theorem ok_Y1_31:jax Tryz.prog Y1_31:=jam (jak (jak jan ok19s) (z22_eq2▸ok23)) (jar ok_Y1_95 hmix fn31 jai)
def s47(v:Vl)(t:Ty):Bool×Value:=(decide (t.s.size≤9223372036854775807∧v.s.size≤9223372036854775807),B (decide (t.s.size≤200∧v.s.size≤2000) &&ftT v t==0))
theorem fn47:Fn1 Tryz.prog 47 Tryz.f47:= .m Tryz.func47
theorem v47(v:Vl)(t:Ty)(R:Value→Prop):ja1 Tryz.prog Y1_31 noL Tryz.f47 [Enc.enc v,Enc.enc t] (fun _=>none) 0 (fun v _ _=>R v)=(bif decide (ep (Fx.Ty.s t)≤200)then d5 (a7 0 (natO 1)) (decide (ep (Fx.Vl.s v)>2000)) (kz t v 9223372036854775807 9223372036854775807) (fk R) (bif a7 1 (natO 1)then False else cu (kz t v 9223372036854775807 9223372036854775807) (B (ftT v t==0)) R) (R (B (ftT v t==0)))else fk R):=by kernel_rfl
theorem ok47:jao Tryz.prog 47 (sp2 s47):=by
 refine jct ok_Y1_31 hmix fn47 jai jag fun v t hc=> ?_
 rw[ja2,v47];delta fk cq ar d5 cu iy kz a7 ep;have hc:(t.s.size≤9223372036854775807∧v.s.size≤9223372036854775807):=jab hc
 try dsimp only[s47]
 have n1:∀k:Nat,decide ((k:Int)<natO 1)=decide (k<1):=fun k=>by rw[jb6,decide_eq_decide];omega
 have a0:decide ((0:Int)<natO 1)=true:=by rw[jb6];decide
 have a1:decide ((1:Int)<natO 1)=false:=by rw[jb6];decide
 rw[a0,a1];apply cond_intro<;>intro h
 ·have h:=jab h;refine c_t rfl (cond_intro (fun q=> ?_) (fun q=> ?_))
  ·have q:=jab q;rw[jad (fun z=>by omega)];rfl
  ·have q:=jac q;refine c_f rfl (c_t (jaa hc) ?_);rw[jaa (show t.s.size≤200∧v.s.size≤2000 by omega)];rfl
 ·have h:=jac h;rw[jad (fun z=>by omega)];rfl
theorem ex_to(v:Vl)(f t:Ty):∃x:Int×Y×Int×Int,x=toV v f t:=⟨_,rfl⟩
def toH(v:Vl)(f t:Ty):Int×Y×Int×Int:=Classical.choose (ex_to v f t)
theorem toH_eq(v:Vl)(f t:Ty):toH v f t=toV v f t:=Classical.choose_spec (ex_to v f t)
def s34h(v:Vl)(f t:Ty):Bool×Value:=(decide (toC v f t),tp3 (toH v f t).1 (toH v f t).2.1 (toH v f t).2.2.1 (I (toH v f t).2.2.2))
theorem s34h_eq:s34h=s34u:=by funext v f t;unfold s34h s34u;rw[toH_eq]
theorem fill_len(l:J)(q:Nat)(c:Int)(h:l.length≤q):(jfw l q c).length=q:=by
 unfold jfw;rw[List.take_of_length_le h,List.length_append,List.length_replicate];omega
theorem fill_isB{l:J}(hl:IsB l){q:Nat}{c:Int}(hc:0≤c∧c<256):IsB (jfw l q c):=(hl.take _).append fun x hx=>by rw[List.eq_of_mem_replicate hx];omega
theorem trR_pad(l:J)(k:Nat):trR (l++List.replicate k 32)=trR l:=by
 unfold trR;rw[List.reverse_append,jew];rw[List.all_eq_true];intro x hx;rw[List.mem_reverse]at hx;rw[List.eq_of_mem_replicate hx];rfl
theorem trL_pad(l:J)(k:Nat):trR (trL (l++List.replicate k 32))=trR (trL l):=by
 unfold trL;by_cases h:l.all (· ==32)=true
 ·rw[jew h]
  have e:l.dropWhile (· ==32)=[]:=by
   have:=jew (p:=(· ==(32:Int))) (l:=l) (r:=[]) h;simpa using this
  have e2:(List.replicate k (32:Int)).dropWhile (· ==32)=[]:=by simp
  rw[e,e2]
 ·have e:(l++List.replicate k 32).dropWhile (· ==32)=l.dropWhile (· ==32)++List.replicate k 32:=by
   rw[List.dropWhile_append];rw[if_neg];intro q;apply h;rw[List.all_eq_true];exact drop_nil (by simpa using q)
  rw[e,trR_pad]
theorem rdN_pad(l:J)(q:Nat)(h:l.length≤q)(hq:q≤255):rdN (jfw l q 32)=rdN l:=by
 unfold rdN;rw[fill_len l q 32 h,if_neg (by omega),if_neg (by omega)];unfold numR jfw;rw[List.take_of_length_le h,trL_pad]
theorem bz_fi{s:Y}{n c:Int}(hc:0≤c∧c<256):bz (fiU s n c)=jfw (bz s) n.toNat c:=jdf (fill_isB (jd1 s) hc)
instance tabsU10:Tabs:=tabs
def QB:Env:=Env.nil
theorem ok_QB:jax Tryz.prog QB:=jan
def qB(c n p m:Int):Int:=imin c (IntKind.wrap IntKind.i64 (p+imax 0 (imin m n)))
theorem q_r{c n p m:Int}(h:0≤p∧p≤c)(hn:0≤n∧n≤1000)(hc:0≤c∧c≤1000):p≤qB c n p m∧qB c n p m≤c:=by
 unfold qB;rw[Fx.imin_min,Fx.imax_max,Fx.imin_min,w64 (by omega)];omega
end Go.Cx
end
noncomputable section
namespace Go.Px
open Go Go.Ab Go.Proofs
def cel0(le fill dr:Int)(neg:Bool)(m c d o:Int):Int:=
 bif m==100 then fmZ c d neg else bif m==99 then(bif decide (o<le)then fill else d)
 else bif m==105 then(bif c==66 then 32 else bif decide (o<le)then fill else c)else ssZ c dr neg
def celZ(le fill dr:Int)(neg:Bool)(m c d o:Int):Int:=bif dr !=0&&o==le-1 then sgZ dr neg else cel0 le fill dr neg m c d o
def fsGo(le fill dr:Int)(neg:Bool):J→J→J→Int→J
 | [],_,_,_=> []
 | m::r,sp,ds,o=>bif m==118 then fsGo le fill dr neg r sp.tail ds o
  else celZ le fill dr neg m (sp.headD 0) (ds.headD 0) o::fsGo le fill dr neg r sp.tail (bif isP m then ds.tail else ds) (o+1)
theorem fd_cons(le fill dr:Int)(neg:Bool)(m:Int)(r sp ds:J)(o:Int):fdGo le fill dr neg (m::r) sp ds o=
  bif m==118 then fdGo le fill dr neg r sp.tail ds o else cel0 le fill dr neg m (sp.headD 0) (ds.headD 0) o::fdGo le fill dr neg r sp.tail (bif isP m then ds.tail else ds) (o+1):=by
 rw[fdGo,cel0,isP];by_cases h1:m=100
 ·subst h1;rfl
 by_cases h2:m=99
 ·subst h2;rfl
 by_cases h3:m=105
 ·subst h3;rfl
 have e1:(m==100)=false:=beq_eq_false_iff_ne.2 h1;have e2:(m==99)=false:=beq_eq_false_iff_ne.2 h2;have e3:(m==105)=false:=beq_eq_false_iff_ne.2 h3;rw[e1,e2,e3];by_cases h4:m=118
 ·subst h4;rfl
 have e4:(m==118)=false:=beq_eq_false_iff_ne.2 h4;have e5:(m !=118)=true:=by rw[bne,e4];rfl
 rw[e4,e5];rfl
theorem jjc{le fill dr:Int}{neg:Bool}:∀(ms sp ds:J)(o:Int),dr=0∨le-1<o→fsGo le fill dr neg ms sp ds o=fdGo le fill dr neg ms sp ds o
 | [],_,_,_,_=>rfl
 | m::r,sp,ds,o,h=>by
  have hc:(dr !=0&&o==le-1)=false:=by
   rcases h with rfl | h
   ·rfl
   ·have:(o==le-1)=false:=beq_eq_false_iff_ne.2 (by omega);rw[this,Bool.and_false]
  rw[fsGo,fd_cons,celZ,hc,cond_false,jjc r _ _ (o+1) (by omega),jjc r _ _ o h]
theorem jme{le fill dr:Int}{neg:Bool}(hd:dr≠0):∀(ms sp ds:J)(o:Int),o≤le-1→le-1<o+nv ms→fsGo le fill dr neg ms sp ds o=(fdGo le fill dr neg ms sp ds o).set (le-1-o).toNat (sgZ dr neg)
 | [],_,_,o,h1,h2=>by simp[nv]at h2;omega
 | m::r,sp,ds,o,h1,h2=>by
  rw[jet]at h2;rw[fsGo,fd_cons];by_cases hm:m=118
  ·subst hm;rw[if_pos rfl]at h2;exact jme hd r _ _ o h1 (by omega)
  ·have e:(m==118)=false:=beq_eq_false_iff_ne.2 hm;rw[if_neg hm]at h2;rw[e,cond_false,cond_false,celZ];have hd':(dr !=0)=true:=bne_iff_ne.2 hd;by_cases ho:o=le-1
   ·have e2:(o==le-1)=true:=beq_iff_eq.2 ho;rw[hd',e2,jjc r _ _ (o+1) (.inr (by omega))];have:(le-1-o).toNat=0:=by omega
    rw[this];rfl
   ·have e2:(o==le-1)=false:=beq_eq_false_iff_ne.2 ho;have:(le-1-o).toNat=(le-1-(o+1)).toNat+1:=by omega
    rw[e2,Bool.and_false,cond_false,jme hd r _ _ (o+1) (by omega) (by omega),this];rfl
theorem jmf(le fill dr:Int)(neg:Bool):∀(ms sp ds:J)(o:Int),(fsGo le fill dr neg ms sp ds o).length=nv ms
 | [],_,_,_=>rfl
 | m::r,sp,ds,o=>by
  rw[fsGo,jet];by_cases hm:m=118
  ·subst hm;rw[if_pos rfl,Nat.zero_add];exact jmf le fill dr neg r _ _ _
  ·have e:(m==118)=false:=beq_eq_false_iff_ne.2 hm;rw[e,cond_false,List.length_cons,jmf,if_neg hm];omega
theorem field_fs{sp:J}{w:Int}{k:Nat}{n:Int}(h:fdOK sp w k n=true):jdk sp w k n=
  bif fdBl sp w k n then rep1 (fdFl sp) w.toNat else fsGo (fdLe sp w k n) (fdFl sp) (fdDr sp) (decide (n<0)) (jas sp) sp (digZ n.natAbs k) 0:=by
 unfold jdk;cases hb:fdBl sp w k n with
 | true=>rfl
 | false=>
  rw[cond_false,cond_false];unfold fdOK at h;rw[hb,Bool.false_or]at h;by_cases h0:fdDr sp=0
  ·have e:(fdDr sp !=0)=false:=by rw[h0];rfl
   rw[e,cond_false,jej,jjc _ _ _ _ (.inl h0)]
  ·have e:(fdDr sp !=0)=true:=bne_iff_ne.2 h0;have e2:(fdDr sp==0)=false:=beq_eq_false_iff_ne.2 h0;rw[e2,Bool.false_or,jae,jej,jg0]at h;rw[e,cond_true,jej,jme h0 _ _ _ _ (by omega) (by omega),Int.sub_zero]
def ldOK(le:Int):J→J→Int→Prop
 | [],_,_=>True
 | m::r,ds,o=>(o<le→m≠100∧(m=99→ds.headD 0=48))∧ldOK le r (bif isP m then ds.tail else ds) (bif m==118 then o else o+1)
theorem jko{le:Int}:∀(ms ds:J)(o:Int),le≤o→ldOK le ms ds o
 | [],_,_,_=>trivial
 | m::r,ds,o,h=>⟨fun q=>by omega,jko r _ _ (by cases m==118<;>simp<;>omega)⟩
theorem ld_end:∀(ms ds:J)(o:Int),ldOK (jea ms ds o) ms ds o
 | [],_,_=>trivial
 | m::r,ds,o=>by
  rw[jea];cases h:((m==118 || m==100) || (m==99&&ds.headD 0 !=48))with
  | true=>exact jko _ _ _ (by rw[cond_true];omega)
  | false=>
   rw[cond_false];simp only[Bool.or_eq_false_iff,beq_eq_false_iff_ne,Bool.and_eq_false_imp,beq_iff_eq,bne_eq_false_iff_eq]at h;obtain⟨⟨h1,h2⟩,h3⟩:=h;have e1:(m==118)=false:=beq_eq_false_iff_ne.2 h1;have e2:isP m=(m==99):=by rw[isP,beq_eq_false_iff_ne.2 h2,Bool.false_or]
   have:=ld_end r (bif m==99 then ds.tail else ds) (o+1);rw[ldOK,e1,e2,cond_false];exact⟨fun _=>⟨h2,h3⟩,this⟩
theorem pd_cons(m:Int)(r:J):pdGo (m::r)=(if isP m=true then 1 else 0)+pdGo r:=by
 rw[pdGo];cases isP m<;>rfl
theorem ji7{m:Int}:isP m=true↔m=100∨m=99:=by simp[isP]
theorem ld_zero{le:Int}:∀(ms ds:J)(o:Int),100∉ms→(∀c∈ds,c=48)→pdGo ms≤ds.length→ldOK le ms ds o
 | [],_,_,_,_,_=>trivial
 | m::r,ds,o,h1,h2,h3=>by
  have hr:100∉r:=fun q=>h1 (List.mem_cons_of_mem _ q)
  have hm:m≠100:=fun q=>h1 (by rw[q];exact List.mem_cons_self)
  rw[pd_cons]at h3;have hn:=pd_nn r;refine⟨fun _=>⟨hm,fun h99=> ?_⟩,?_⟩
  ·rw[if_pos (ji7.2 (.inr h99))]at h3;cases ds with
   | nil=>simp at h3;omega
   | cons d ds=>exact h2 d List.mem_cons_self
  ·refine ld_zero r _ _ hr ?_ ?_
   ·cases isP m with
    | true=>exact fun c hc=>h2 c (List.mem_of_mem_tail hc)
    | false=>exact h2
   ·cases hp:isP m with
    | true=>rw[hp,if_pos rfl]at h3;rw[cond_true,List.length_tail];omega
    | false=>rw[hp]at h3;simp at h3;exact h3
theorem ld_law{sp:J}{w:Int}{k:Nat}{n:Int}(hp:pdGo (jas sp)≤k):ldOK (fdLe sp w k n) (jas sp) (digZ n.natAbs k) 0:=by
 unfold fdLe endZ;cases h9:hasZ (jas sp) 99 with
 | false=>exact jko _ _ _ (by simp)
 | true=>
  rw[Bool.not_true,cond_false];cases hq:(!hasZ (jas sp) 100&&decide (digZ n.natAbs k=rep1 48 k))with
  | false=>exact ld_end _ _ _
  | true=>
   simp only[jaf,Bool.not_eq_true',jae]at hq;refine ld_zero _ _ _ (fun q=>by rw[ja8.2 q]at hq;cases hq.1) ?_ (by rw[jcm];exact hp);exact(jk9 (jcm _ _)).1 hq.2
theorem fdBl_zero{sp:J}{w:Int}{k:Nat}{n:Int}(h:fdBl sp w k n=true):n=0:=by
 simp only[fdBl,jaf,beq_iff_eq]at h;exact h.2.2.1
theorem mk_app(dr:Int):∀(a b:J)(seen:Bool),mkGo dr seen (a++b)=mkGo dr seen a++mkGo dr (seen || (dr !=0&&decide (dr∈a))) b
 | [],b,seen=>by simp[mkGo]
 | c::r,b,seen=>by
  rw[List.cons_append,mkGo,mkGo,mk_app dr r b,List.cons_append];congr 3
  have:decide (dr∈c::r)=(c==dr || decide (dr∈r)):=by
   rw[Bool.eq_iff_iff,jae,Bool.or_eq_true,jae,beq_iff_eq,List.mem_cons];exact⟨fun h=>h.imp Eq.symm id,fun h=>h.imp Eq.symm id⟩
  rw[this];cases seen<;>cases dr !=0<;>simp
theorem jg7(dr x:Int):∀(a am b bm:J)(j:Int)(p q:Bool),a.length=am.length→
  stIn dr x (a++b) (am++bm) j p q=stIn dr x b bm (j+a.length) (stIn dr x a am j p q).1 (stIn dr x a am j p q).2
 | [],[],b,bm,j,p,q,_=>by simp[stIn]
 | c::r,m::ms,b,bm,j,p,q,h=>by
  rw[List.cons_append,List.cons_append,stIn,stIn];have hl:r.length=ms.length:=by simpa using h
  have e:j+((c::r).length:Int)=j+1+r.length:=by rw[List.length_cons];omega
  rw[e];cases m==100 || (m==99 || c==dr)with
  | true=>exact jg7 dr x r ms b bm _ _ _ hl
  | false=>exact jg7 dr x r ms b bm _ _ _ hl
theorem jf6(dr x:Int):∀(a am:J)(j:Int)(p q:Bool),(p=true→(stIn dr x a am j p q).1=true)∧(q=true→(stIn dr x a am j p q).2=true)
 | [],_,_,p,q=>by simp[stIn]
 | _::_,[],_,p,q=>by simp[stIn]
 | c::r,m::ms,j,p,q=>by
  rw[stIn];have h:=fun p q=>jf6 dr x r ms (j+1) p q
  cases m==100 || (m==99 || c==dr)with
  | true=>exact⟨fun e=>(h _ _).1 (by rw[e];rfl),fun e=>(h _ _).2 (by rw[e];rfl)⟩
  | false=>exact⟨fun e=>(h _ _).1 e,fun e=>(h _ _).2 e⟩
theorem stIn_lo(dr x:Int):∀(a am:J)(j:Int)(p q:Bool),a.length=am.length→((∃m∈am,isP m=true)∨dr∈a)→j+a.length≤x→(stIn dr x a am j p q).1=true
 | [],[],_,_,_,_,h,_=>by simp at h
 | c::r,m::ms,j,p,q,hl,h,hx=>by
  rw[List.length_cons]at hx;have hl':r.length=ms.length:=by simpa using hl
  rw[stIn];cases hm:m==100 || (m==99 || c==dr)with
  | true=>exact(jf6 dr x r ms _ _ _).1 (by rw[jaa (by omega)];simp)
  | false=>
   refine stIn_lo dr x r ms _ _ _ hl' ?_ (by omega);simp only[Bool.or_eq_false_iff,beq_eq_false_iff_ne]at hm;rcases h with⟨y,hy,hp⟩ | h
   ·rcases List.mem_cons.1 hy with rfl | hy
    ·rcases ji7.1 hp with rfl | rfl
     ·exact absurd rfl hm.1
     ·exact absurd rfl hm.2.1
    ·exact .inl ⟨y,hy,hp⟩
   ·rcases List.mem_cons.1 h with e | h
    ·exact absurd e.symm hm.2.2
    ·exact .inr h
theorem stIn_hi(dr x:Int):∀(a am:J)(j:Int)(p q:Bool),a.length=am.length→((∃m∈am,isP m=true)∨dr∈a)→x<j→(stIn dr x a am j p q).2=true
 | [],[],_,_,_,_,h,_=>by simp at h
 | c::r,m::ms,j,p,q,hl,h,hx=>by
  have hl':r.length=ms.length:=by simpa using hl
  rw[stIn];cases hm:m==100 || (m==99 || c==dr)with
  | true=>exact(jf6 dr x r ms _ _ _).2 (by rw[jaa (show j>x by omega)];simp)
  | false=>
   refine stIn_hi dr x r ms _ _ _ hl' ?_ (by omega);simp only[Bool.or_eq_false_iff,beq_eq_false_iff_ne]at hm;rcases h with⟨y,hy,hp⟩ | h
   ·rcases List.mem_cons.1 hy with rfl | hy
    ·rcases ji7.1 hp with rfl | rfl
     ·exact absurd rfl hm.1
     ·exact absurd rfl hm.2.1
    ·exact .inl ⟨y,hy,hp⟩
   ·rcases List.mem_cons.1 h with e | h
    ·exact absurd e.symm hm.2.2
    ·exact .inr h
theorem stGo_at(dr:Int)(body ms:J):∀{a b:J}{c i:Int},stGo dr body ms (a++c::b) i=true→hasZ [36,83,43,45] c=true→c≠dr→
  ((stIn dr (i+a.length) body ms 0 false false).1&& (stIn dr (i+a.length) body ms 0 false false).2)=false
 | [],b,c,i,h,h4,hc=>by
  rw[List.nil_append,stGo,h4,beq_eq_false_iff_ne.2 hc]at h;have:=(Bool.and_eq_true_iff.1 h).1;have e:((([]:J).length:Nat):Int)=0:=rfl;rw[e,Int.add_zero];cases q:((stIn dr i body ms 0 false false).1&& (stIn dr i body ms 0 false false).2)with
  | false=>rfl
  | true=>rw[q]at this;cases this
 | x::a,b,c,i,h,h4,hc=>by
  rw[List.cons_append,stGo]at h;have e:i+((x::a).length:Int)=i+1+a.length:=by rw[List.length_cons];omega
  rw[e];exact stGo_at dr body ms (Bool.and_eq_true_iff.1 h).2 h4 hc
theorem jgc:∀(a b:J)(fm bh pt:Bool)(dg:Int),(ldGo (a++100::b) fm bh pt dg).1=true→99∉b
 | [],b,fm,bh,pt,dg,h,h9=>by
  have key:(ldGo (100::b) fm bh pt dg).1=(ldGo b true bh pt (dg+1)).1:=rfl;rw[List.nil_append,key,jgr b _ _ _ h9]at h;cases h
 | m::a,b,fm,bh,pt,dg,h,h9=>by
  rw[List.cons_append,ldGo]at h;cases hm:m==118 with
  | true=>rw[hm]at h;exact jgc a b _ _ _ _ h h9
  | false=>
   rw[hm,cond_false]at h;cases hm2:m==100 with
   | true=>rw[hm2]at h;exact jgc a b _ _ _ _ h h9
   | false=>
    rw[hm2,cond_false]at h;cases hm3:m==99 with
    | false=>rw[hm3]at h;exact jgc a b _ _ _ _ h h9
    | true=>
     rw[hm3,cond_true]at h;cases fm with
     | true=>cases h
     | false=>exact jgc a b _ _ _ _ h h9
theorem NumP.ld1{s:J}(h:NumP s):(ldGo (mkGo (drZ (jal s)) false (jal s)) false false false 0).1=true:=by
 have hld:=h.ld;unfold jdp at hld;cases h1:hasZ (jal s) 90&&hasZ (jal s) 42 with
 | true=>rw[h1]at hld;cases hld
 | false=>
  rw[h1,cond_false]at hld;cases h2:(hasZ (jal s) 90 || hasZ (jal s) 42) &&drZ (jal s) !=0 with
  | true=>rw[h2]at hld;cases hld
  | false=>
   rw[h2,cond_false]at hld;exact(Bool.and_eq_true_iff.1 hld).1
theorem cnt_mem'{l:J}{c:Int}(h:0<cntZ l c):c∈l:=by
 apply Classical.byContradiction;intro q;rw[jjs q]at h;omega
theorem jks{l:J}(hl:IsB (pS l)∧(pS l).length≤32)(h:pN l=true)(n:Int):((fdN l n).length:Int)=pW l:=by
 obtain⟨_,_,p3,p4,_,p6⟩:=jht hl h n;rw[fdN,field_fs p6];cases fdBl (pS l) (pW l) (pD l).toNat n with
 | true=>simp[rep1];omega
 | false=>rw[cond_false,jmf,jm1 h]
theorem cuM_same(n q:Int):cuM n q q=n.natAbs:=by
 rw[cuM,if_pos (by omega),Int.sub_self];exact Int.ediv_one _
theorem cu_in{l:J}{n:Int}(hn:(n.natAbs:Int)<tenZ (pD l).toNat)(hg:n<0→pG l=true):cuN n (pQ l) (pQ l) (pD l) (pG l)=n∧cuF n (pQ l) (pQ l) (pD l) (pG l)=true:=by
 have e:cuV n (pQ l) (pQ l) (pD l)=n.natAbs:=by rw[cuV,cuM_same,Int.emod_eq_of_lt (by omega) hn]
 constructor
 ·rw[cuN,e];by_cases h0:n<0
  ·rw[if_pos ⟨h0,hg h0⟩];omega
  ·rw[if_neg (fun q=>h0 q.1)];omega
 ·rw[cuF,cuM_same,jaa hn,Bool.true_and];by_cases h0:n<0
  ·rw[hg h0];simp
  ·rw[jaa (show n≥0 by omega)];rfl
theorem ed_in{l:J}(h:pN l=true){n:Int}(hn:(n.natAbs:Int)<tenZ (pD l).toNat)(hg:n<0→pG l=true):edS l n (pQ l)=fdN l n∧edF l n (pQ l)=true∧edE l (pQ l)=0:=by
 have hp:=jd5 h;have hq:0≤pQ l∧pQ l≤9:=by omega
 obtain⟨e1,e2⟩:=cu_in hn hg;rw[edS,edF,edE,if_pos ⟨h,hq⟩,if_pos ⟨h,hq⟩,if_pos h,if_pos hq,e1,e2];exact⟨rfl,rfl,rfl⟩
theorem ho_rd{l t:J}(h:pN l=true):hoZ l t=decide ((rdV l t).2=0):=by
 rw[hoZ,if_pos (jc4 h),if_pos h]
theorem rd_val{s t:Y}(h:pN (bz s)=true):((rdV (bz s) (bz t)).1.natAbs:Int)<tenZ (pD (bz s)).toNat∧((rdV (bz s) (bz t)).1<0→pG (bz s)=true)∧((rdV (bz s) (bz t)).2=0→fdN (bz s) (rdV (bz s) (bz t)).1=bz t):=by
 obtain⟨_,u2,u3,_⟩:=gs_use (t:=t) h;have hp:=jcs (pD (bz s)).toNat;rw[rdV,if_pos h];split
 ·split
  ·rename_i h1;exact⟨by dsimp only;omega,fun q=>by dsimp only at q;omega,fun _=>h1⟩
  ·split
   ·rename_i h1;exact⟨by dsimp only;omega,fun _=>h1.1,fun _=>h1.2.2⟩
   ·exact⟨by dsimp only;omega,fun q=>by dsimp only at q;omega,fun q=>by cases q⟩
 ·exact⟨by dsimp only;omega,fun q=>by dsimp only at q;omega,fun q=>by cases q⟩
end Go.Px
end
noncomputable section
set_option maxHeartbeats 3200000
namespace Go.Cx
open Go Go.Ab Go.Proofs Go.Shelf Go.Px Go.Cv
open Go.Fx (Ty Vl check jbd most base pw bnd Fit fits tv vv tup V0 T0 jbe jbh ja6 jbt str0 scl cutN cutC InB)
theorem fit0{v:Vl}{t:Ty}:fit4 v t=0↔chk4 t=0∧is4 v t=true:=by
 unfold fit4;split
 ·rename_i h;exact⟨fun q=>absurd q h,fun q=>absurd q.1 h⟩
 ·rename_i h;have h:chk4 t=0:=by simpa using h
  split
  ·rename_i g;exact⟨fun _=>⟨h,g⟩,fun _=>rfl⟩
  ·rename_i g;exact⟨fun q=>absurd q (by decide),fun q=>absurd q.2 g⟩
theorem jnr{t:Ty}(h:chk4 t=0)(h1:t.k=1∨t.k=2):jbd t:=by
 unfold chk4 at h;split at h
 ·assumption
 ·rw[if_neg (by omega),if_neg (by omega),if_neg (by omega),if_neg (by omega)]at h;cases h
theorem chk_p{t:Ty}(h:chk4 t=0)(h1:t.k=5):vOK (bz t.s)=true:=(k5_of h (by omega) (by omega) (by omega) (by omega)).2
theorem fill_n(l:J)(n:Nat)(c:Int):(jfw l n c).length=n:=by
 unfold jfw;rw[List.length_append,List.length_take,List.length_replicate];omega
theorem fi_size(s:Y)(n c:Int):(fiU s n c).size=n.toNat:=by rw[fiU,jcy,fill_n]
theorem tkU_num{n q:Int}{t:Ty}(hv:jbd t)(hn: -2147483648≤n∧n≤2147483648)(hq:0≤q∧q≤9):tkU (numA n q) t=(cutN (scl n (t.q-q)) t,cutC (scl n (t.q-q)) t 1,0):=by
 have hm:0≤(if n<0 then -n else n)∧(if n<0 then -n else n)≤2147483648:=by split<;>omega
 obtain⟨d1,d2⟩:=ji6 hm;have dl:=jd9 hm;have hN:=jgp (g:=decide (n<0)) (q:=q) d1 (by omega) (by omega);have hD:jbm (numA n q).2.1=true:=(jdz hN).2.1;unfold tkU;rw[jdf (jjl hD)];exact tk_num hv hn hq
theorem tkU_same{n q:Int}{t:Ty}(hv:jbd t)(hq:q=t.q)(h:InB n t):tkU (numA n q) t=(n,0,0):=by
 have hb:=Fx.bnd_range hv;have hq9:=hv.2.2.2;obtain⟨h1,h2⟩:=h
 have hm:0≤t.q∧t.q≤9:=by
  obtain⟨hk,-,h4,h5,h6,h7,-⟩:=hv;unfold most at h4;rcases hk with hk | hk
  ·rw[if_pos hk]at h4;omega
  ·have:=h7 hk;omega
 rw[tkU_num hv (by omega) (by omega),hq,Int.sub_self];have e:scl n 0=n:=by unfold scl;rw[if_pos (show(0:Int)≤0 from Int.le_refl 0),jbe _ (Int.le_refl 0),Int.mul_one]
 rw[e];unfold cutN cutC;rw[if_pos ⟨h1,h2⟩,if_pos ⟨h1,h2⟩]
end Go.Cx
end
noncomputable section
set_option maxHeartbeats 3200000
namespace Go.Cx
open Go Go.Ab Go.Proofs Go.Shelf Go.Px Go.Cv
open Go.Fx (Ty Vl check jbd most base pw bnd Fit fits tv vv tup V0 T0 jbe jbh ja6 jbt str0)
end Go.Cx
end
noncomputable section
set_option maxHeartbeats 3200000
namespace Go.Cx
open Go Go.Ab Go.Proofs Go.Shelf Go.Px Go.Cv
open Go.Fx (Ty Vl check jbd most base pw bnd Fit fits tv vv tup V0 T0 jbe jbh ja6 jbt str0 scl cutN cutC InB)
theorem ty_pic{p:Y}(h:pN (bz p)=true):tyK (bz p)=1∧tyP (bz p)=pD (bz p):=by
 have hk:=jc4 h;unfold tyK tyP;rw[if_pos hk,if_pos hk,if_pos h,if_pos h];exact⟨rfl,rfl⟩
theorem bnd_pic{p:Y}(h:pN (bz p)=true):bnd (pT p)=tenZ (pD (bz p)).toNat:=by
 unfold bnd;show pw (base (tyK (bz p))) (tyP (bz p))=_;rw[(ty_pic h).1,(ty_pic h).2];rfl
def pc(c:Int):Prop:=c=57∨c=90∨c=83∨c=45
def pl:J→J→Prop
 | [],_=>True
 | m::r,sp=>((m=100∧sp.headD 0=57)∨m=99∨(m=115∧(sp.headD 0=83∨sp.headD 0=45)))∧pl r sp.tail
theorem jm2(dr:Int):∀(l:J)(seen:Bool),(∀c∈l,pc c)→pl (mkGo dr seen l) l
 | [],_,_=>trivial
 | c::r,seen,h=>by
  refine⟨?_,jm2 dr r _ fun x hx=>h x (List.mem_cons_of_mem _ hx)⟩;show(mk1 dr seen c=100∧c=57)∨mk1 dr seen c=99∨(mk1 dr seen c=115∧(c=83∨c=45))
  rcases h c (List.mem_cons_self ..)with rfl | rfl | rfl | rfl
  ·exact .inl ⟨rfl,rfl⟩
  ·exact .inr (.inl rfl)
  ·unfold mk1;cases(dr !=0&& ((83:Int)==dr&&seen)) <;>simp[hasZ]
  ·unfold mk1;cases(dr !=0&& ((45:Int)==dr&&seen)) <;>simp[hasZ]
theorem jiw{c:Int}(h:c=83∨c=45)(neg:Bool):sgZ c neg=if neg=true then 45 else if c=83 then 43 else 32:=by
 rcases h with rfl | rfl<;>cases neg<;>rfl
theorem isP_100:isP 100=true:=rfl
theorem jhx:isP 115=false:=rfl
theorem jd0{le dr m c d o:Int}{neg:Bool}(hdr:dr=0∨dr=83∨dr=45)(hm:(m=100∧c=57)∨m=99∨(m=115∧(c=83∨c=45))):
  celZ le 32 dr neg m c d o=if dr≠0∧o=le-1 then sgZ dr neg else if m=100 then d else if m=99 then(if o<le then 32 else d)else if dr≠0∧c=dr then 32 else sgZ c neg:=by
 unfold celZ;by_cases h0:dr=0
 ·subst h0;rw[if_neg (fun q=>q.1 rfl)];show cel0 le 32 0 neg m c d o=_;unfold cel0;rcases hm with⟨rfl,rfl⟩ | rfl | ⟨rfl,h⟩
  ·rfl
  ·rw[if_neg (by decide),if_pos rfl];show(bif decide (o<le)then(32:Int)else d)=_;by_cases h:o<le
   ·rw[jaa h,if_pos h];rfl
   ·rw[jad h,if_neg h];rfl
  ·rw[if_neg (by decide),if_neg (by decide),if_neg (fun q=>q.1 rfl)];rcases h with rfl | rfl<;>rfl
 ·have e:(dr !=0)=true:=bne_iff_ne.2 h0;rw[e,Bool.true_and];by_cases h1:o=le-1
  ·rw[if_pos ⟨h0,h1⟩,beq_iff_eq.2 h1];rfl
  ·rw[if_neg (fun q=>h1 q.2),beq_eq_false_iff_ne.2 h1];show cel0 le 32 dr neg m c d o=_;unfold cel0;rcases hm with⟨rfl,rfl⟩ | rfl | ⟨rfl,h⟩
   ·rfl
   ·rw[if_neg (by decide),if_pos rfl];show(bif decide (o<le)then(32:Int)else d)=_;by_cases h:o<le
    ·rw[jaa h,if_pos h];rfl
    ·rw[jad h,if_neg h];rfl
   ·rw[if_neg (by decide),if_neg (by decide)];show ssZ c dr neg=_;unfold ssZ;rw[e,Bool.true_and];by_cases hc:c=dr
    ·rw[beq_iff_eq.2 hc,if_pos ⟨h0,hc⟩];rfl
    ·rw[beq_eq_false_iff_ne.2 hc,if_neg (fun q=>hc q.2)];rcases h with rfl | rfl<;>rfl
theorem jf2(le fill dr:Int)(neg:Bool){m:Int}(r sp ds:J)(o:Int)(h:m≠118):
  fsGo le fill dr neg (m::r) sp ds o=celZ le fill dr neg m (sp.headD 0) (ds.headD 0) o::fsGo le fill dr neg r sp.tail (bif isP m then ds.tail else ds) (o+1):=by
 rw[fsGo,beq_eq_false_iff_ne.2 h];rfl
theorem jmj{c:Int}(h:c=83∨c=45)(neg:Bool):dig (sgZ c neg)=false:=by rcases h with rfl | rfl<;>cases neg<;>rfl
theorem hd_tk{ds:J}{k:Nat}(h:k+1≤ds.length):ds.take (k+1)=ds.headD 0::ds.tail.take k:=by
 cases ds with
 | nil=>simp at h
 | cons a r=>rfl
theorem jgh{ds:J}(h:dgL ds=true)(hl:1≤ds.length):dig (ds.headD 0)=true∧dgL ds.tail=true:=by
 cases ds with
 | nil=>simp at hl
 | cons a r=>
  simp only[dgL,List.all_cons,jaf]at h;exact⟨h.1,h.2⟩
theorem jnl{le dr:Int}{neg:Bool}(hdr:dr=0∨dr=83∨dr=45):∀(ms sp ds:J)(o:Int),pl ms sp→dgL ds=true→pdGo ms≤ds.length→ldOK le ms ds o→
  ∃k,ds.take (pdGo ms).toNat=rep48 k++(fsGo le 32 dr neg ms sp ds o).filter dig∧(le≤o→k=0)
 | [],sp,ds,o,_,_,_,_=>⟨0,by simp[pdGo,fsGo,rep48],fun _=>rfl⟩
 | m::r,sp,ds,o,hp,hd,hl,hle=>by
  obtain⟨hm,hp⟩:=hp;obtain⟨hz,hle⟩:=hle;have n118:m≠118:=by rcases hm with⟨rfl,_⟩ | rfl | ⟨rfl,_⟩ <;>decide
  have ec:=jd0 (le:=le) (d:=ds.headD 0) (o:=o) (neg:=neg) hdr hm;have hsg:dr≠0→dig (sgZ dr neg)=false:=fun h=>jmj (hdr.resolve_left h) neg
  rw[jf2 _ _ _ _ _ _ _ _ n118,ec,List.filter_cons]
  have pr:0≤pdGo r:=by
   have:∀l:J,0≤pdGo l:=fun l=>by
    induction l with
    | nil=>simp[pdGo]
    | cons a l ih=>rw[pdGo];cases isP a<;>simp<;>omega
   exact this r
  rw[beq_eq_false_iff_ne.2 n118,cond_false]at hle
  have case9:isP m=true→(m=99∨m=100)→ ∃k,ds.take (pdGo (m::r)).toNat=rep48 k++(if dig (if dr≠0∧o=le-1 then sgZ dr neg else if m=100 then ds.headD 0 else if m=99 then(if o<le then 32 else ds.headD 0)else if dr≠0∧sp.headD 0=dr then 32 else sgZ (sp.headD 0) neg)=true then(if dr≠0∧o=le-1 then sgZ dr neg else if m=100 then ds.headD 0 else if m=99 then(if o<le then 32 else ds.headD 0)else if dr≠0∧sp.headD 0=dr then 32 else sgZ (sp.headD 0) neg)::(fsGo le 32 dr neg r sp.tail (bif isP m then ds.tail else ds) (o+1)).filter dig else(fsGo le 32 dr neg r sp.tail (bif isP m then ds.tail else ds) (o+1)).filter dig)∧(le≤o→k=0):=fun hP h9=>by
   rw[hP,cond_true]at hle ⊢;rw[pdGo,hP,cond_true]at hl ⊢;have hl1:1≤ds.length:=by omega
   obtain⟨d1,d2⟩:=jgh hd hl1;obtain⟨k,e1,e2⟩:=jnl (neg:=neg) hdr r sp.tail ds.tail (o+1) hp d2 (by rw[List.length_tail];omega) hle
   have et:ds.take (1+pdGo r).toNat=ds.headD 0::ds.tail.take (pdGo r).toNat:=by
    rw[show(1+pdGo r).toNat=(pdGo r).toNat+1 by omega];exact hd_tk (by omega)
   rw[et,e1];by_cases ho:o<le
   ·obtain⟨z1,z2⟩:=hz ho;have h99:m=99:=by omega
    have hx:dig (if dr≠0∧o=le-1 then sgZ dr neg else if m=100 then ds.headD 0 else if m=99 then(if o<le then 32 else ds.headD 0)else if dr≠0∧sp.headD 0=dr then 32 else sgZ (sp.headD 0) neg)=false:=by
     split
     ·rename_i q;exact hsg q.1
     ·first | rfl | (rw[if_neg (by omega),if_pos h99,if_pos ho];rfl)
    rw[hx,if_neg (by decide),z2 h99];exact⟨k+1,rfl,fun q=>by omega⟩
   ·have k0:=e2 (by omega);subst k0
    have hx:(if dr≠0∧o=le-1 then sgZ dr neg else if m=100 then ds.headD 0 else if m=99 then(if o<le then 32 else ds.headD 0)else if dr≠0∧sp.headD 0=dr then 32 else sgZ (sp.headD 0) neg)=ds.headD 0:=by
     rw[if_neg (by omega)];rcases h9 with h | h
     ·rw[if_neg (by omega),if_pos h,if_neg ho]
     ·rw[if_pos h]
    rw[hx,d1,if_pos rfl];exact⟨0,rfl,fun _=>rfl⟩
  rcases hm with⟨rfl,_⟩ | rfl | ⟨rfl,hc⟩
  ·exact case9 rfl (.inr rfl)
  ·exact case9 rfl (.inl rfl)
  ·rw[jhx,cond_false]at hle ⊢;rw[pdGo,jhx,cond_false,Int.zero_add]at hl ⊢;obtain⟨k,e1,e2⟩:=jnl (neg:=neg) hdr r sp.tail ds (o+1) hp hd hl hle
   have hx:dig (if dr≠0∧o=le-1 then sgZ dr neg else if(115:Int)=100 then ds.headD 0 else if(115:Int)=99 then(if o<le then 32 else ds.headD 0)else if dr≠0∧sp.headD 0=dr then 32 else sgZ (sp.headD 0) neg)=false:=by
    split
    ·rename_i q;exact hsg q.1
    ·rw[if_neg (by decide),if_neg (by decide)];split
     ·rfl
     ·exact jmj hc neg
   rw[hx,if_neg (by decide)];exact⟨k,e1,fun q=>e2 (by omega)⟩
def okc(neg:Bool)(x:Int):Prop:=dig x=true∨x=32∨(neg=true∧x=45)∨(neg=false∧x=43)
theorem sg_okc{c:Int}(h:c=83∨c=45)(neg:Bool):okc neg (sgZ c neg):=by
 rw[jiw h];cases neg with
 | true=>exact .inr (.inr (.inl ⟨rfl,rfl⟩))
 | false=>
  rw[if_neg (by decide)];split
  ·exact .inr (.inr (.inr ⟨rfl,rfl⟩))
  ·exact .inr (.inl rfl)
theorem jnm{le dr:Int}{neg:Bool}(hdr:dr=0∨dr=83∨dr=45):∀(ms sp ds:J)(o:Int),pl ms sp→dgL ds=true→pdGo ms≤ds.length→ ∀x∈fsGo le 32 dr neg ms sp ds o,okc neg x
 | [],_,_,_,_,_,_,x,hx=>by cases hx
 | m::r,sp,ds,o,hp,hd,hl,x,hx=>by
  obtain⟨hm,hp⟩:=hp;have n118:m≠118:=by rcases hm with⟨rfl,_⟩ | rfl | ⟨rfl,_⟩ <;>decide
  have ec:=jd0 (le:=le) (d:=ds.headD 0) (o:=o) (neg:=neg) hdr hm
  have pr:0≤pdGo r:=by
   have:∀l:J,0≤pdGo l:=fun l=>by
    induction l with
    | nil=>simp[pdGo]
    | cons a l ih=>rw[pdGo];cases isP a<;>simp<;>omega
   exact this r
  rw[jf2 _ _ _ _ _ _ _ _ n118,ec]at hx;rw[pdGo]at hl;have hP:isP m=true→1≤ds.length:=fun h=>by rw[h,cond_true]at hl;omega
  rcases List.mem_cons.1 hx with rfl | hx
  ·split
   ·rename_i q;exact sg_okc (hdr.resolve_left q.1) neg
   split
   ·rename_i q;exact .inl (jgh hd (hP (by rw[q];rfl))).1
   split
   ·rename_i q;split
    ·exact .inr (.inl rfl)
    ·exact .inl (jgh hd (hP (by rw[q];rfl))).1
   split
   ·exact .inr (.inl rfl)
   ·rename_i a b _;exact sg_okc (hm.elim (fun h=>absurd h.1 a) fun h=>h.elim (fun h=>absurd h b) And.right) neg
  ·cases hPm:isP m with
   | true=>
    rw[hPm,cond_true]at hx hl;exact jnm hdr r sp.tail ds.tail (o+1) hp (jgh hd (hP hPm)).2 (by rw[List.length_tail];omega) x hx
   | false=>
    rw[hPm,cond_false]at hx hl;exact jnm hdr r sp.tail ds (o+1) hp hd (by omega) x hx
theorem fs_m1{le dr:Int}(hdr:dr=83∨dr=45):∀(ms sp ds:J)(o:Int),pl ms sp→o≤le-1→le-1<o+ms.length→45∈fsGo le 32 dr true ms sp ds o
 | [],_,_,_,_,h1,h2=>by simp at h2;omega
 | m::r,sp,ds,o,hp,h1,h2=>by
  obtain⟨hm,hp⟩:=hp;have n118:m≠118:=by rcases hm with⟨rfl,_⟩ | rfl | ⟨rfl,_⟩ <;>decide
  rw[jf2 _ _ _ _ _ _ _ _ n118,jd0 (.inr hdr) hm];by_cases h:o=le-1
  ·rw[if_pos ⟨by omega,h⟩,jiw hdr,if_pos rfl];exact List.mem_cons_self ..
  ·exact List.mem_cons_of_mem _ (fs_m1 hdr r _ _ (o+1) hp (by omega) (by rw[List.length_cons]at h2;omega))
theorem fs_m0{le:Int}:∀(ms sp ds:J)(o:Int),pl ms sp→115∈ms→45∈fsGo le 32 0 true ms sp ds o
 | [],_,_,_,_,h=>by cases h
 | m::r,sp,ds,o,hp,h=>by
  obtain⟨hm,hp⟩:=hp;have n118:m≠118:=by rcases hm with⟨rfl,_⟩ | rfl | ⟨rfl,_⟩ <;>decide
  rw[jf2 _ _ _ _ _ _ _ _ n118,jd0 (.inl rfl) hm];by_cases hq:m=115
  ·have hc:sp.headD 0=83∨sp.headD 0=45:=by
    rcases hm with⟨q,_⟩ | q | ⟨_,q⟩
    ·omega
    ·omega
    ·exact q
   rw[if_neg (fun q=>q.1 rfl),if_neg (by omega),if_neg (by omega),if_neg (fun q=>q.1 rfl),jiw hc,if_pos rfl];exact List.mem_cons_self ..
  ·exact List.mem_cons_of_mem _ (fs_m0 r _ _ (o+1) hp ((List.mem_cons.1 h).resolve_left fun q=>hq q.symm))
theorem jfv{c:Int}:∀{l:J},c∉l→Cv.ahead c l=l
 | [],_=>rfl
 | a::r,h=>by
  have h1:a≠c:=fun q=>h (q▸List.mem_cons_self ..)
  have h2:c∉r:=fun q=>h (List.mem_cons_of_mem _ q)
  unfold Cv.ahead;rw[List.takeWhile_cons,show(a !=c)=true from bne_iff_ne.2 h1,if_pos rfl];exact congrArg (a:: ·) (jfv h2)
theorem past_none{c:Int}{l:J}(h:c∉l):past c l=none:=by
 rw[jhs,jfv h,if_neg (Nat.lt_irrefl _)]
theorem jl5{neg:Bool}{l:J}(h:∀x∈l,okc neg x){c:Int}(hc:c=66∨c=69∨c=46):c∉l:=fun q=>by
 rcases h c q with h | h | ⟨_,h⟩ | ⟨_,h⟩
 ·rcases hc with rfl | rfl | rfl<;>cases h
 ·omega
 ·omega
 ·omega
theorem jmr{g neg:Bool}{l:J}{x:Num}(h:∀x∈l,okc neg x)(hx:bodR ja4 binD g l=some x):jbm l=true∧x=ja4 g l 0:=by
 unfold bodR at hx;rw[if_neg (fun q=>jl5 h (.inl rfl) (List.mem_of_getLast? q.2)),decR_eq]at hx;have e9:=jl5 h (.inr (.inl rfl));have e6:=jl5 h (.inr (.inr rfl));rw[show decE l=some 0 by unfold decE;rw[past_none e9],jfv e9]at hx;have hx:decB g l 0=some x:=hx;unfold decB at hx;rw[jfv e6,past_none e6]at hx;split at hx
 ·rename_i q;cases hx;refine⟨q.2.1,?_⟩;simp
 ·cases hx
theorem jge{l:J}(h:jbm l=true):l.filter dig=l:=List.filter_eq_self.2 fun x hx=>List.all_eq_true.1 h x hx
theorem jjd{l:J}(h:l.all (· ==32)=true):l.filter dig=[]:=by
 rw[List.filter_eq_nil_iff];intro x hx;have:x=32:=by simpa using List.all_eq_true.1 h x hx
 rw[this];decide
theorem read_T{T:J}{neg:Bool}(hc:∀x∈T,okc neg x)(hn:neg=true→45∈T){x:Num}(hx:rdN T=some x):x=ja4 neg (T.filter dig) 0:=by
 unfold rdN at hx;split at hx
 ·cases hx
 unfold numR at hx;have s1:∃a:J,a.all (· ==32)=true∧T=a++trL T:=⟨T.takeWhile (· ==32),List.all_takeWhile,(List.takeWhile_append_dropWhile).symm⟩
 obtain⟨a,a1,a2⟩:=s1;obtain⟨b,b1,b2,-⟩:=trR_spec (trL T);have eT:T=a++(trR (trL T)++b):=by rw[←b2];exact a2
 generalize trR (trL T)=u at*;have hf:T.filter dig=u.filter dig:=by rw[eT,List.filter_append,List.filter_append,jjd a1,jjd b1,List.nil_append,List.append_nil]
 have hu:∀x∈u,okc neg x:=fun x h=>hc x (by rw[eT];exact List.mem_append_right _ (List.mem_append_left _ h))
 have hnu:neg=true→45∈u:=fun h=>by
  have:=hn h;rw[eT]at this;rcases List.mem_append.1 this with h | h
  ·have:=List.all_eq_true.1 a1 _ h;simp at this
  ·rcases List.mem_append.1 h with h | h
   ·exact h
   ·have:=List.all_eq_true.1 b1 _ h;simp at this
 rw[hf];unfold sgnR at hx;split at hx
 ·cases hx;cases neg with
  | true=>cases hnu rfl
  | false=>rfl
 ·rename_i l _
  have hneg:neg=true:=by
   rcases hu 45 (List.mem_cons_self ..)with h | h | ⟨h,_⟩ | ⟨_,h⟩
   ·cases h
   ·omega
   ·exact h
   ·omega
  obtain⟨d1,d2⟩:=jmr (fun x h=>hu x (List.mem_cons_of_mem _ h)) hx;rw[d2,hneg,List.filter_cons,if_neg (by decide),jge d1]
 ·rename_i l _
  have hneg:neg=false:=by
   rcases hu 43 (List.mem_cons_self ..)with h | h | ⟨_,h⟩ | ⟨h,_⟩
   ·cases h
   ·omega
   ·omega
   ·exact h
  obtain⟨d1,d2⟩:=jmr (fun x h=>hu x (List.mem_cons_of_mem _ h)) hx;rw[d2,hneg,List.filter_cons,if_neg (by decide),jge d1]
 ·obtain⟨d1,d2⟩:=jmr hu hx
  have hneg:neg=false:=by
   cases neg with
   | true=>
    have:=List.all_eq_true.1 d1 45 (hnu rfl);cases this
   | false=>rfl
  rw[d2,hneg,jge d1]
theorem tk_dig{g:Bool}{D:J}{t:Ty}(hv:jbd t)(hq:t.q=0)(hD:jbm D=true)(hl:D.length≤300)(hm:decG D 0<bnd t):
  tkU (ja4 g D 0) t=(if g=true then -decG D 0 else decG D 0,0,0):=by
 have hN:=jgp (g:=g) (q:=0) hD hl (by omega);have hd:=(jdz hN).2.1;have hV:=norm_val (g:=g) (q:=0) (Q:=t.q) hD;have hb:=(Fx.bnd_range hv).1;unfold tkU;rw[jdf (jjl hd)];unfold tkV;rw[hN,if_neg (by decide),if_neg (by simpa using hv)];unfold tkR;have hp:=jer (c:=(ja4 g D 0).2.2) (q:=t.q) hd;rw[jk7 (by omega) _ _ _ hp (by omega),jly (by omega) _ _ _ hp (by omega),hV,hq]
 have e:shf (decG D 0) (0-0)=decG D 0:=by
  unfold shf;simp
 rw[e,Int.emod_eq_of_lt (jjo _ hD) hm,if_pos hm];have hs:=jkl (g:=g) (l:=D) (q:=0);rw[hs];cases g with
 | false=>simp
 | true=>
  by_cases h0:nz D=[]
  ·have:decG D 0=0:=by
    obtain⟨k,e1,-⟩:=jl6 D;rw[e1,h0];simp[decG]
   rw[this];simp
  ·simp[h0]
theorem num_dec:∀(l:J)(a:Int),numZ l a=decG l a
 | [],_=>rfl
 | c::r,a=>by
  rw[numZ,decG,num_dec r];congr 1;omega
theorem dec_rep0:∀(k:Nat)(D:J),decG (rep48 k++D) 0=decG D 0
 | 0,_=>rfl
 | k+1,D=>by
  have:rep48 (k+1)++D=48::(rep48 k++D):=rfl;rw[this,decG];exact dec_rep0 k D
theorem drGo_in(s:J):∀l:J,drGo s l=0∨(drGo s l∈l∧hasZ [36,83,43,45] (drGo s l)=true∧2≤cntZ s (drGo s l))
 | []=> .inl rfl
 | c::r=>by
  unfold drGo;split
  ·rename_i h;exact .inr ⟨List.mem_cons_self ..,h.1,h.2⟩
  ·rcases drGo_in s r with h | h
   ·exact .inl h
   ·exact .inr ⟨List.mem_cons_of_mem _ h.1,h.2⟩
theorem jey{s:J}(h:∀c∈s,pc c):drZ s=0∨(2≤cntZ s (drZ s)∧drZ s∈s∧(drZ s=83∨drZ s=45)):=by
 rcases drGo_in s s with q | ⟨q1,q2,q3⟩
 ·exact .inl q
 ·refine .inr ⟨q3,q1,?_⟩;have:=jlh.1 q2;rcases h _ q1 with p | p | p | p<;>(have e:drZ s=drGo s s:=rfl;omega)
theorem cr_plain{s:J}(h:∀c∈s,pc c):crZ s=false:=by
 cases hc:crZ s with
 | false=>rfl
 | true=>
  exfalso;unfold crZ at hc;rw[jaf,Bool.or_eq_true]at hc;have key:∀a b:Int,s.drop (s.length-2)=[a,b]→pc b:=fun a b e=>h b (List.mem_of_mem_drop (i:=s.length-2) (by rw[e];simp))
  rcases hc.2 with e | e
  ·have:=key _ _ (jab e);unfold pc at this;omega
  ·have:=key _ _ (jab e);unfold pc at this;omega
theorem jce{s:J}(h:∀c∈s,pc c):jal s=s∧jas s=mkGo (drZ s) false s:=by
 have hc:=cr_plain h;have hb:jal s=s:=by unfold jal;rw[hc,if_neg (by decide)]
 refine⟨hb,?_⟩;unfold jas;rw[hc,if_neg (by decide),List.append_nil,hb]
theorem jj2{s:J}(h:∀c∈s,pc c){x:Int}(hx:x≠57∧x≠90∧x≠83∧x≠45):x∉s:=fun q=>by have:=h x q;unfold pc at this;omega
theorem jhz{s:J}{x:Int}(h:x∉s):hasZ s x=false:=by
 cases e:hasZ s x with
 | false=>rfl
 | true=>exact absurd (ja8.1 e) h
theorem jl7{c:Int}(hc:c=83∨c=45):∀(l:J)(seen:Bool),c∈l→115∈mkGo 0 seen l
 | [],_,h=>by cases h
 | a::r,seen,h=>by
  rw[mkGo];by_cases q:a=c
  ·subst q;have:mk1 0 seen a=115:=by rcases hc with rfl | rfl<;>rfl
   rw[this];exact List.mem_cons_self ..
  ·exact List.mem_cons_of_mem _ (jl7 hc r _ ((List.mem_cons.1 h).resolve_left fun z=>q z.symm))
theorem mk_len(dr:Int):∀(l:J)(seen:Bool),(mkGo dr seen l).length=l.length
 | [],_=>rfl
 | _::r,_=>by rw[mkGo,List.length_cons,List.length_cons,mk_len dr r]
structure PlP (p:Y):Prop where
 n:pN (bz p)=true
 c:∀c∈pS (bz p),pc c
theorem PlP.q{p:Y}(h:PlP p):pQ (bz p)=0:=by
 have hs:pS (bz p)=exZ (bz p):=by rw[pS,if_pos (jc4 h.n)]
 have hc:=h.c;rw[hs]at hc;unfold pQ;rw[if_pos h.n]
 have key:∀(ms:J)(i:Int),pqGo (exZ (bz p)) ms i=0:=fun ms=>by
  induction ms with
  | nil=>intro i;rfl
  | cons m r ih=>
   intro i;rw[pqGo,ih,jhz (fun q=>jj2 hc (x:=86) (by omega) (List.mem_of_mem_take q)),Bool.and_false];rfl
 exact key _ _
theorem PlP.field{p:Y}(h:PlP p)(n:Int):(fdBl (pS (bz p)) (pW (bz p)) (pD (bz p)).toNat n=true∧fdN (bz p) n=rep1 32 (pW (bz p)).toNat)∨
  (fdBl (pS (bz p)) (pW (bz p)) (pD (bz p)).toNat n = false ∧ fdN (bz p) n = fsGo (fdLe (pS (bz p)) (pW (bz p)) (pD (bz p)).toNat n) 32 (drZ (pS (bz p))) (decide (n<0)) (mkGo (drZ (pS (bz p))) false (pS (bz p))) (pS (bz p)) (digZ n.natAbs (pD (bz p)).toNat) 0 ∧
   (drZ (pS (bz p))≠0→1≤fdLe (pS (bz p)) (pW (bz p)) (pD (bz p)).toNat n∧fdLe (pS (bz p)) (pW (bz p)) (pD (bz p)).toNat n≤(pS (bz p)).length)):=by
 obtain⟨_,_,p3,p4,_,p6⟩:=jht (jdv p) h.n n;obtain⟨b1,b2⟩:=jce h.c;have hs:pS (bz p)=exZ (bz p):=by rw[pS,if_pos (jc4 h.n)]
 have hN:NumP (pS (bz p)):=by rw[hs];exact jfx h.n
 have hfl:fdFl (pS (bz p))=32:=by unfold fdFl;rw[jhz (jj2 h.c (by omega)),if_neg (by decide)]
 obtain⟨f1,f2⟩:=jjk hN;rw[b1]at f1 f2
 have hdr:fdDr (pS (bz p))=drZ (pS (bz p)):=by
  by_cases e:drZ (pS (bz p))=0
  ·rw[f2 e,e]
  ·exact(f1 e).1
 have hf:=field_fs p6;rw[hfl,hdr,b2]at hf;have e:fdN (bz p) n=jdk (pS (bz p)) (pW (bz p)) (pD (bz p)).toNat n:=rfl;cases hb:fdBl (pS (bz p)) (pW (bz p)) (pD (bz p)).toNat n with
 | true=>rw[hb,cond_true]at hf;exact .inl ⟨rfl,e.trans hf⟩
 | false=>
  rw[hb,cond_false]at hf;refine .inr ⟨rfl,e.trans hf,fun hd=> ?_⟩;unfold fdOK at p6;rw[hb,hdr,beq_eq_false_iff_ne.2 hd,Bool.false_or,Bool.false_or,jae,jej,jg0,b2]at p6;have hnv:nv (mkGo (drZ (pS (bz p))) false (pS (bz p)))≤(mkGo (drZ (pS (bz p))) false (pS (bz p))).length:=List.length_filter_le ..;rw[mk_len]at hnv;omega
theorem PlP.dec{p:Y}(h:PlP p){n:Int}(hn:(n.natAbs:Int)<tenZ (pD (bz p)).toNat):decG ((fdN (bz p) n).filter dig) 0=n.natAbs∧jbm ((fdN (bz p) n).filter dig)=true∧((fdN (bz p) n).filter dig).length≤32:=by
 have hD:jbm ((fdN (bz p) n).filter dig)=true:=List.all_eq_true.2 fun x hx=>(List.mem_filter.1 hx).2
 have hl:((fdN (bz p) n).filter dig).length≤32:=by
  have h1:=List.length_filter_le dig (fdN (bz p) n);have h2:=jks (jdv p) h.n n;have h3:=jj1 (s:=p);omega
 refine⟨?_,hD,hl⟩;obtain⟨_,_,p3,p4,_,p6⟩:=jht (jdv p) h.n n;obtain⟨b1,b2⟩:=jce h.c;have hpd:=jd5 h.n;rcases h.field n with⟨hb,e⟩ | ⟨hb,e,-⟩
 ·rw[e,fdBl_zero hb,jjd (by unfold rep1;exact List.all_eq_true.2 fun x hx=>by rw[List.eq_of_mem_replicate hx];rfl)];rfl
 ·have hdr:drZ (pS (bz p))=0∨drZ (pS (bz p))=83∨drZ (pS (bz p))=45:=by
   rcases jey h.c with q | q
   ·exact .inl q
   ·exact .inr q.2.2
  have hm:=ld_law (sp:=pS (bz p)) (w:=pW (bz p)) (k:=(pD (bz p)).toNat) (n:=n) (by rw[p3];omega);rw[b2]at hm p3;have hdl:(digZ n.natAbs (pD (bz p)).toNat).length=(pD (bz p)).toNat:=jcm _ _;obtain⟨k,e1,-⟩:=jnl (neg:=decide (n<0)) hdr _ _ (digZ n.natAbs (pD (bz p)).toNat) 0 (jm2 (drZ (pS (bz p))) (pS (bz p)) false h.c) (jdc _ _) (by rw[p3,hdl];omega) hm;rw[←e]at e1;have ev:=jhb (pD (bz p)).toNat n.natAbs (by omega);rw[Int.emod_eq_of_lt (by omega) hn]at ev;rw[p3,List.take_of_length_le (by rw[hdl];omega)]at e1;have:decG (digZ n.natAbs (pD (bz p)).toNat) 0=n.natAbs:=by rw[←num_dec];exact ev
  rw[e1,dec_rep0]at this;exact this
theorem PlP.read{p:Y}(h:PlP p){n:Int}(hn:(n.natAbs:Int)<tenZ (pD (bz p)).toNat)(hg:n<0→pG (bz p)=true){x:Num}(hx:rdN (fdN (bz p) n)=some x):tkU x (pT p)=(n,0,0):=by
 obtain⟨d1,d2,d3⟩:=h.dec hn;obtain⟨_,_,p3,p4,_,p6⟩:=jht (jdv p) h.n n;obtain⟨b1,b2⟩:=jce h.c;have hs:pS (bz p)=exZ (bz p):=by rw[pS,if_pos (jc4 h.n)]
 have hdr:drZ (pS (bz p))=0∨drZ (pS (bz p))=83∨drZ (pS (bz p))=45:=by
  rcases jey h.c with q | q
  ·exact .inl q
  ·exact .inr q.2.2
 have hpl:=jm2 (drZ (pS (bz p))) (pS (bz p)) false h.c
 have key:x=ja4 (decide (n<0)) ((fdN (bz p) n).filter dig) 0:=by
  refine read_T (fun c hc=> ?_) (fun hneg=> ?_) hx
  ·rcases h.field n with⟨hb,e⟩ | ⟨hb,e,-⟩
   ·rw[e]at hc;exact .inr (.inl (List.eq_of_mem_replicate hc))
   ·rw[e]at hc;rw[b2]at p3;exact jnm hdr _ _ _ _ hpl (jdc _ _) (by rw[p3,jcm];have:=jd5 h.n;omega) c hc
  ·have hneg:n<0:=jab hneg;rcases h.field n with⟨hb,e⟩ | ⟨hb,e,hle⟩
   ·have:=fdBl_zero hb;omega
   ·rw[e,jaa hneg];by_cases h0:drZ (pS (bz p))=0
    ·have hsg:=hg hneg;unfold pG at hsg;rw[jaf,beq_iff_eq,←hs]at hsg;have hsg:=hsg.2;unfold jdh at hsg;have c0:∀y:Int,y∉pS (bz p)→(cntZ (pS (bz p)) y:Int)=0:=fun y hy=>by rw[jjs hy];rfl
     rw[cr_plain h.c,b1,jhz (jj2 h.c (x:=43) (by omega)),c0 84 (jj2 h.c (by omega)),c0 73 (jj2 h.c (by omega)),c0 82 (jj2 h.c (by omega))]at hsg
     have:(83∈pS (bz p))∨45∈pS (bz p):=by
      cases h8:hasZ (pS (bz p)) 83 with
      | true=>exact .inl (ja8.1 h8)
      | false=>
       cases h4:hasZ (pS (bz p)) 45 with
       | true=>exact .inr (ja8.1 h4)
       | false=>rw[h8,h4]at hsg;simp[b2i]at hsg
     rw[h0];refine fs_m0 _ _ _ _ (by rw[←h0];exact hpl) ?_;rcases this with q | q
     ·exact jl7 (.inl rfl) _ _ q
     ·exact jl7 (.inr rfl) _ _ q
    ·obtain⟨l1,l2⟩:=hle h0;exact fs_m1 (hdr.resolve_left h0) _ _ _ _ hpl (by omega) (by rw[mk_len];omega)
 rw[key,tk_dig (pT_v h.n).1 h.q d2 (by omega) (by rw[d1,bnd_pic h.n];exact hn),d1];congr 1;by_cases h0:n<0
 ·rw[jaa h0,if_pos rfl];omega
 ·rw[jad h0,if_neg (by decide)];omega
theorem pd_nn:∀l:J,0≤pdGo l
 | []=>by simp[pdGo]
 | a::l=>by have:=pd_nn l;rw[pdGo];cases isP a<;>simp<;>omega
def dm(ms:J):Prop:=∀m∈ms,m=100∨m=99
theorem dm_P{m:Int}(h:m=100∨m=99):isP m=true∧m≠118∧m≠115:=by rcases h with rfl | rfl<;>exact⟨rfl,by decide,by decide⟩
theorem fs_d{le dr:Int}{neg:Bool}(hdr:dr=0∨dr=83∨dr=45){m:Int}{r sp ds:J}{o:Int}(hp:pl (m::r) sp)(hm:m=100∨m=99):
  fsGo le 32 dr neg (m::r) sp ds o=(if dr≠0∧o=le-1 then sgZ dr neg else if m=100 then ds.headD 0 else if o<le then 32 else ds.headD 0)::fsGo le 32 dr neg r sp.tail ds.tail (o+1):=by
 obtain⟨h1,h2,h3⟩:=dm_P hm;rw[jf2 _ _ _ _ _ _ _ _ h2,jd0 hdr hp.1,h1,cond_true];congr 1;split
 ·rfl
 ·rcases hm with rfl | rfl
  ·rfl
  ·simp
theorem fs_z{le dr:Int}{neg:Bool}(hdr:dr=0∨dr=83∨dr=45):∀(ms sp ds:J)(o:Int),pl ms sp→dm ms→dgL ds=true→pdGo ms≤ds.length→le≤o→jbm (fsGo le 32 dr neg ms sp ds o)=true
 | [],_,_,_,_,_,_,_,_=>rfl
 | m::r,sp,ds,o,hp,hm,hd,hl,ho=>by
  have h1:=(dm_P (hm m (List.mem_cons_self ..))).1;have:=pd_nn r;rw[pdGo,h1,cond_true]at hl;obtain⟨d1,d2⟩:=jgh hd (by omega)
  have e:(if dr≠0∧o=le-1 then sgZ dr neg else if m=100 then ds.headD 0 else if o<le then 32 else ds.headD 0)=ds.headD 0:=by
   rw[if_neg (by omega)];split
   ·rfl
   ·rw[if_neg (by omega)]
  rw[fs_d hdr hp (hm m (List.mem_cons_self ..)),e];unfold jbm;rw[List.all_cons,d1];exact fs_z hdr r sp.tail ds.tail (o+1) hp.2 (fun x h=>hm x (List.mem_cons_of_mem _ h)) d2 (by rw[List.length_tail];omega) (by omega)
theorem fs_z0{le:Int}{neg:Bool}:∀(ms sp ds:J)(o:Int),pl ms sp→dm ms→dgL ds=true→pdGo ms≤ds.length→ldOK le ms ds o→ ∃(k:Nat)(D:J),fsGo le 32 0 neg ms sp ds o=rep1 32 k++D∧jbm D=true
 | [],_,_,_,_,_,_,_,_=>⟨0,[],rfl,rfl⟩
 | m::r,sp,ds,o,hp,hm,hd,hl,hle=>by
  by_cases ho:le≤o
  ·exact⟨0,_,rfl,fs_z (.inl rfl) _ _ _ _ hp hm hd hl ho⟩
  ·obtain⟨hz,hle⟩:=hle;have hm0:=hm m (List.mem_cons_self ..);obtain⟨h1,h2,_⟩:=dm_P hm0;have:=pd_nn r;rw[pdGo,h1,cond_true]at hl;obtain⟨d1,d2⟩:=jgh hd (by omega);rw[h1,cond_true,beq_eq_false_iff_ne.2 h2,cond_false]at hle;obtain⟨k,D,e,eD⟩:=fs_z0 r sp.tail ds.tail (o+1) hp.2 (fun x h=>hm x (List.mem_cons_of_mem _ h)) d2 (by rw[List.length_tail];omega) hle;refine⟨k+1,D,?_,eD⟩;rw[fs_d (.inl rfl) hp hm0,if_neg (fun q=>q.1 rfl),if_neg (hz (by omega)).1,if_pos (by omega),e,rep1,rep1,List.replicate_succ];rfl
theorem fs_zr{le dr:Int}{neg:Bool}(hdr:dr=83∨dr=45):∀(ms sp ds:J)(o:Int),pl ms sp→dm ms→dgL ds=true→pdGo ms≤ds.length→ldOK le ms ds o→o≤le-1→le-1<o+ms.length→
  ∃(k:Nat)(D:J),fsGo le 32 dr neg ms sp ds o=rep1 32 k++sgZ dr neg::D∧jbm D=true
 | [],_,_,_,_,_,_,_,_,h1,h2=>by simp at h2;omega
 | m::r,sp,ds,o,hp,hm,hd,hl,hle,ho,ho2=>by
  obtain⟨hz,hle⟩:=hle;have hm0:=hm m (List.mem_cons_self ..);obtain⟨h1,h2,_⟩:=dm_P hm0;have:=pd_nn r;rw[pdGo,h1,cond_true]at hl;obtain⟨d1,d2⟩:=jgh hd (by omega);rw[h1,cond_true,beq_eq_false_iff_ne.2 h2,cond_false]at hle;have hm':dm r:=fun x h=>hm x (List.mem_cons_of_mem _ h)
  have hl':pdGo r≤ds.tail.length:=by rw[List.length_tail];omega
  rw[fs_d (.inr hdr) hp hm0];by_cases h:o=le-1
  ·rw[if_pos ⟨by omega,h⟩];exact⟨0,_,rfl,fs_z (.inr hdr) _ _ _ _ hp.2 hm' d2 hl' (by omega)⟩
  ·obtain⟨k,D,e,eD⟩:=fs_zr hdr r sp.tail ds.tail (o+1) hp.2 hm' d2 hl' hle (by omega) (by rw[List.length_cons]at ho2;omega);refine⟨k+1,D,?_,eD⟩;rw[if_neg (fun q=>h q.2),if_neg (hz (by omega)).1,if_pos (by omega),e,rep1,rep1,List.replicate_succ];rfl
theorem jmg{le dr:Int}{neg:Bool}(hdr:dr=0∨dr=83∨dr=45):∀(ms sp ds:J)(o:Int),pl ms sp→dgL ds=true→pdGo ms≤ds.length→ldOK le ms ds o→100∈ms→ ∃x∈fsGo le 32 dr neg ms sp ds o,dig x=true
 | [],_,_,_,_,_,_,_,h=>by cases h
 | m::r,sp,ds,o,hp,hd,hl,hle,h=>by
  obtain⟨hz,hle⟩:=hle;have n118:m≠118:=by rcases hp.1 with⟨rfl,_⟩ | rfl | ⟨rfl,_⟩ <;>decide
  have:=pd_nn r;rw[pdGo]at hl;rw[jf2 _ _ _ _ _ _ _ _ n118];rw[beq_eq_false_iff_ne.2 n118,cond_false]at hle;by_cases q:m=100
  ·subst q;rw[isP_100,cond_true]at hl;obtain⟨d1,d2⟩:=jgh hd (by omega);refine⟨_,List.mem_cons_self ..,?_⟩;have ho:¬o<le:=fun w=>(hz w).1 rfl
   rw[jd0 hdr hp.1,if_neg (by omega),if_pos rfl];exact d1
  ·have h':100∈r:=(List.mem_cons.1 h).resolve_left fun z=>q z.symm
   cases hP:isP m with
   | true=>
    rw[hP,cond_true]at hl hle;obtain⟨d1,d2⟩:=jgh hd (by omega);obtain⟨x,h1,h2⟩:=jmg hdr r sp.tail ds.tail (o+1) hp.2 d2 (by rw[List.length_tail];omega) hle h';exact⟨x,List.mem_cons_of_mem _ h1,h2⟩
   | false=>
    rw[hP,cond_false]at hl hle;obtain⟨x,h1,h2⟩:=jmg hdr r sp.tail ds (o+1) hp.2 hd (by omega) hle h';exact⟨x,List.mem_cons_of_mem _ h1,h2⟩
theorem rd_blank{k:Nat}(h:k≤255):∃x,rdN (rep1 32 k)=some x:=by
 have e:trL (rep1 32 k)=[]:=by
  unfold trL rep1;clear h
  induction k with
  | zero=>rfl
  | succ k ih=>rw[List.replicate_succ,List.dropWhile_cons,if_pos (show((32:Int)==32)=true from rfl),ih]
 refine⟨(false,[],0),?_⟩;unfold rdN numR;rw[if_neg (by rw[rep1,List.length_replicate];omega),e];rfl
theorem rd_sd{k:Nat}{sg D:J}(hs:sg=[45]∨sg=[43]∨sg=[]∨sg=[32])(hD:jbm D=true)(h0:D≠ [])(hl:k+sg.length+D.length≤255):∃x,rdN (rep1 32 k++(sg++D))=some x:=by
 have hb:∀j:Nat,(rep1 32 j).all (· ==32)=true:=fun j=>List.all_eq_true.2 fun x hx=>by rw[List.eq_of_mem_replicate hx];rfl
 have key:∀(j:Nat)(s:J)(g:Bool),((s=[45]∧g=true)∨(s=[43]∧g=false)∨(s=[]∧g=false))→j+s.length+D.length≤255→ ∃x,rdN (rep1 32 j++(s++D))=some x:=fun j s g h hlen=>by
  have:=ji0 (bl:=rep1 32 j) (br:=[]) (sg:=s) (w:=D) (pt:=[]) (p:=[]) (g:=g) (hb j) rfl h hD rfl (by simpa using h0) (.inr ⟨rfl,rfl⟩) (by simp only[List.length_append,List.length_nil,rep1,List.length_replicate];omega);simp only[List.append_nil]at this;exact⟨_,this⟩
 rcases hs with rfl | rfl | rfl | rfl
 ·exact key k _ true (.inl ⟨rfl,rfl⟩) hl
 ·exact key k _ false (.inr (.inl ⟨rfl,rfl⟩)) hl
 ·exact key k _ false (.inr (.inr ⟨rfl,rfl⟩)) hl
 ·have e:rep1 32 k++([32]++D)=rep1 32 (k+1)++([]++D):=by
   rw[rep1,rep1,List.replicate_succ',List.append_assoc];rfl
  rw[e];exact key (k+1) [] false (.inr (.inr ⟨rfl,rfl⟩)) (by simp at hl ⊢;omega)
def frS(s:J):Prop:=(∀c∈s,c=57∨c=90)∨(90∉s∧ ∃c r,s=c::r∧(c=83∨c=45))
theorem jku{s:J}:∀{l:J},drGo s l=0→ ∀c∈l,c=83∨c=45→cntZ s c<2
 | [],_,c,hc,_=>by cases hc
 | a::r,h,c,hc,h8=>by
  unfold drGo at h;split at h
  ·rename_i q;have:=jlh.1 q.1;omega
  ·rename_i q;rcases List.mem_cons.1 hc with rfl | hc
   ·apply Classical.byContradiction;intro w;exact q ⟨by rcases h8 with rfl | rfl<;>decide,by omega⟩
   ·exact jku h c hc h8
theorem cnt_two{c:Int}{r:J}(h:c∈r):2≤cntZ (c::r) c:=by
 have h1:1≤cntZ r c:=by
  unfold cntZ;exact List.length_pos_iff.2 (List.ne_nil_of_mem (List.mem_filter.2 ⟨h,by simp⟩))
 have:=jcg c c r;rw[if_pos rfl]at this;omega
theorem PlP.one{p:Y}(h:PlP p):¬(83∈pS (bz p)∧45∈pS (bz p)):=by
 rintro ⟨a,b⟩;have hs:pS (bz p)=exZ (bz p):=by rw[pS,if_pos (jc4 h.n)]
 have hN:NumP (pS (bz p)):=by rw[hs];exact jfx h.n
 have:=hN.sg;unfold jdh at this;rw[(jce h.c).1,ja8.2 a,ja8.2 b]at this;have nn:∀x:Bool,0≤b2i x:=fun x=>by cases x<;>simp[b2i]
 have n1:=nn (crZ (pS (bz p)));have n2:=nn (hasZ (pS (bz p)) 43);have n3:b2i true=1:=rfl;omega
theorem PlP.pd{p:Y}(h:PlP p):pdGo (mkGo (drZ (pS (bz p))) false (pS (bz p)))=pD (bz p):=by
 obtain⟨_,_,p3,_⟩:=jht (jdv p) h.n 0;rw[(jce h.c).2]at p3;exact p3
theorem pd_has:∀ms:J,1≤pdGo ms→100∈ms∨99∈ms
 | [],h=>by simp[pdGo]at h
 | m::r,h=>by
  rw[pdGo]at h;cases hm:isP m with
  | true=>
   rcases ji7.1 hm with rfl | rfl
   ·exact .inl (List.mem_cons_self ..)
   ·exact .inr (List.mem_cons_self ..)
  | false=>
   rw[hm,cond_false]at h;rcases pd_has r (by omega)with q | q
   ·exact .inl (List.mem_cons_of_mem _ q)
   ·exact .inr (List.mem_cons_of_mem _ q)
theorem PlP.blank{p:Y}(h:PlP p)(h100:100∉mkGo (drZ (pS (bz p))) false (pS (bz p))):fdBl (pS (bz p)) (pW (bz p)) (pD (bz p)).toNat 0=true:=by
 have hpd:=jd5 h.n;have h99:99∈mkGo (drZ (pS (bz p))) false (pS (bz p)):=(pd_has _ (by rw[h.pd];omega)).resolve_left h100
 have hw:0<pW (bz p):=by
  have h1:=jm1 h.n;rw[(jce h.c).2]at h1;have:0<nv (mkGo (drZ (pS (bz p))) false (pS (bz p))):=List.length_pos_iff.2 (List.ne_nil_of_mem (List.mem_filter.2 ⟨h99,by decide⟩));omega
 have e0:digZ ((0:Int).natAbs:Nat) (pD (bz p)).toNat=rep1 48 (pD (bz p)).toNat:=(jk9 (jcm _ _)).2 ((jjm (n:=0) (by have:=jcs (pD (bz p)).toNat;simpa using this)).2 rfl)
 have hle:fdLe (pS (bz p)) (pW (bz p)) (pD (bz p)).toNat 0=pW (bz p):=by
  unfold fdLe endZ;rw[(jce h.c).2,ja8.2 h99,jhz h100,e0,jaa rfl];rfl
 unfold fdBl;rw[hle,jaa hw,(jce h.c).2,jhz h100];simp
theorem PlP.ok{p:Y}(h:PlP p)(hb:frS (pS (bz p))){n:Int}(hn:(n.natAbs:Int)<tenZ (pD (bz p)).toNat):∃x,rdN (fdN (bz p) n)=some x:=by
 obtain⟨d1,d2,d3⟩:=h.dec hn;have hW:=jj1 (s:=p);have hpl:=jm2 (drZ (pS (bz p))) (pS (bz p)) false h.c;have hdl:(digZ n.natAbs (pD (bz p)).toNat).length=(pD (bz p)).toNat:=jcm _ _;have hpd:=jd5 h.n;have hm:=ld_law (sp:=pS (bz p)) (w:=pW (bz p)) (k:=(pD (bz p)).toNat) (n:=n) (by rw[(jce h.c).2,h.pd];omega);rw[(jce h.c).2]at hm;have hlen:=jks (jdv p) h.n n;rcases h.field n with⟨hbl,e⟩ | ⟨hbl,e,hle⟩
 ·rw[e];exact rd_blank (by omega)
 have hdr:drZ (pS (bz p))=0∨drZ (pS (bz p))=83∨drZ (pS (bz p))=45:=by
  rcases jey h.c with q | q
  ·exact .inl q
  ·exact .inr q.2.2
 -- some digit is shown
 have hD0:(fdN (bz p) n).filter dig≠ []:=by
  intro hD;rw[hD]at d1
  have hn0:n=0:=by
   have:decG [] 0=0:=rfl;omega
  by_cases h100:100∈mkGo (drZ (pS (bz p))) false (pS (bz p))
  ·obtain⟨x,h1,h2⟩:=jmg (neg:=decide (n<0)) hdr _ _ _ 0 hpl (jdc _ _) (by rw[h.pd,hdl];omega) hm h100;rw[←e]at h1;have:x∈(fdN (bz p) n).filter dig:=List.mem_filter.2 ⟨h1,h2⟩;rw[hD]at this;cases this
  ·rw[hn0,h.blank h100]at hbl;cases hbl
 have hrep:∀k:Nat,(rep1 32 k).filter dig=[]:=fun k=>jjd (List.all_eq_true.2 fun x hx=>by rw[List.eq_of_mem_replicate hx];rfl)
 rcases hb with hb | ⟨h90,c,r,hs,hc⟩
 ·have hd0:drZ (pS (bz p))=0:=by
   rcases jey h.c with q | ⟨-,q,q'⟩
   ·exact q
   ·have:=hb _ q;omega
  have hdm:dm (mkGo (drZ (pS (bz p))) false (pS (bz p))):=by
   rw[hd0]
   have key:∀(l:J)(sn:Bool),(∀c∈l,c=57∨c=90)→dm (mkGo 0 sn l):=fun l=>by
    induction l with
    | nil=>intro sn _ m hm;cases hm
    | cons a l ih=>
     intro sn hl m hm;rw[mkGo]at hm;rcases List.mem_cons.1 hm with rfl | hm
     ·rcases hl a (List.mem_cons_self ..)with rfl | rfl
      ·exact .inl rfl
      ·exact .inr rfl
     ·exact ih _ (fun c hc=>hl c (List.mem_cons_of_mem _ hc)) m hm
   exact key _ _ hb
  rw[hd0]at e hdm hpl hm;have hpd':=h.pd;rw[hd0]at hpd';obtain⟨k,D,e1,eD⟩:=fs_z0 (neg:=decide (n<0)) _ _ (digZ n.natAbs (pD (bz p)).toNat) 0 hpl hdm (jdc _ _) (by rw[hpd',hdl];omega) hm;rw[←e]at e1;rw[e1,List.filter_append,hrep,List.nil_append,jge eD]at hD0;rw[e1]at hlen ⊢;exact rd_sd (sg:=[]) (.inr (.inr (.inl rfl))) eD hD0 (by rw[List.length_append,rep1,List.length_replicate]at hlen;simp;omega)
 ·have hcs:c∈pS (bz p):=by rw[hs];exact List.mem_cons_self ..
  -- what stands behind the sign
  have hr:∀x∈r,x=57∨(x=c∧drZ (pS (bz p))=c):=fun x hx=>by
   have hxs:x∈pS (bz p):=by rw[hs];exact List.mem_cons_of_mem _ hx
   rcases h.c x hxs with q | q | q | q
   ·exact .inl q
   ·exact absurd (q▸hxs) h90
   all_goals
    have hxc:x=c:=by
     apply Classical.byContradiction;intro w;have hne:(x=83∧c=45)∨(x=45∧c=83):=by omega
     rcases hne with⟨a,b⟩ | ⟨a,b⟩
     ·exact h.one ⟨a▸hxs,b▸hcs⟩
     ·exact h.one ⟨b▸hcs,a▸hxs⟩
    refine .inr ⟨hxc,?_⟩;have h2:2≤cntZ (pS (bz p)) c:=by rw[hs];exact cnt_two (hxc▸hx)
    rcases jey h.c with z | ⟨-,z,z'⟩
    ·have:=jku (s:=pS (bz p)) (l:=pS (bz p)) z c hcs hc;omega
    ·apply Classical.byContradiction;intro w;have hne:(drZ (pS (bz p))=83∧c=45)∨(drZ (pS (bz p))=45∧c=83):=by omega
     rcases hne with⟨a,b⟩ | ⟨a,b⟩
     ·exact h.one ⟨a▸z,b▸hcs⟩
     ·exact h.one ⟨b▸hcs,a▸z⟩
  have hsl:(pS (bz p)).length=r.length+1:=by rw[hs];rfl
  have em0:∀d:Int,mkGo d false (pS (bz p))=115::mkGo d (d !=0&&c==d) r:=fun d=>by
   rw[hs,mkGo]
   have:mk1 d false c=115:=by
    unfold mk1;rw[Bool.and_false,Bool.and_false];rcases hc with rfl | rfl<;>rfl
   rw[this,Bool.false_or]
  have em:=em0 (drZ (pS (bz p)))
  have hdm:dm (mkGo (drZ (pS (bz p))) (drZ (pS (bz p)) !=0&&c==drZ (pS (bz p))) r):=by
   have key:∀(l:J)(sn:Bool),(∀x∈l,x=57∨(x=c∧drZ (pS (bz p))=c))→(drZ (pS (bz p))=c→sn=true)→dm (mkGo (drZ (pS (bz p))) sn l):=fun l=>by
    induction l with
    | nil=>intro sn _ _ m hm;cases hm
    | cons a l ih=>
     intro sn hl hsn m hm;rw[mkGo]at hm;rcases List.mem_cons.1 hm with rfl | hm
     ·rcases hl a (List.mem_cons_self ..)with rfl | ⟨rfl,hd⟩
      ·exact .inl rfl
      ·rw[hsn hd,hd];rcases hc with rfl | rfl<;>exact .inr rfl
     ·exact ih _ (fun c hc=>hl c (List.mem_cons_of_mem _ hc)) (fun q=>by rw[hsn q];rfl) m hm
   refine key r _ hr fun q=> ?_
   rw[q];rcases hc with rfl | rfl<;>rfl
  have key2:∃(k:Nat)(D:J),fdN (bz p) n=rep1 32 k++(sgZ c (decide (n<0))::D)∧jbm D=true:=by
   rw[e,em];rw[em]at hm hpl;have hpd':=h.pd;rw[em,pdGo,jhx,cond_false,Int.zero_add]at hpd';have hm2:=hm.2;rw[jhx,cond_false,show((115:Int)==118)=false from rfl,cond_false]at hm2;rw[jf2 _ _ _ _ _ _ _ _ (by decide),jd0 hdr hpl.1,jhx,cond_false];have hsh:(pS (bz p)).headD 0=c:=by rw[hs];rfl
   rw[hsh];have hpr:pdGo (mkGo (drZ (pS (bz p))) (drZ (pS (bz p)) !=0&&c==drZ (pS (bz p))) r)≤(digZ n.natAbs (pD (bz p)).toNat).length:=by rw[hpd',hdl];omega
   by_cases h0:drZ (pS (bz p))=0
   ·have h99:hasZ (jas (pS (bz p))) 99=false:=by
     rw[(jce h.c).2,em,h0];refine jhz fun q=> ?_
     rcases List.mem_cons.1 q with q | q
     ·cases q
     ·have key:∀(l:J)(sn:Bool),(∀x∈l,x=57)→99∉mkGo 0 sn l:=fun l=>by
       induction l with
       | nil=>intro sn _ q;cases q
       | cons a l ih=>
        intro sn hl q;rw[mkGo]at q;rcases List.mem_cons.1 q with q | q
        ·rw[hl a (List.mem_cons_self ..)]at q;cases q
        ·exact ih _ (fun x hx=>hl x (List.mem_cons_of_mem _ hx)) q
      refine key r _ (fun x hx=> ?_) q;rcases hr x hx with z | ⟨z,z'⟩
      ·exact z
      ·omega
    have hl0:fdLe (pS (bz p)) (pW (bz p)) (pD (bz p)).toNat n=0:=by unfold fdLe endZ;rw[h99];rfl
    rw[hl0,if_neg (fun q=>q.1 h0),if_neg (by decide),if_neg (by decide),if_neg (fun q=>q.1 h0)];exact⟨0,_,rfl,fs_z hdr _ _ _ _ hpl.2 hdm (jdc _ _) hpr (by omega)⟩
   ·obtain⟨l1,l2⟩:=hle h0
    have hdc:drZ (pS (bz p))=c:=by
     rcases jey h.c with z | ⟨-,z,z'⟩
     ·exact absurd z h0
     ·apply Classical.byContradiction;intro w;have hne:(drZ (pS (bz p))=83∧c=45)∨(drZ (pS (bz p))=45∧c=83):=by omega
      rcases hne with⟨a,b⟩ | ⟨a,b⟩
      ·exact h.one ⟨a▸z,b▸hcs⟩
      ·exact h.one ⟨b▸hcs,a▸z⟩
    by_cases h1:fdLe (pS (bz p)) (pW (bz p)) (pD (bz p)).toNat n=1
    ·rw[if_pos ⟨h0,by omega⟩];exact⟨0,_,by rw[hdc];rfl,fs_z hdr _ _ _ _ hpl.2 hdm (jdc _ _) hpr (by omega)⟩
    ·rw[if_neg (fun q=>by omega),if_neg (by decide),if_neg (by decide),if_pos ⟨h0,hdc.symm⟩];obtain⟨k,D,e2,eD⟩:=fs_zr (le:=fdLe (pS (bz p)) (pW (bz p)) (pD (bz p)).toNat n) (neg:=decide (n<0)) (hdr.resolve_left h0) _ _ (digZ n.natAbs (pD (bz p)).toNat) (0+1) hpl.2 hdm (jdc _ _) hpr hm2 (by omega) (by rw[mk_len];omega);refine⟨k+1,D,?_,eD⟩;rw[e2,hdc,rep1,rep1,List.replicate_succ];rfl
  obtain⟨k,D,e1,eD⟩:=key2;have hsd:dig (sgZ c (decide (n<0)))=false:=jmj hc _;rw[e1,List.filter_append,hrep,List.nil_append,List.filter_cons,hsd,if_neg (by decide),jge eD]at hD0;rw[e1]at hlen ⊢;rw[List.length_append,rep1,List.length_replicate,List.length_cons]at hlen
  have hsg:[sgZ c (decide (n<0))]=[45]∨[sgZ c (decide (n<0))]=[43]∨[sgZ c (decide (n<0))]=[]∨[sgZ c (decide (n<0))]=[32]:=by
   rcases hc with rfl | rfl<;>cases decide (n<0) <;>simp[sgZ]
  exact rd_sd (sg:=[sgZ c (decide (n<0))]) hsg eD hD0 (by simp;omega)
end Go.Cx
end
noncomputable section
set_option maxHeartbeats 3200000
namespace Go.Cx
open Go Go.Ab Go.Proofs Go.Shelf Go.Px Go.Cv
open Go.Fx (Ty Vl check jbd most base pw bnd Fit fits tv vv tup V0 T0 jbe jbh ja6 jbt str0)
instance tabsW:Tabs:=tabs
def preZ(l p:J):Bool:=decide (p.length≤l.length∧l.take p.length=p)
def trsZ(l cs:J):J:=(l.reverse.dropWhile (hasZ cs)).reverse
noncomputable def s131m (s t : Y) : Bool × Value := (decide (s.size ≤ 9223372036854775807) && (decide (t.size ≤ 1000) && asc (bz t)), .string (szO (trsZ (bz s) (bz t))))
theorem ok131m:jao Tryz.prog 131 (sp2 s131m):=jdu c131 fun s t hc w _=>by
 simp only[s131m,jaf,jae]at hc;obtain⟨h1,h2,h3⟩:=hc;refine(Any.strings_TrimRight_laid Tryz.lays162 ji8 s t w h1 (by omega) (jd7 h3)).mono fun e w' ⟨h5,h6⟩=>⟨?_,h6⟩
 rw[h5,jg4];have h:∀b:UInt8,t.data.toList.contains b=hasZ (zl t.data.toList) b.toNat:=fun b=>jlg b _
 have:=jex (p:=(t.data.toList.contains ·)) (q:=hasZ (zl t.data.toList)) h s.data.toList.reverse
 have e:zl (Lib.trimRightS s.data.toList t.data.toList)=trsZ (bz s) (bz t):=by
  rw[Lib.trimRightS,trsZ];show _=(List.dropWhile (hasZ (zl t.data.toList)) (zl s.data.toList).reverse).reverse;simp only[zl,List.map_reverse]at this ⊢;rw[this]
 rw[e];show _=Ending.returned (Value.string (szO (trsZ (bz s) (bz t))));rw[jc3]
def s162(s:Y)(p:Y):Bool×Value:=(decide (s.size≤9223372036854775807∧p.size≤9223372036854775807),B (preZ (bz s) (bz p)))
theorem fn162:Fn1 Tryz.prog 162 Tryz.f162:= .m Tryz.func162
theorem v162(s:Y)(p:Y)(R:Value→Prop):ja1 Tryz.prog QB noL Tryz.f162 [Enc.enc s,Enc.enc p] (fun _=>none) 0 (fun v _ _=>R v)=(oa (decide (aq s≥aq p)) (gz 0 0 (aq p) (aq p) (aq s)) true (d4 (j1 s (aq p)) p) R):=by kernel_rfl
theorem ok162:jao Tryz.prog 162 (sp2 s162):=by
 refine jct ok_QB hmix fn162 jai jag fun s p hc=> ?_
 rw[ja2,v162];delta bk oa d4 j1 aq gz;have hc:(s.size≤9223372036854775807∧p.size≤9223372036854775807):=jab hc
 try dsimp only[s162]
 obtain⟨h1,h2⟩:=hc;refine c_t ?_ ?_
 ·by_cases h:(s.size:Int)≥p.size
  ·rw[jaa h,jaa (show(0:Int)≤0∧(0:Int)≤p.size∧(p.size:Int)≤s.size from⟨by omega,by omega,h⟩)];rfl
  ·rw[jad h];rfl
 ·congr 1;rw[jcd,jie,Int.toNat_natCast,Bool.eq_iff_iff];simp only[preZ,jaf,jae,jap];constructor
  ·rintro ⟨a,b⟩;exact⟨by omega,b⟩
  ·rintro ⟨a,b⟩;exact⟨by omega,b⟩
def W0:Env:=Env.nil.add 162 (sp2 s162)
theorem ok_W0:jax Tryz.prog W0:=jak jan ok162
def s90(s:Y)(p:Y):Bool×Value:=(decide (s.size≤9223372036854775807∧p.size≤9223372036854775807),B (preZ (bz s) (bz p)))
theorem fn90:Fn1 Tryz.prog 90 Tryz.f90:= .m Tryz.func90
theorem v90(s:Y)(p:Y)(R:Value→Prop):ja1 Tryz.prog W0 noL Tryz.f90 [Enc.enc s,Enc.enc p] (fun _=>none) 0 (fun v _ _=>R v)=(cu (kr p s) (B (preZ (bz s) (bz p))) R):=by kernel_rfl
theorem ok90:jao Tryz.prog 90 (sp2 s90):=by
 refine jct ok_W0 hmix fn90 jai jag fun s p hc=> ?_
 rw[ja2,v90];delta cu iy kr;have hc:(s.size≤9223372036854775807∧p.size≤9223372036854775807):=jab hc
 try dsimp only[s90]
 exact c_t (jaa hc) rfl
def W1:Env:=(((((Env.nil.add 90 (sp2 s90)).add 128 (sp1 Px.s44)).add 55 (sp2 s89)).add 129 (sp2 s132)).add 130 (sp2 s130)).add 131 (sp2 s131m)
theorem ok_W1:jax Tryz.prog W1:=jak (jak (jak (jak (jak (jak jan ok90) Px.ok44) ok89) ok132) ok130) ok131m
def plZ(t:Ty):Bool:=decide (t.k=5) && (exOK (bz t.s) &&decide (jb4 (exZ (bz t.s)) [57,90,83,45]=[]))
def beZ(s:J):Bool:=hasZ s 90&& (hasZ s 83 || hasZ s 45) || (sufZ (trsZ s [57,90]) [83] && !preZ s [83] || sufZ s [45] && !preZ s [45])
def s56(t:Ty):Bool×Value:=(decide (t.s.size≤9223372036854775807),.tuple ⟨[B (plZ t),B (plZ t&&beZ (exZ (bz t.s)))]⟩)
theorem fn56:Fn1 Tryz.prog 56 Tryz.f56:= .m Tryz.func56
def ji(a:Fx.Ty):Y:=sz (exZ (bz (Fx.Ty.s a)))
def oz(a:Fx.Ty)(b:UInt8):Bool:= !preZ (bz (ji a)) (bz ⟨#[b]⟩)
def n9(a:Fx.Ty):Bool:=sufZ (bz (ji a)) (bz ⟨#[45]⟩)
def qr(a:Fx.Ty):Bool:=sufZ (bz (szO (trsZ (bz (ji a)) (bz ⟨#[57,90]⟩)))) (bz ⟨#[83]⟩)
theorem v56(t:Ty)(R:Value→Prop):ja1 Tryz.prog W1 noL Tryz.f56 [Enc.enc t] (fun _=>none) 0 (fun v _ _=>R v)=(bif fw (Fx.Ty.s t)then az (Fx.Ty.k t !=5) (eE (bz (Fx.Ty.s t)) !=0 || ft (ji t) &&j3 [90,83,45] 57&&true) (Fx.Ty.k t !=5 || (eE (bz (Fx.Ty.s t)) !=0 || !jb (ji t) [90,83,45] 57)) (R (al (B false::fv))) (gu (hasZ (bz (ji t)) (ja 90)) (hasZ (bz (ji t)) (ja 83) || true) true (hasZ (bz (ji t)) (ja 90) && (hasZ (bz (ji t)) (ja 83) || hasZ (bz (ji t)) (ja 45))) (R (al (B true::dw))) (cu (fw (ji t) &&j3 [90] 57&& (fw (szO (trsZ (bz (ji t)) (bz ⟨#[57,90]⟩))) &&bk (qr t) (iy ⟨#[83]⟩ (ji t).size 9223372036854775807 9223372036854775807&& (oz t 83 || fw (ji t) && (bif n9 t then iy ⟨#[45]⟩ (ji t).size 9223372036854775807 9223372036854775807&&true else true))) (fw (ji t) && (bif n9 t then iy ⟨#[45]⟩ (ji t).size 9223372036854775807 9223372036854775807&&true else true)))) (al [B (bk (qr t) (oz t 83 || (n9 t || true)) (n9 t || true)),B (bk (qr t) (oz t 83 || n9 t&&oz t 45) (n9 t&&oz t 45))]) R))else False):=by kernel_rfl
theorem ok56:jao Tryz.prog 56 (sp1 s56):=by
 refine jb8 ok_W1 hmix fn56 jai jag fun t hc=> ?_
 rw[ja2,v56];delta ar az gu cu al bk ji oz n9 qr iy fw ft j3 dw ja fv a8 l5 jb;have hc:(t.s.size≤9223372036854775807):=jab hc
 try dsimp only[s56]
 have hl:(exZ (bz t.s)).length≤32:=(jh4 t.s).2;rw[jdd (jh4 t.s).1,jcr];have k1:(decide ((ByteArray.mk #[57,90,83,45]).size≤1000) &&asc (bz (ByteArray.mk #[57,90,83,45])))=true:=by kernel_rfl
 have k2:(decide ((ByteArray.mk #[57,90]).size≤1000) &&asc (bz (ByteArray.mk #[57,90])))=true:=by kernel_rfl
 have b1:bz (ByteArray.mk #[57,90,83,45])=[57,90,83,45]:=by kernel_rfl
 have b2:bz (ByteArray.mk #[57,90])=[57,90]:=by kernel_rfl
 have b3:bz (ByteArray.mk #[83])=[83]:=by kernel_rfl
 have b4:bz (ByteArray.mk #[45])=[45]:=by kernel_rfl
 have b5:bz (ByteArray.mk #[90])=[90]:=by kernel_rfl
 have b6:bz (ByteArray.mk #[])=[]:=by kernel_rfl
 rw[k1,k2,b1,b2,b3,b4,b5,jcd,b6];have hB:∀l:J,(∀x∈l,x∈exZ (bz t.s))→bz (szO l)=l:=fun l h=>jdf fun x hx=>(jh4 t.s).1 x (h x hx)
 have hB1:bz (szO (jb4 (exZ (bz t.s)) [57,90,83,45]))=jb4 (exZ (bz t.s)) [57,90,83,45]:=hB _ fun x hx=>by
  unfold jb4 at hx;exact List.mem_reverse.1 ((List.dropWhile_sublist _).subset (List.mem_reverse.1 ((List.dropWhile_sublist _).subset hx)))
 have hB2:bz (szO (trsZ (exZ (bz t.s)) [57,90]))=trsZ (exZ (bz t.s)) [57,90]:=hB _ fun x hx=>by
  unfold trsZ at hx;exact List.mem_reverse.1 ((List.dropWhile_sublist _).subset (List.mem_reverse.1 hx))
 have hz:(szO (trsZ (exZ (bz t.s)) [57,90])).size≤9223372036854775807:=by
  rw[jcy];unfold trsZ;have:=(List.dropWhile_sublist (hasZ [57,90]) (l:=(exZ (bz t.s)).reverse)).length_le;rw[List.length_reverse]at this ⊢;omega
 rw[hB1,hB2,jaa hz,jaa (show(exZ (bz t.s)).length≤9223372036854775807 by omega),jaa (show(exZ (bz t.s)).length≤1000 by omega)];have d1:decide ((exZ (bz t.s)).length≤9223372036854775807∧(ByteArray.mk #[83]).size≤9223372036854775807)=true:=jaa ⟨by omega,by decide⟩;have d2:decide ((exZ (bz t.s)).length≤9223372036854775807∧(ByteArray.mk #[45]).size≤9223372036854775807)=true:=jaa ⟨by omega,by decide⟩;rw[d1,d2]
 have hp:(t.k !=5 || (eE (bz t.s) !=0 || !decide (jb4 (exZ (bz t.s)) [57,90,83,45]=[])))= !plZ t:=by
  unfold plZ eE;rw[show(t.k !=5)= !decide (t.k=5)from rfl];cases exOK (bz t.s) <;>cases decide (t.k=5) <;>cases decide (jb4 (exZ (bz t.s)) [57,90,83,45]=[]) <;>rfl
 rw[hp];unfold beZ;show(bif decide (t.s.size≤9223372036854775807)then _ else False);refine c_t (jaa hc) (c_t (by cases t.k !=5<;>cases eE (bz t.s) !=0<;>rfl) ?_);show(bif _ then _ else _);generalize plZ t=P;simp only[List.getD_cons_zero];generalize hasZ (exZ (bz t.s)) 90=a;generalize hasZ (exZ (bz t.s)) 83=b;generalize hasZ (exZ (bz t.s)) 45=c;generalize sufZ (trsZ (exZ (bz t.s)) [57,90]) [83]=d;generalize preZ (exZ (bz t.s)) [83]=e;generalize sufZ (exZ (bz t.s)) [45]=f;generalize preZ (exZ (bz t.s)) [45]=g;cases P<;>cases a<;>cases b<;>cases c<;>cases d<;>cases e<;>cases f<;>cases g<;>rfl
theorem xt_ex:∃d:Vl→Ty→Y×Int,∀v t,d v t=(if txE v t≠0 then⟨#[]⟩else txS v t,txE v t):=⟨_,fun _ _=>rfl⟩
def xtO:Vl→Ty→Y×Int:=Classical.choose xt_ex
theorem xtO_eq(v:Vl)(t:Ty):xtO v t=(if txE v t≠0 then⟨#[]⟩else txS v t,txE v t):=Classical.choose_spec xt_ex v t
def s32h(v:Vl)(t:Ty):Bool×Value:=(decide (t.s.size≤9223372036854775807∧v.s.size≤9223372036854775807),.tuple ⟨[S (xtO v t).1,I (xtO v t).2]⟩)
theorem s32h_eq:s32h=s32f:=by funext v t;unfold s32h s32f txV;rw[xtO_eq]
theorem bp_ex:∃d:(Ty→Bool)×(Ty→Bool),d=(plZ,fun t=>plZ t&&beZ (exZ (bz t.s))):=⟨_,rfl⟩
def bpO:(Ty→Bool)×(Ty→Bool):=Classical.choose bp_ex
theorem jmq:bpO=(plZ,fun t=>plZ t&&beZ (exZ (bz t.s))):=Classical.choose_spec bp_ex
def s56h(t:Ty):Bool×Value:=(decide (t.s.size≤9223372036854775807),.tuple ⟨[B (bpO.1 t),B (bpO.2 t)]⟩)
theorem s56h_eq:s56h=s56:=by funext t;unfold s56h s56;rw[jmq]
def s49(t:Ty):Bool×Value:=(true,B (decide (t.k=1∨t.k=2)))
theorem fn49:Fn1 Tryz.prog 49 Tryz.f49:= .m Tryz.func49
theorem v49(t:Ty)(R:Value→Prop):ja1 Tryz.prog QB noL Tryz.f49 [Enc.enc t] (fun _=>none) 0 (fun v _ _=>R v)=(bif t.k==1 || true then R (B (t.k==1 || t.k==2))else False):=by kernel_rfl
theorem ok49:jao Tryz.prog 49 (sp1 s49):=by
 refine jb8 ok_QB hmix fn49 jai jag fun t hc=> ?_
 rw[ja2,v49]
 try dsimp only[s49]
 refine c_t (Bool.or_true _) ?_;congr 1;rw[Bool.eq_iff_iff];simp
def W2:Env:=(((((Env.nil.add 18 (sp0 Cs.s18)).add 34 (sp3 s34h)).add 47 (sp2 s47)).add 56 (sp1 s56h)).add 32 (sp2 s32h)).add 49 (sp1 s49)
theorem ok_W2:jax Tryz.prog W2:=jak (jak (jak (jak (jak (jak jan Cs.ok18) (s34h_eq▸ok34u)) ok47) (s56h_eq▸ok56)) (s32h_eq▸ok32f)) Cx.ok49
end Go.Cx
end
noncomputable section
set_option maxHeartbeats 3200000
namespace Go.Cx
open Go Go.Ab Go.Proofs Go.Shelf Go.Px Go.Cv
open Go.Fx (Ty Vl check jbd most base pw bnd Fit fits tv vv tup V0 T0 jbe jbh ja6 jbt str0 scl cutN cutC InB)
theorem mk_99:∀(l:J)(sn:Bool),(sn=true∧45∈l∨2≤cntZ l 45)→99∈mkGo 45 sn l
 | [],sn,h=>by
  rcases h with⟨_,h⟩ | h
  ·cases h
  ·simp[cntZ]at h
 | a::r,sn,h=>by
  rw[mkGo];by_cases ha:a=45
  ·subst ha;rcases h with⟨h,-⟩ | h
   ·subst h;exact List.mem_cons_self ..
   ·have:=jcg 45 45 r;rw[if_pos rfl]at this;refine List.mem_cons_of_mem _ (mk_99 r _ (.inl ⟨by cases sn<;>rfl,?_⟩));exact cnt_mem' (by omega)
  ·refine List.mem_cons_of_mem _ (mk_99 r _ ?_);rcases h with⟨h1,h2⟩ | h
   ·exact .inl ⟨by rw[h1];rfl,(List.mem_cons.1 h2).resolve_left fun q=>ha q.symm⟩
   ·have:=jcg a 45 r;rw[if_neg ha]at this;exact .inr (by omega)
theorem jnf(dr:Int)(hd:dr≠57):∀(l:J)(sn:Bool),57∈l→ ∃m∈mkGo dr sn l,isP m=true
 | [],_,h=>by cases h
 | a::r,sn,h=>by
  rw[mkGo];rcases List.mem_cons.1 h with rfl | h
  ·exact⟨_,List.mem_cons_self ..,rfl⟩
  ·obtain⟨m,h1,h2⟩:=jnf dr hd r _ h;exact⟨m,List.mem_cons_of_mem _ h1,h2⟩
theorem last45{s:J}(hN:NumP s)(hc:∀c∈s,c=57∨c=45)(h45:45∈s){r:J}(hh:s=57::r):∃a,s=a++ [45]:=by
 have hp:∀c∈s,pc c:=fun c h=>(hc c h).elim .inl fun h=> .inr (.inr (.inr h))
 have hb:=(jce hp).1;rcases jey hp with hd | ⟨hd2,hd1,hd⟩
 ·obtain⟨A,B,e⟩:=List.append_of_mem h45;cases B with
  | nil=>exact⟨A,e⟩
  | cons b B=>
   exfalso
   have h57:57∈A:=by
    cases A with
    | nil=>rw[hh]at e;cases e
    | cons a A=>rw[hh]at e;cases e;exact List.mem_cons_self ..
   have hB:57∈b::B:=by
    have hb':b∈s:=by rw[e];simp
    rcases hc b hb' with rfl | rfl
    ·exact List.mem_cons_self ..
    ·have:=jku (s:=s) (l:=s) hd 45 h45 (.inr rfl);have h2:(cntZ s 45:Int)=cntZ A 45+cntZ (45::45::B) 45:=by rw[e,jju];omega
     have h3:=jcg 45 45 (45::B);have h4:=jcg 45 45 B;rw[if_pos rfl]at h3 h4;omega
   have hst:=hN.st;unfold je7 at hst;rw[hb,hd]at hst;have hst2:stGo 0 s (mkGo 0 false s) (A++45::(b::B)) 0=true:=by rw[←e];exact hst
   have key:=stGo_at 0 s (mkGo 0 false s) hst2 (by decide) (by decide)
   have em:mkGo 0 false s=mkGo 0 false A++(115::mkGo 0 false (b::B)):=by
    conv=>lhs;rw[e]
    rw[mk_app];rfl
   have l1:(stIn 0 (0+(A.length:Int)) s (mkGo 0 false s) 0 false false).1=true:=by
    rw[em]
    conv=>lhs;rw[e]
    rw[jg7 _ _ _ _ _ _ _ _ _ (mk_len 0 A false).symm];exact(jf6 _ _ _ _ _ _ _).1 (stIn_lo 0 _ A (mkGo 0 false A) 0 false false (mk_len 0 A false).symm (.inl (jnf 0 (by decide) A false h57)) (by omega))
   have l2:(stIn 0 (0+(A.length:Int)) s (mkGo 0 false s) 0 false false).2=true:=by
    rw[em]
    conv=>lhs;rw[e]
    rw[jg7 _ _ _ _ _ _ _ _ _ (mk_len 0 A false).symm,stIn];exact stIn_hi 0 _ (b::B) (mkGo 0 false (b::B)) _ _ _ (mk_len 0 (b::B) false).symm (.inl (jnf 0 (by decide) (b::B) false hB)) (by omega)
   rw[l1,l2]at key;cases key
 ·exfalso
  have h4:drZ s=45:=by
   rcases hc _ hd1 with h | h
   ·omega
   ·exact h
  have hld:=hN.ld1;rw[hb,h4,hh,mkGo]at hld;have:=jgc [] (mkGo 45 (false || ((45:Int) !=0&& (57:Int)==45)) r) false false false 0 hld;refine this (mk_99 r _ (.inr ?_));rw[h4,hh]at hd2;have:=jcg 57 45 r;rw[if_neg (by decide)]at this;omega
theorem suf_one(a:J)(c:Int):sufZ (a++ [c]) [c]=true:=by
 unfold sufZ;simp
theorem pre_one{s:J}{c:Int}(h:preZ s [c]=true):∃r,s=c::r:=by
 have h:=jab h;cases s with
 | nil=>simp at h
 | cons a r=>simp at h;exact⟨r,by rw[h]⟩
theorem trs_last{s cs:J}{c:Int}(h:c∈s)(hc:hasZ cs c=false):∃a y,trsZ s cs=a++ [y]∧y∈s∧hasZ cs y=false:=by
 unfold trsZ;cases e:s.reverse.dropWhile (hasZ cs)with
 | nil=>
  exfalso
  have:s.reverse.all (hasZ cs)=true:=by
   have h1:=List.takeWhile_append_dropWhile (p:=hasZ cs) (l:=s.reverse);rw[e,List.append_nil]at h1;rw[←h1];exact List.all_takeWhile
  have:=List.all_eq_true.1 this c (List.mem_reverse.2 h);rw[hc]at this;cases this
 | cons y r=>
  refine⟨r.reverse,y,by rw[List.reverse_cons],?_,?_⟩
  ·have:y∈s.reverse.dropWhile (hasZ cs):=by rw[e];exact List.mem_cons_self ..
   exact List.mem_reverse.1 ((List.dropWhile_sublist _).subset this)
  ·have:=jjh (p:=hasZ cs) s.reverse y (by rw[e];rfl);exact this
theorem pl_of{t:Ty}(ht:chk4 t=0)(h:plZ t=true):t.k=5∧PlP t.s:=by
 unfold plZ at h;rw[jaf,jaf]at h;obtain⟨h5,hx,htr⟩:=h;have h5:=jab h5;have htr:=jab htr;have hv:=chk_p ht h5;have hs:pS (bz t.s)=exZ (bz t.s):=by rw[pS,if_pos hv]
 have hc:∀c∈pS (bz t.s),pc c:=fun c hcs=>by
  rw[hs]at hcs;apply Classical.byContradiction;intro w
  have hno:hasZ [57,90,83,45] c=false:=jhz (by
   intro q;apply w;simp at q;exact q)
  have e0:jb4 (exZ (bz t.s)) [57,90,83,45]=(trsZ (exZ (bz t.s)) [57,90,83,45]).dropWhile (hasZ [57,90,83,45]):=rfl;obtain⟨a,y,e1,-,e2⟩:=trs_last hcs hno;rw[e0,e1]at htr;have h1:=List.takeWhile_append_dropWhile (p:=hasZ [57,90,83,45]) (l:=a++ [y]);rw[htr,List.append_nil]at h1;have h2:(a++ [y]).all (hasZ [57,90,83,45])=true:=by rw[←h1];exact List.all_takeWhile
  have:=List.all_eq_true.1 h2 y (by simp);rw[e2]at this;cases this
 refine⟨h5,?_,hc⟩;unfold pN;rw[hx,Bool.true_and];have hv':=hv;unfold vOK at hv';rw[hx,Bool.true_and,Bool.or_eq_true]at hv';refine hv'.resolve_left fun q=> ?_
 unfold jez at q;rw[jaf,Bool.or_eq_true]at q;rw[hs]at hc;rcases q.2 with q | q
 ·exact jj2 hc (x:=65) (by omega) (ja8.1 q)
 ·exact jj2 hc (x:=88) (by omega) (ja8.1 q)
theorem fr_of{p:Y}(h:PlP p)(hb:beZ (exZ (bz p))=false):frS (pS (bz p)):=by
 have hs:pS (bz p)=exZ (bz p):=by rw[pS,if_pos (jc4 h.n)]
 rw[←hs]at hb;have hN:NumP (pS (bz p)):=by rw[hs];exact jfx h.n
 have h1:=h.one;have hc:=h.c;generalize pS (bz p)=s at*;unfold beZ at hb;rw[Bool.or_eq_false_iff,Bool.or_eq_false_iff]at hb;obtain⟨b1,b2,b3⟩:=hb;by_cases h8:83∈s
 ·have h90:90∉s:=fun q=>by rw[ja8.2 q,ja8.2 h8]at b1;cases b1
  obtain⟨a,y,e1,e2,e3⟩:=trs_last (cs:=[57,90]) h8 (by decide)
  have hy:y=83:=by
   rcases hc y e2 with q | q | q | q
   ·rw[q]at e3;cases e3
   ·rw[q]at e3;cases e3
   ·exact q
   ·exact absurd ⟨h8,q▸e2⟩ h1
  rw[e1,hy,suf_one,Bool.true_and]at b2;obtain⟨r,hr⟩:=pre_one (s:=s) (c:=83) (by simpa using b2);exact .inr ⟨h90,83,r,hr,.inl rfl⟩
 ·by_cases h4:45∈s
  ·have h90:90∉s:=fun q=>by rw[ja8.2 q,ja8.2 h4,Bool.or_true]at b1;cases b1
   cases s with
   | nil=>cases h4
   | cons a r=>
    by_cases ha:a=45
    ·exact .inr ⟨h90,a,r,rfl,.inr ha⟩
    ·exfalso
     have hc':∀c∈a::r,c=57∨c=45:=fun c hcs=>by
      rcases hc c hcs with q | q | q | q
      ·exact .inl q
      ·exact absurd (q▸hcs) h90
      ·exact absurd (q▸hcs) h8
      ·exact .inr q
     have ha57:a=57:=(hc' a (List.mem_cons_self ..)).resolve_right ha;subst ha57;obtain⟨A,eA⟩:=last45 hN hc' h4 rfl;have hsf:sufZ (57::r) [45]=true:=by rw[eA];exact suf_one A 45
     rw[hsf,Bool.true_and]at b3;obtain⟨r',hr'⟩:=pre_one (s:=57::r) (c:=45) (by simpa using b3);cases hr'
  ·refine .inl fun c hcs=> ?_
   rcases hc c hcs with q | q | q | q
   ·exact .inl q
   ·exact .inr q
   ·exact absurd (q▸hcs) h8
   ·exact absurd (q▸hcs) h4
def bkS(w:Bool)(p:Int)(s:Y):Y:=if w=true∧ ¬(s.size:Int)>p then s else fiU s p 32
theorem bk1{v:Vl}{t:Ty}{p:Int}{w:Bool}(hv:fit4 v t=0)(h6:t.k≠6)(hp:((txtU (jbs v t)).size:Int)≤p∧p≤255):
  toV v t ⟨3,p,0,w,⟨#[]⟩⟩=(0,bkS w p (txtU (jbs v t)),0,0)∧fit4 ⟨0,bkS w p (txtU (jbs v t))⟩ ⟨3,p,0,w,⟨#[]⟩⟩=0∧rdN (bz (bkS w p (txtU (jbs v t))))=rdN (bz (txtU (jbs v t)))∧(bkS w p (txtU (jbs v t))).size≤255:=by
 have hc:chk4 ⟨3,p,0,w,⟨#[]⟩⟩=0:=by
  unfold chk4;rw[if_neg (fun h=>by have:=h.1;simp at this),if_pos ⟨rfl,rfl,rfl,by show(0:Int)≤p;omega,hp.2⟩]
 have e:cuV (jbs v t) ⟨3,p,0,w,⟨#[]⟩⟩=(0,bkS w p (txtU (jbs v t)),0,none):=by
  unfold cuV;rw[if_neg (by show¬((3:Int)=1∨(3:Int)=2);decide),if_pos rfl];rfl
 have hz:(bkS w p (txtU (jbs v t))).size≤255∧(((bkS w p (txtU (jbs v t))).size:Int)=p∨w=true∧((bkS w p (txtU (jbs v t))).size:Int)<p):=by
  unfold bkS;split
  ·rename_i h;exact⟨by omega,(Classical.em (((txtU (jbs v t)).size:Int)=p)).elim .inl fun q=> .inr ⟨h.1,by omega⟩⟩
  ·rw[fi_size];exact⟨by omega,.inl (by omega)⟩
 refine⟨?_,fit0.2 ⟨hc,?_⟩,?_,hz.1⟩
 ·unfold toV;rw[if_neg (by simp[hv]),if_neg (by simp[hc]),if_neg (fun h=>h.elim (fun h=>h6 h) (fun h=>absurd h (by show¬(3:Int)=6;decide))),e,if_pos rfl]
 ·unfold is4;rw[if_neg (by show¬((3:Int)=1∨(3:Int)=2);decide),if_pos rfl];exact jaa ⟨rfl,hz.2⟩
 ·unfold bkS;split
  ·rfl
  ·rw[bz_fi (by decide)];exact rdN_pad _ _ (by rw[jap];omega) (by omega)
theorem bk2{s:Y}{p:Int}{w:Bool}{t:Ty}(h2:fit4 ⟨0,s⟩ ⟨3,p,0,w,⟨#[]⟩⟩=0)(ht:chk4 t=0)(h6:t.k≠6):
  toV ⟨0,s⟩ ⟨3,p,0,w,⟨#[]⟩⟩ t=if(cuV (.c s) t).2.2.2=none then((cuV (.c s) t).1,(cuV (.c s) t).2.1,(cuV (.c s) t).2.2.1,0)else(0,zrV t,4,0):=by
 unfold toV
 have ef:jbs ⟨0,s⟩ ⟨3,p,0,w,⟨#[]⟩⟩= .c s:=by
  unfold jbs;rw[if_neg (by show¬((3:Int)=1∨(3:Int)=2);decide),if_neg (by show¬(3:Int)=4;decide),if_neg (fun q=>absurd q.1 (by show¬(3:Int)=5;decide))]
 rw[if_neg (by simp[h2]),if_neg (by simp[ht]),if_neg (fun h=>h.elim (fun h=>absurd h (by show¬(3:Int)=6;decide)) (fun h=>h6 h)),ef]
theorem bk_ar{v:Vl}{t:Ty}{p:Int}{w:Bool}(hv:fit4 v t=0)(hk:t.k=1∨t.k=2)(hp:((txtU (jbs v t)).size:Int)≤p∧p≤255):
  toV ⟨0,bkS w p (txtU (jbs v t))⟩ ⟨3,p,0,w,⟨#[]⟩⟩ t=(v.n,v.s,0,0):=by
 obtain⟨hc,hi⟩:=fit0.1 hv;obtain⟨-,b2,b3,-⟩:=bk1 (w:=w) hv (by omega) hp;have hV:=jnr hc hk;unfold is4 at hi;rw[if_pos hk]at hi
 have hF:Fit v t:=by
  unfold fits at hi;rw[if_pos hV]at hi;split at hi
  ·assumption
  ·cases hi
 have hs:v.s=⟨#[]⟩:=jmp (by have:=hF.1;rw[ByteArray.toList_eq]at this;show v.s.data.toList.map _=_;rw[this];rfl);have ef:jbs v t= .w v.n t:=if_pos hk;have hb:=Fx.bnd_range hV;obtain⟨-,g1,g2⟩:=hF;rw[bk2 b2 hc (by omega)]
 have hr:rdN (bz (bkS w p (txtU (jbs v t))))=some (numA v.n t.q):=by
  rw[b3,ef];show rdN (bz (szO (txtZ v.n t)))=_;have hq:=Fx.valid_r hV;have hB:IsB (txtZ v.n t):=(jhp _).append (fixS_len (n:=v.n) (q:=t.q) (by omega) (by omega)).2;rw[jdf hB,txt_read hV (by omega)]
 have e:cuV (.c (bkS w p (txtU (jbs v t)))) t=(v.n,⟨#[]⟩,0,none):=by
  unfold cuV;rw[if_pos hk,cuN];show(match rdN (bz (bkS w p (txtU (jbs v t))))with | some x=>_ | none=>_)=_;rw[hr];simp only;rw[tkU_same hV rfl ⟨g1,g2⟩]
 rw[e,if_pos rfl,hs]
theorem bk_pl{v:Vl}{t:Ty}{p:Int}{w:Bool}(hv:fit4 v t=0)(h5:t.k=5)(hP:PlP t.s)(hp:((txtU (jbs v t)).size:Int)≤p∧p≤255):
  toV ⟨0,bkS w p (txtU (jbs v t))⟩ ⟨3,p,0,w,⟨#[]⟩⟩ t=(v.n,v.s,0,0)∨(¬frS (pS (bz t.s))∧ ∃s,toV ⟨0,bkS w p (txtU (jbs v t))⟩ ⟨3,p,0,w,⟨#[]⟩⟩ t=(0,s,4,0)):=by
 obtain⟨hc,hi⟩:=fit0.1 hv;obtain⟨-,b2,b3,-⟩:=bk1 (w:=w) hv (by omega) hp;have hN:=hP.n;unfold is4 at hi;rw[if_neg (by omega),if_neg (by omega),if_neg (by omega),if_pos h5,jaf]at hi;have h0:v.n=0:=jab hi.1;have hh:=hi.2;rw[ho_rd hN]at hh;obtain⟨r1,r2,r3⟩:=rd_val (t:=v.s) hN;have r3:=r3 (jab hh)
 have ef:txtU (jbs v t)=v.s:=by
  unfold jbs;rw[if_neg (by omega),if_neg (by omega),if_pos ⟨h5,hN⟩];rfl
 rw[bk2 b2 hc (by omega)];rw[ef]at b3 ⊢;rw[←r3]at b3
 have e:cuV (.c (bkS w p v.s)) t=cuN (.c (bkS w p v.s)) fun x=>(0,sz (edS (bz t.s) (tkU x (pT t.s)).1 (pQ (bz t.s))),if edF (bz t.s) (tkU x (pT t.s)).1 (pQ (bz t.s))=true then(tkU x (pT t.s)).2.1 else 1,none):=by
  unfold cuV;rw[if_neg (by omega),if_neg (by omega),if_neg (by omega),if_pos hN]
 have hn:numU (.c (bkS w p v.s))=rdN (fdN (bz t.s) (rdV (bz t.s) (bz v.s)).1):=b3;rw[e,cuN,hn];cases hx:rdN (fdN (bz t.s) (rdV (bz t.s) (bz v.s)).1)with
 | none=>
  refine .inr ⟨fun q=> ?_,zrV t,if_neg (by simp)⟩;obtain⟨x,hx'⟩:=hP.ok q r1;rw[hx]at hx';cases hx'
 | some x=>
  have hk:=hP.read r1 r2 hx;have ed:=ed_in hN r1 r2;refine .inl ?_;simp only[hk,ed.1,ed.2.1,r3,jhk,h0,if_true]
theorem tx_eqb{v:Vl}{t:Ty}(hk:chk4 t=0):txS v t=txtU (jbs v t):=by
 unfold txS jbs;by_cases h1:t.k=1∨t.k=2
 ·rw[if_pos (jnr hk h1),if_pos h1];rfl
 ·rw[if_neg (fun q=>h1 q.1),if_neg h1];split
  ·rfl
  ·split<;>rfl
theorem tx_255{v:Vl}{t:Ty}(hv:fit4 v t=0)(h:(t.k=1∨t.k=2)∨(t.k=5∧PlP t.s)):(txtU (jbs v t)).size≤255:=by
 obtain⟨hc,hi⟩:=fit0.1 hv;rcases h with hk | ⟨h5,hP⟩
 ·have hV:=jnr hc hk;rw[show jbs v t= .w v.n t from if_pos hk];unfold is4 at hi;rw[if_pos hk]at hi
  have hF:Fit v t:=by
   unfold fits at hi;rw[if_pos hV]at hi;split at hi
   ·assumption
   ·cases hi
  have hb:=Fx.bnd_range hV;have hq:=Fx.valid_r hV;have h1:=(fixS_len (n:=v.n) (q:=t.q) (by have:=hF.2;omega) (by omega)).1;have hw:0≤wid t∧wid t≤100:=by unfold wid;split<;>omega
  show(szO (txtZ v.n t)).size≤_;rw[jcy];unfold txtZ;rw[List.length_append,List.length_replicate];omega
 ·have hN:=hP.n;unfold is4 at hi;rw[if_neg (by omega),if_neg (by omega),if_neg (by omega),if_pos h5,jaf]at hi;have hh:=hi.2;rw[ho_rd hN]at hh;obtain⟨-,-,r3⟩:=rd_val (t:=v.s) hN;have r3:=r3 (jab hh);have hl:=jks (jdv t.s) hN (rdV (bz t.s) (bz v.s)).1;rw[r3,jap]at hl;have:=jj1 (s:=t.s)
  have ef:txtU (jbs v t)=v.s:=by
   unfold jbs;rw[if_neg (by omega),if_neg (by omega),if_pos ⟨h5,hN⟩];rfl
  rw[ef];omega
end Go.Cx
end
noncomputable section
set_option maxHeartbeats 3200000
namespace Go.Cx
open Go Go.Ab Go.Proofs Go.Shelf Go.Px Go.Cv
open Go.Fx (Ty Vl check jbd most base pw bnd Fit fits tv vv tup V0 T0 jbe jbh ja6 jbt str0)
def s14(v:Vl)(t:Ty)(m:Int)(w:Bool):Bool×Value:=(decide (t.s.size≤9223372036854775807∧v.s.size≤9223372036854775807),B true)
theorem fn14:Fn1 Tryz.prog 14 Tryz.f14:= .m Tryz.func14
def lw(d:Bool)(b:Fx.Ty)(a:Fx.Vl)(c:Int):Fx.Ty:=Fx.Ty.mk 3 (imin 255 (d8 (ep (xtO a b).fst) (imax 0 (imin c 300)))) 0 d a8
def l8(c:Bool)(b:Fx.Ty)(a:Fx.Vl)(d:Int):Prod Int (Prod Y (Prod Int Int)):=toH (Fx.Vl.mk (toH a b (lw c b a d)).fst (toH a b (lw c b a d)).snd.fst) (lw c b a d) b
theorem v14(v:Vl)(t:Ty)(m:Int)(w:Bool)(R:Value→Prop):ja1 Tryz.prog W2 noL Tryz.f14 [Enc.enc v,Enc.enc t,Enc.enc m,Enc.enc w] (fun _=>none) 0 (fun v _ _=>R v)=(kw (kz t v 9223372036854775807 9223372036854775807&& (!(kz t v 200 2000&&ftT v t==0) || (!decide (Fx.Ty.k t=1∨Fx.Ty.k t=2) || true))) (Fx.Ty.s t) (bif !(kz t v 200 2000&&ftT v t==0) || !decide (Fx.Ty.k t=1∨Fx.Ty.k t=2) && !bpO.fst t then R (B true)else bif kz t v 9223372036854775807 9223372036854775807 then az ((xtO v t).snd !=0) true ((xtO v t).snd !=0 || decide (ep (xtO v t).fst>255)) (fk R) (bif decide (toC v t (lw w t v m))then f8 ((toH v t (lw w t v m)).snd.snd.snd !=0) true ((toH v t (lw w t v m)).snd.snd.snd !=0 || (toH v t (lw w t v m)).snd.snd.fst !=0) (fk R) (bif decide (toC (Fx.Vl.mk (toH v t (lw w t v m)).fst (toH v t (lw w t v m)).snd.fst) (lw w t v m) t)then bif (l8 w t v m).snd.snd.snd !=0 then fk R else cu (bk ((l8 w t v m).snd.snd.fst==0) ((l8 w t v m).fst==Fx.Vl.n v&& (d4 (l8 w t v m).snd.fst (Fx.Vl.s v) &&true) || (bpO.snd t || true)) (bpO.snd t || true)) (B (bk ((l8 w t v m).snd.snd.fst==0) ((l8 w t v m).fst==Fx.Vl.n v&& (d4 (l8 w t v m).snd.fst (Fx.Vl.s v) &&true) || bpO.snd t&& (l8 w t v m).snd.snd.fst==4) (bpO.snd t&& (l8 w t v m).snd.snd.fst==4))) R else False)else False)else False) False):=by kernel_rfl
theorem ok14:jao Tryz.prog 14 (sp4 s14):=by
 refine qure4 ok_W2 hmix fn14 jai jag fun v t m w hc=> ?_
 rw[ja2,v14];delta ar fw kw az f8 cu bk a8 d8 ep lw l8 d4 fk iy kz;have hc:(t.s.size≤9223372036854775807∧v.s.size≤9223372036854775807):=jab hc
 try dsimp only[s14]
 obtain⟨hT,hV⟩:=hc;have hS:decide (t.s.size≤9223372036854775807∧v.s.size≤9223372036854775807)=true:=jaa ⟨hT,hV⟩;rw[hS];refine c_t (jaa hT) (c_t (by cases(decide (t.s.size≤200∧v.s.size≤2000) &&ftT v t==0) <;>cases decide (t.k=1∨t.k=2) <;>rfl) (cond_intro (fun _=>rfl) (fun h=> ?_)));rw[Bool.or_eq_false_iff,Bool.not_eq_false',jaf,beq_iff_eq,jj8]at h;obtain⟨⟨-,hv⟩,hor⟩:=h;obtain⟨hck,-⟩:=fit0.1 hv
 have hk:(t.k=1∨t.k=2)∨(t.k=5∧PlP t.s∧bpO.1 t=true):=by
  by_cases h:t.k=1∨t.k=2
  ·exact .inl h
  ·rw[jad h]at hor;have hb:bpO.1 t=true:=by simpa using hor
   have hb':=hb;rw[jmq]at hb';obtain⟨a,b⟩:=pl_of hck hb';exact .inr ⟨a,b,hb⟩
 have h6:t.k≠6:=by rcases hk with h | h<;>omega
 have hxe:txE v t=0:=by unfold txE;rw[if_neg (by simp[hv]),if_neg h6]
 have hx:xtO v t=(txtU (jbs v t),0):=by rw[xtO_eq,hxe,if_neg (by simp),tx_eqb hck]
 have h255:=tx_255 hv (hk.imp id fun h=>⟨h.1,h.2.1⟩);rw[hx];obtain⟨q1,q2⟩:=q_r (m:=m) (n:=300) (c:=255) (p:=((txtU (jbs v t)).size:Int)) ⟨by omega,by omega⟩ (by omega) (by omega);have eq:imin 255 (IntKind.i64.wrap (((txtU (jbs v t)).size:Int)+imax 0 (imin m 300)))=qB 255 300 ((txtU (jbs v t)).size:Int) m:=rfl;simp only[eq,toH_eq];generalize qB 255 300 ((txtU (jbs v t)).size:Int) m=p at*;obtain⟨b1,b2,b3,b4⟩:=bk1 (w:=w) hv h6 ⟨q1,q2⟩;simp only[b1];have d1:toC v t ⟨3,p,0,w,⟨#[]⟩⟩:=⟨by show(ByteArray.mk #[]).size≤_;decide,hT,hV⟩
 have d2:toC ⟨0,bkS w p (txtU (jbs v t))⟩ ⟨3,p,0,w,⟨#[]⟩⟩ t:=⟨hT,by show(ByteArray.mk #[]).size≤_;decide,by show(bkS w p (txtU (jbs v t))).size≤_;omega⟩
 have d3:((0:Int) !=0 || decide (((txtU (jbs v t)).size:Int)>255))=false:=by rw[jad (by omega)];rfl
 refine c_t rfl (c_t rfl (c_f d3 (c_t (jaa d1) (c_t rfl (c_f rfl (c_t (jaa d2) ?_))))))
 have fin:toV ⟨0,bkS w p (txtU (jbs v t))⟩ ⟨3,p,0,w,⟨#[]⟩⟩ t=(v.n,v.s,0,0)∨(bpO.2 t=true∧ ∃s,toV ⟨0,bkS w p (txtU (jbs v t))⟩ ⟨3,p,0,w,⟨#[]⟩⟩ t=(0,s,4,0)):=by
  rcases hk with hk | ⟨h5,hP,hb⟩
  ·exact .inl (bk_ar hv hk ⟨q1,q2⟩)
  ·refine(bk_pl hv h5 hP ⟨q1,q2⟩).imp id fun⟨h1,h2⟩=>⟨?_,h2⟩
   rw[jmq]at hb ⊢;show(plZ t&&beZ (exZ (bz t.s)))=true;rw[show plZ t=true from hb,Bool.true_and];cases hbe:beZ (exZ (bz t.s))with
   | true=>rfl
   | false=>exact absurd (fr_of hP hbe) h1
 rcases fin with fin | ⟨hb,s,fin⟩
 ·simp only[fin];exact c_f rfl (c_t (by simp) (by simp))
 ·simp only[fin,hb];exact c_f rfl (c_t (by simp) (by simp))
end Go.Cx
end
noncomputable section
namespace Go.Px
open Go Go.Proofs
open Go.Proofs.YtpflidodnhbeoaaGreatDoor
theorem q_laid:laidOutB Tryz.prog=true:=by kernel_rfl
theorem q_maps:mapsRowed Tryz.prog=true:=by kernel_rfl
theorem q_stop:(Tryz.prog.stops==[])=true:=by kernel_rfl
theorem q_knob:(Tryz.prog.stopKnobs==[])=true:=by kernel_rfl
theorem q_keys:(Rows.convertTypesRow.plainKeys==Tryz.prog.plainKeys)=true:=by kernel_rfl
theorem q_heard:Tryz.prog.stopsHeard=true:=by kernel_rfl
theorem q_enter:Tryz.prog.mayEnter=true:=by kernel_rfl
theorem q_lifts:(Rows.convertTypesRow.lifted==Tryz.prog.liftsFinal)=true:=by kernel_rfl
theorem q_make:(Tryz.prog.make==some Rows.convertTypesRow.make)=true:=by kernel_rfl
theorem main_is : Tryz.pinned.checked.prog.mainIs = some (true, ("2cb47cbf95087f7cc8d5ede91c198a947601d35cfd546d8bdc61f47b13d7b636" : String).toList) := by kernel_rfl
theorem looks_is:true=Tryz.pinned.checked.prog.looks []:=by kernel_rfl
end Go.Px
end
