/-
  Part 4: the run and laws.
-/
import Derived.Test.YtpflidodnhbeoaaGreatDoorH3
set_option linter.unusedVariables false
set_option linter.unusedSimpArgs false
noncomputable section
namespace Go.Cx
open Go Go.Ab Go.Proofs Go.Shelf Go.Px Go.Cv
def RdN(s:ByteArray)(b g:Bool)(d:ByteArray)(c:Int):Prop:=rdN (bz s)=none∧b=false∧g=false∧d=⟨#[]⟩∧c=0∨ ∃l,rdN (bz s)=some (g,l,c)∧d=szO l∧b=true
def hidN:List Value→Lk→Nat→(Value→Lk→Nat→Prop)→Prop:=fun args m n K=>match args with
 | [.string s]=>match cnd (decide (s.size≤9223372036854775807))with
  | true=>∀(b g:Bool)(d:ByteArray)(c:Int),RdN s b g d c→K (.tuple ⟨[.agg ⟨[.bool g,.string d,.int .i64 c]⟩,.bool b]⟩) m n
  | false=>False
 | _=>False
theorem gen_hidN:jc3 Tryz.prog 24 hidN:=by
 obtain⟨hc,hp⟩:=ok24;refine⟨hc,fun args m n K hh N w0 ι w hrel hwf hargs=> ?_⟩;unfold hidN at hh;split at hh
 case h_2=>exact hh.elim
 rename_i s;split at hh
 case h_2=>exact hh.elim
 rename_i hcc;have hs:(sp1 s24) [.string s] ([Value.string s].map (blkOf m))=some (true,onV (rdN (bz s))):=congrArg some (Prod.ext (show(s24 s).1=true from hcc) rfl);refine(hp [.string s] _ N w0 m ι w hrel hs rfl).mono fun e' w' ⟨h1,h2⟩=> ?_
 refine⟨onV (rdN (bz s)),m,n,ι,by rw[h1];rfl,?_,Nat.le_refl _,fun _ _=>rfl,hrel.grow h2,hwf,by simp[ids,idsL,onV]⟩;cases hr:rdN (bz s)with
 | none=>
  have:=hh false false ⟨#[]⟩ 0 (.inl ⟨hr,rfl,rfl,rfl,rfl⟩);rw[←jgm]at this;exact this
 | some x=>exact hh true x.1 (szO x.2.1) x.2.2 (.inr ⟨x.2.1,by rw[hr],rfl,rfl⟩)
end Go.Cx
end
noncomputable section
set_option maxHeartbeats 3200000
namespace Go.Cx
open Go Go.Ab Go.Proofs Go.Shelf Go.Px Go.Cv
open Go.Fx (Ty Vl check jbd most base pw bnd Fit fits tv vv tup V0 T0 jbh jbl jbe jby str0)
def s322(s:ByteArray):Bool×Value:=(true,S s)
theorem fn322:Fn1 Tryz.prog 322 Tryz.f322:= .m Tryz.func322
theorem v322(s:ByteArray)(R:Value→Prop):ja1 Tryz.prog K6 noL Tryz.f322 [Enc.enc s] (fun _=>none) 0 (fun v _ _=>R v)=(R (S s)):=by kernel_rfl
theorem ok322:jan Tryz.prog 322 (sp1 s322):=by
 refine jb9 ok_K6 hmix fn322 jai jag fun s hc=> ?_
 rw[ja2,v322]
 try dsimp only[s322]
def s324(s:ByteArray):Bool×Value:=(true,S s)
theorem fn324:Fn1 Tryz.prog 324 Tryz.f324:= .m Tryz.func324
theorem v324(s:ByteArray)(R:Value→Prop):ja1 Tryz.prog K6 noL Tryz.f324 [Enc.enc s] (fun _=>none) 0 (fun v _ _=>R v)=(R (S s)):=by kernel_rfl
theorem ok324:jan Tryz.prog 324 (sp1 s324):=by
 refine jb9 ok_K6 hmix fn324 jai jag fun s hc=> ?_
 rw[ja2,v324]
 try dsimp only[s324]
def K7:Env:=Env.nil
theorem ok_K7:jax Tryz.prog K7:=jao
def s115(t:Ty):Bool×Value:=(decide (t.q≤t.p∧t.p≤1000∧0≤t.q),I (if t.k=2 then t.p else(332*(t.p-t.q)+99)/100))
theorem fn115:Fn1 Tryz.prog 115 Tryz.f115:= .m Tryz.func115
theorem v115(t:Ty)(R:Value→Prop):ja1 Tryz.prog K7 noL Tryz.f115 [Enc.enc t] (fun _=>none) 0 (fun v _ _=>R v)=(bif qek t 2 then R (I (Fx.Ty.p t))else qeo ((qg6 (IntKind.i64.wrap (332*qe5 (Fx.Ty.p t) (Fx.Ty.q t))) 99).tdiv 100) R):=by kernel_rfl
theorem ok115:jan Tryz.prog 115 (sp1 s115):=by
 refine jb9 ok_K7 hmix fn115 jai jag fun t hc=> ?_
 rw[ja2,v115];delta qfx qeo qg6 qe5 qek;have hc:(t.q≤t.p∧t.p≤1000∧0≤t.q):=jab hc
 try dsimp only[s115]
 apply cond_intro<;>intro h
 ·have h:t.k=2:=eq_of_beq h;rw[if_pos h]
 ·have h:¬t.k=2:=by simpa using h
  rw[if_neg h,w64 (n:=t.p-t.q) (by omega),w64 (n:=332*(t.p-t.q)) (by omega),w64 (n:=332*(t.p-t.q)+99) (by omega)];by_cases hn:0≤332*(t.p-t.q)+99
  ·rw[Int.tdiv_eq_ediv_of_nonneg hn,w64 (by omega)]
  ·exfalso;omega
def K8:Env:=Env.nil
theorem ok_K8:jax Tryz.prog K8:=jao
def inB:Nat→Int→List Int
 | 0,_=> []
 | k+1,n=>inB k (n/2)++ [48+n%2]
theorem zrow8(k:Nat):zrow (.int .u8 0) k=cz (List.replicate k 0):=by
 rw[cz,List.map_replicate];refine List.eq_replicate_iff.2 ⟨by rw[zrow_len];simp[Value.cells],fun v hv=> ?_⟩;have:=zrow_mem hv;simpa[Value.cells]using this
theorem row_zero(k:Nat)(hk:k≤1000):RowP (zrow (.int .u8 0) k) k k:=by
 rw[zrow8];have:=(jjx (List.replicate k 0) (tail:=[]) (cap:=k) rfl (by simp) (by omega)).1;rw[List.append_nil,List.length_replicate]at this;exact this
theorem row_set{d:List Value}{n cap:Nat}(h:RowP d n cap){k:Nat}(hk:k<n)(x:Int):RowP (setL d (0+k*1) [.int .u8 x]) n cap∧zc (setL d (0+k*1) [.int .u8 x]) n=(zc d n).set k x:=by
 have e:setL d (0+k*1) [.int .u8 x]=d.set k (.int .u8 x):=by rw[Nat.zero_add,Nat.mul_one];rfl
 have ht:(d.set k (.int .u8 x)).take n=cz ((zc d n).set k x):=by
  rw[List.take_set,h.take,cz,cz,List.map_set]
 rw[e];refine⟨⟨by rw[ht];exact jem _,?_,by rw[List.length_set];exact h.len,h.le,h.cap⟩,?_⟩
 ·refine ja8.2 fun v hv=> ?_
  rcases List.mem_or_eq_of_mem_set hv with hv | hv
  ·exact ja8.1 h.plain v hv
  ·rw[hv];rfl
 ·show List.map iv ((d.set k (.int .u8 x)).take n)=_;rw[ht];simp[cz,Function.comp_def,iv]
theorem jko:∀(k:Nat)(n:Int),IsB (inB k n)
 | 0,_=>IsB.nil
 | k+1,n=>by
  rw[inB];refine(jko k _).append fun c hc=> ?_
  rw[List.mem_singleton.1 hc];omega
def V223_0:Int×Int×ByteArray×Nat×Nat×Int×Int×List Value→List Value:=fun(n,m,r,a,b,L,i,d)=> [I n,I m,S r,.slice (some ⟨200,0,some 1⟩) a b,I L,I i]
def B223_0:Int×Int×ByteArray×Nat×Nat×Int×Int×List Value→List (Option Blk):=fun(n,m,r,a,b,L,i,d)=> [some ⟨d,5,true⟩]
def S223_0:LSpecA (Int×Int×ByteArray×Nat×Nat×Int×Int×List Value) where
 live:=[0,1,4,5,10,11]
 mid:=[200]
 n:=210
 ap:=[(.tmp 5,200)]
 dec vs bs:=match vs,bs with
  | [.int .i64 n,.int .i64 m,.string r,.slice (some ⟨200,0,some 1⟩) a b,.int .i64 L,.int .i64 i],[some ⟨d,5,true⟩]=>some (n,m,r,a,b,L,i,d)
  | _,_=>none
 pre:=fun(n,m,r,a,b,L,i,d)=>jci d a b&&decide (0≤n∧n≤2147483648∧0≤i∧i≤L∧L=m∧m≤1000∧(a:Int)=m)
 fin:=fun(n,m,r,a,b,L,i,d) Z=>∀(n':Int)(d':List Value),jci d' a b=true→zc d' a=inB (m-i).toNat n++(zc d a).drop (m-i).toNat→Z (.exit 0) [I n',I m,S r,.slice (some ⟨200,0,some 1⟩) a b,I L,I L] [some ⟨d',5,true⟩]
theorem r223_0(n:Int)(m:Int)(r:ByteArray)(a:Nat)(b:Nat)(L:Int)(i:Int)(d:List Value)(jk:Tmps)(R:Exit→List Value→List (Option Blk)→Prop):(jbs Tryz.prog K8 noL Tryz.f223.ntmps (ja7 Tryz.f223 0) (tl S223_0.live (V223_0 (n,m,r,a,b,L,i,d)) jk) (ml S223_0.mid (B223_0 (n,m,r,a,b,L,i,d))) S223_0.n fun e t' m' _=>S223_0.out R e t' m')=(qg0 (Nat.ble (qbt (qe5 (IntKind.i64.wrap (m-1)) i)+1) d.length) (qb5 d 200 200) R i L (qe5 (IntKind.i64.wrap (m-1)) i) (qbf d) (S r::qa8 L i 200 a b) a 0 (qdo R n 2 .i64 (setL d (qbt (qe5 (IntKind.i64.wrap (m-1)) i)) [qdf n 2 .i64]) (S r::qa0 L i 200 a b) 200 (qbk m)) (qbk n) (qbk m)):=by kernel_rfl
theorem l223_0:LOKf Tryz.prog (oneL 0 S223_0.hA) Tryz.f223:=by
 refine jbn (h:=S223_0.hA) (by kernel_rfl) (jbq ok_K8 hmix (by kernel_rfl) (ja6 _) S223_0 V223_0 B223_0 (fun(n,m,r,a,b,L,i,d)=>(L-i).toNat) ?_ ?_ ?_)
 ·intro vs bs s h;simp only[S223_0]at h;split at h
  all_goals first | (cases h;exact⟨rfl,rfl⟩) | cases h | (split at h<;>first | (rename_i hq;cases h;have hq:=jah hq;subst hq;exact⟨rfl,rfl⟩) | cases h)
 ·exact fun⟨n,m,r,a,b,L,i,d⟩ hp=>by
   simp only[S223_0,jaf]at hp;simp[V223_0,B223_0,S223_0,ja0,jbx,idsL,ids,jaq (jat.1 hp.1).plain]
 ·intro⟨n,m,r,a,b,L,i,d⟩ jk Z hp hf;rw[r223_0];delta qcp qbm qed qfn qg0 qbk qca qhl qdo qaw qbw qag qbp qfa qa0 qdf qbt qe5 qap qa8 qbf qb5;simp only[S223_0]at hp hf;simp only[jaf,jae]at hp;obtain⟨hr,hn0,hn1,hi0,hiL,hLm,hm,ham⟩:=hp;have hr:=jat.1 hr;have hzl:=ja9 hr;apply cond_intro<;>intro h
  ·have h:=jab h
   have hk:(IntKind.wrap .i64 (IntKind.wrap .i64 (m-1)-i))=((m-i).toNat-1:Nat):=by
    rw[w64 (n:=m-1) (by omega),w64 (by omega)];omega
   rw[hk,Int.toNat_natCast];generalize hkk:(m-i).toNat-1=k;have hka:k<a:=by omega
   obtain⟨g1,g2⟩:=row_set hr hka (48+n%2)
   have hw:IntKind.u8.wrap (IntKind.i64.wrap (48+n.tmod 2))=48+n%2:=by
    rw[Int.tmod_eq_emod_of_nonneg hn0,w64 (by omega),w8 (by omega)]
   have hq:IntKind.i64.wrap (n.tdiv 2)=n/2:=by rw[Int.tdiv_eq_ediv_of_nonneg hn0,w64 (by omega)]
   rw[hw,hq,w64 (n:=i+1) (by omega),g1.good,g1.rlb];have hl:=hr.len;have hle:=hr.le;refine c_t (jaa (by omega)) (c_t (by rw[Nat.ble_eq];omega) (c_t rfl ⟨(n/2,m,r,a,b,L,i+1,_),rfl,rfl,?_,by simp only;omega,fun n' d' h1 h2=>hf n' d' h1 ?_⟩))
   ·simp only[S223_0,jaf,jae];exact⟨jat.2 g1,by omega⟩
   ·have e1:(m-i).toNat=k+1:=by omega
    have e2:(m-(i+1)).toNat=k:=by omega
    rw[h2,e1,e2,g2,inB,List.append_assoc];congr 1;rw[List.drop_set,if_neg (by omega),Nat.sub_self];have:(zc d a).drop k=(zc d a)[k]'(by omega)::(zc d a).drop (k+1):=List.drop_eq_getElem_cons (by omega);rw[this];rfl
  ·have h:=jac h;rw[hr.good,hr.rlb];obtain rfl:i=L:=by omega
   refine c_t rfl (hf n d (jat.2 hr) ?_);rw[show(m-i).toNat=0 by omega];rfl
def s223(n:Int)(m:Int):Bool×Value:=(decide (0≤n∧n≤2147483648∧0≤m∧m≤1000),S (szO (inB m.toNat n)))
theorem fn223:Fn1 Tryz.prog 223 Tryz.f223:= .m Tryz.func223
theorem v223(n:Int)(m:Int)(R:Value→Prop):ja1 Tryz.prog K8 (oneL 0 S223_0.hA) Tryz.f223 [Enc.enc n,Enc.enc m] (fun _=>none) 0 (fun v _ _=>R v)=(qgc (S223_0.toLSpec.pre (n,(m,(qgh,(m.toNat,(m.toNat,(natO m.toNat,((0:Int),rlbL [(2,200)] (zrow (qe7 0) m.toNat))))))))) m 2 (Int→(∀a:List Value,qb6 true (inB (Int.toNat (m-0)) n) (qbj (m-0) [(2,200)] (zrow (qe7 0) m.toNat) m.toNat) a a m.toNat m.toNat 210 R))):=by kernel_rfl
theorem ok223:jan Tryz.prog 223 (sp2 s223):=by
 refine jc5 ok_K8 hmix fn223 l223_0 jag fun n m hc=> ?_
 rw[ja2,v223];delta qa6 qe7 qcn qgc qg5 qgf qb6 qbj qgh;have hc:(0≤n∧n≤2147483648∧0≤m∧m≤1000):=jab hc
 try dsimp only[s223]
 obtain⟨h1,h2,h3,h4⟩:=hc;have hr:=row_zero m.toNat (by omega);rw[hr.good,hr.rlb];refine c_t (by rw[jaa (show 0≤m∧m≤m by omega)];simp only[Bool.true_and,jbw,jaf,Nat.ble_eq];omega) (c_t (by rw[jbg hr.plain];rfl) (c_t ?_ fun n' d' g1 g2=> ?_))
 ·simp only[S223_0,jaf,jae];rw[jb4];exact⟨jat.2 hr,by omega⟩
 ·have g1:=jat.1 g1;rw[Int.sub_zero]at g2;have hzl:=ja9 hr;rw[List.drop_eq_nil_of_le (by omega),List.append_nil]at g2;refine c_t (by rw[jbg g1.plain];rfl) fun _=>c_t g1.str.1 ?_
  rw[g1.str.2,g2,jc0]
end Go.Cx
end
noncomputable section
namespace Go.Cx
open Go Go.Ab Go.Px Go.Cv
theorem u8n{n:Nat}(h:n<10):((UInt8.ofNat (48+n)).toNat:Int)=48+n:=by
 rw[UInt8.toNat_ofNat'];omega
end Go.Cx
end
noncomputable section
namespace Go.Cx
open Go Go.Ab Go.Px Go.Cv
open Go.Fx (Ty Vl check jbd most base pw bnd Fit fits)
theorem dec_digs:∀(k n:Nat),n<10^ (k+1)→jbu (zl (Lib.decDigits n))=true∧zl (Lib.decDigits n)≠ []
 | k,n,h=>by
  have one:∀j,j<10→dig ((UInt8.ofNat (48+j)).toNat:Int)=true:=fun j hj=>by
   rw[u8n hj];unfold dig;exact jaa (by omega)
  rw[Lib.decDigits];by_cases h10:n<10
  ·rw[dif_pos h10];exact⟨by simp only[zl,List.map_cons,List.map_nil,jbu,List.all_cons,List.all_nil,one n h10,Bool.and_self],by simp[zl]⟩
  ·rw[dif_neg h10];cases k with
   | zero=>omega
   | succ k=>
    have ih:=dec_digs k (n/10) (by rw[Nat.pow_succ]at h;omega);refine⟨?_,by simp[zl]⟩;rw[zl,List.map_append];rw[jjj];have e:jbu (List.map (fun b:UInt8=>(b.toNat:Int)) (Lib.decDigits (n/10)))=true:=ih.1;rw[e];simp only[List.map_cons,List.map_nil,jbu,List.all_cons,List.all_nil,one (n%10) (by omega),Bool.and_self]
theorem ito_digs{m:Int}(h:0≤m∧m≤2147483648):jbu (itoZ m)=true∧itoZ m≠ []:=by
 obtain⟨k,rfl⟩:∃k:Nat,m=(k:Int):=⟨m.toNat,by omega⟩
 rw[itoZ,Lib.itoa_nonneg];exact dec_digs 9 k (by omega)
def numA(n q:Int):Num:=ja5 (decide (n<0)) (itoZ (if n<0 then -n else n)) q
end Go.Cx
end
noncomputable section
namespace Go.Ab
open Go Go.RowKit
def eqI(a b:Int):Bool:=match a,b with
 | .ofNat m,.ofNat n=>Nat.beq m n
 | .negSucc m,.negSucc n=>Nat.beq m n
 | _,_=>false
def eqU:List UInt8→List UInt8→Bool
 | [],[]=>true
 | a::l,b::r=>match Nat.beq a.toNat b.toNat with | true=>eqU l r | false=>false
 | _,_=>false
def eqK(a b:IntKind):Bool:=match decEq a b with | .isTrue _=>true | .isFalse _=>false
mutual
def eqV:Value→Value→Bool
 | .int k a,.int k' b=>match eqK k k' with | true=>eqI a b | false=>false
 | .bool a,.bool b=>match a,b with | true,true=>true | false,false=>true | _,_=>false
 | .string ⟨⟨a⟩⟩,.string ⟨⟨b⟩⟩=>eqU a b
 | .agg ⟨l⟩,.agg ⟨r⟩=>eqVL l r
 | .iface t a,.iface t' b=>match Nat.beq t t' with | true=>eqV a b | false=>false
 | .nilIface,.nilIface=>true
 | _,_=>false
def eqVL:List Value→List Value→Bool
 | [],[]=>true
 | a::l,b::r=>match eqV a b with | true=>eqVL l r | false=>false
 | _,_=>false
end
theorem eqI_spec{a b:Int}(h:eqI a b=true):a=b:=by
 unfold eqI at h;split at h
 ·rw[jah h]
 ·rw[jah h]
 ·cases h
theorem eqU_spec:∀{a b:List UInt8},eqU a b=true→a=b
 | [],[],_=>rfl
 | a::l,b::r,h=>by
  simp only[eqU]at h;split at h
  ·rename_i hb;rw[UInt8.toNat_inj.1 (jah hb),eqU_spec h]
  ·cases h
 | [],_::_,h=>by cases h
 | _::_,[],h=>by cases h
theorem eqK_spec{a b:IntKind}(h:eqK a b=true):a=b:=by
 unfold eqK at h;split at h
 ·assumption
 ·cases h
mutual
theorem eqV_spec:∀{a b:Value},eqV a b=true→a=b
 | .int k a,.int k' b,h=>by
  simp only[eqV]at h;split at h
  ·rename_i hk;rw[eqK_spec hk,eqI_spec h]
  ·cases h
 | .bool a,.bool b,h=>by cases a<;>cases b<;>first | rfl | cases h
 | .string ⟨⟨a⟩⟩,.string ⟨⟨b⟩⟩,h=>by
  simp only[eqV]at h;rw[eqU_spec h]
 | .agg ⟨l⟩,.agg ⟨r⟩,h=>by
  simp only[eqV]at h;rw[jfc h]
 | .iface t a,.iface t' b,h=>by
  simp only[eqV]at h;split at h
  ·rename_i ht;rw[jah ht,eqV_spec h]
  ·cases h
 | .nilIface,.nilIface,_=>rfl
theorem jfc:∀{a b:List Value},eqVL a b=true→a=b
 | [],[],_=>rfl
 | a::l,b::r,h=>by
  simp only[eqVL]at h;split at h
  ·rename_i hb;rw[eqV_spec hb,jfc h]
  ·cases h
 | [],_::_,h=>by cases h
 | _::_,[],h=>by cases h
end
def memo:List (List Value×Value)→Spec
 | []=>fun _ _=>none
 | (a,v)::r=>fun args bs=>match eqVL args a with | true=>some (true,v) | false=>memo r args bs
theorem jhw{args:List Value}{bs:List (Option Blk)}{b:Bool}{v:Value}:∀{l:List (List Value×Value)},memo l args bs=some (b,v)→b=true∧(args,v)∈l
 | [],h=>by cases h
 | (a,u)::r,h=>by
  simp only[memo]at h;split at h
  ·rename_i ha;simp only[Option.some.injEq,Prod.mk.injEq]at h;exact⟨h.1.symm,by rw[jfc ha,h.2];exact List.mem_cons_self ..⟩
  ·obtain⟨h1,h2⟩:=jhw h;exact⟨h1,List.mem_cons_of_mem _ h2⟩
variable [Tabs]
def AllD(P:Program)(G:Env)(L:Nat→Option jb3)(fn:Func):List (List Value×Value)→Prop
 | []=>True
 | (a,v)::r=>ja2 P G L fn a v∧AllD P G L fn r
theorem AllD_mem{P:Program}{G:Env}{L:Nat→Option jb3}{fn:Func}{a:List Value}{v:Value}:∀{l:List (List Value×Value)},AllD P G L fn l→(a,v)∈l→ja2 P G L fn a v
 | (a',v')::r,h,hm=>by
  rcases List.mem_cons.1 hm with e | hm
  ·cases e;exact h.1
  ·exact AllD_mem h.2 hm
theorem jec{P:Program}{G:Env}{L:Nat→Option jb3}{f:FuncId}{fn:Func}(hG:jax P G)(hm:P.follows .mixedOrders=true)(hf:Fn1 P f fn)(hL:LOKf P L fn){l:List (List Value×Value)}
  (hp:(l.all fun x=>ja4 x.1&&Nat.ble x.1.length fn.ntmps)=true) (h:AllD P G L fn l):jan P f (memo l):=by
 refine jc7 hG hm hf hL fun args bs v hs=> ?_
 obtain⟨_,hmem⟩:=jhw hs;have:=List.all_eq_true.1 hp _ hmem;simp only[jaf]at this;exact⟨this.1,jag this.2,AllD_mem h hmem⟩
end Go.Ab
end
noncomputable section
set_option maxHeartbeats 3200000
namespace Go.Cx
open Go Go.Ab Go.Proofs Go.Shelf Go.Px Go.Cv
open Go.Fx (Ty Vl check jbd most base pw bnd Fit fits tv vv tup V0 T0 jbh jbl jbe jby str0)
def K9p:Env:=((((((((((Env.nil.add 71 (sp1 s71)).addG 30 (hideS (sp2 s30))).add 322 (sp1 s322)).add 324 (sp1 s324)).addG 24 hidN).add 77 (sp3 s77)).add 115 (sp1 s115)).add 29 (sp1 s29)).add 321 (sp1 s321)).add 78 (sp1 s78)).add 223 (sp2 s223)
theorem ok_K9p:jax Tryz.prog K9p:=jaj (jaj (jaj (jaj (jaj (jaj (jam (jaj (jaj (jam (jaj jao ok71) (jfb ok30)) ok322) ok324) gen_hidN) ok77) ok115) ok29) ok321) ok78) ok223
theorem fn222:Fn1 Tryz.prog 222 Tryz.f222:= .m Tryz.func222
theorem fn170:Fn1 Tryz.prog 170 Tryz.f170:= .m Tryz.func170
theorem fn97:Fn1 Tryz.prog 97 Tryz.f97:= .m Tryz.func97
theorem fn169:Fn1 Tryz.prog 169 Tryz.f169:= .m Tryz.func169
theorem fn101:Fn1 Tryz.prog 101 Tryz.f101:= .m Tryz.func101
theorem fn168:Fn1 Tryz.prog 168 Tryz.f168:= .m Tryz.func168
theorem fn99:Fn1 Tryz.prog 99 Tryz.f99:= .m Tryz.func99
theorem fn34:Fn1 Tryz.prog 34 Tryz.f34:= .m Tryz.func34
theorem x222w(n:Int)(k:Int)(p:Int)(q:Int)(w:Bool)(u:ByteArray)(R:Value→Prop):(ja1 Tryz.prog K9p noL Tryz.f222 [.iface 174 (.agg ⟨[I n,I k,I p,I q,B w,S u]⟩)] (fun _=>none) 0 (fun v _ _=>R v))=(qg8 n (qc3 (qfu n 0) (szO (itoZ (qe5 0 n))) q Value.nilIface R) (qc3 (qfu n 0) (szO (itoZ n)) q Value.nilIface R)):=by kernel_rfl
theorem x222b(s:ByteArray)(R:Value→Prop):(ja1 Tryz.prog K9p noL Tryz.f222 [.iface 175 (S s)] (fun _=>none) 0 (fun v _ _=>R v))=(bif jcb (bz s) &&decide (s.size≤64)then qc3 false (szO (dz (binG (bz s) 0))) 0 Value.nilIface R else False):=by kernel_rfl
theorem x222c(s:ByteArray)(R:Value→Prop):(ja1 Tryz.prog K9p noL Tryz.f222 [.iface 178 (S s)] (fun _=>none) 0 (fun v _ _=>R v))=(bif qbl s then∀a:Bool,∀b:Bool,∀c:ByteArray,∀d:Int,RdN s a b c d→(bif !a then R (qgy [.agg (qat false qgh 0),.iface 119 (.agg ⟨[S s]⟩)])else R (qgy [.agg (qat b c d),Value.nilIface]))else False):=by kernel_rfl
theorem x169(s:ByteArray)(n:Int)(c:ByteArray)(R:Value→Prop):(ja1 Tryz.prog K9p noL Tryz.f169 [S s,I n,S c] (fun _=>none) 0 (fun v _ _=>R v))=(bif decide ((s.size:Int)≥n)then bif decide ((0:Int)≤0∧0≤n∧n≤(s.size:Int))then R (S (ByteArray.extract s 0 n.toNat))else False else bif decide (0≤IntKind.wrap .i64 (n-(s.size:Int))∧IntKind.wrap .i64 (n-(s.size:Int))≤1000∧c.size≤1000)then∀(s':ByteArray),szO (repZ (bz c) (IntKind.wrap .i64 (n-(s.size:Int))).toNat)=s'→bif jb0 (s.size+s'.size)then R (S (s++s'))else False else False):=by kernel_rfl
def divT:Nat→Int→Int
 | 0,n=>n
 | k+1,n=>divT k (n/10)
theorem divT_rng:∀(k:Nat)(n:Int),0≤n→0≤divT k n∧divT k n≤n
 | 0,n,h=>⟨h,Int.le_refl _⟩
 | k+1,n,h=>by
  have:=divT_rng k (n/10) (by omega);rw[divT];omega
def V170_1:Int×Int×Int×Int×Bool×ByteArray×Int×Int×Int→List Value:=fun(m,k,p,q,w,u,n,Q,i)=> [.pointer (some ⟨6,0,some 0⟩),I n,I Q,I i]
def B170_1:Int×Int×Int×Int×Bool×ByteArray×Int×Int×Int→List (Option Blk):=fun(m,k,p,q,w,u,n,Q,i)=> [some ⟨[I m,I k,I p,I q,B w,S u],174,true⟩]
def S170_1:LSpec (Int×Int×Int×Int×Bool×ByteArray×Int×Int×Int) where
 live:=[4,5,21,22]
 mid:=[6]
 n:=60
 dec vs bs:=match vs,bs with | [.pointer (some ⟨6,0,some 0⟩),.int .i64 n,.int .i64 Q,.int .i64 i],[some ⟨[.int .i64 m,.int .i64 k,.int .i64 p,.int .i64 q,.bool w,.string u],174,true⟩]=>some (m,k,p,q,w,u,n,Q,i) | _,_=>none
 pre:=fun(m,k,p,q,w,u,n,Q,i)=>decide (0≤n∧n≤2147483648∧0≤i∧i≤Q∧Q≤1000)
 fin:=fun(m,k,p,q,w,u,n,Q,i) Z=>Z (.exit 1) [.pointer (some ⟨6,0,some 0⟩),I (divT (Q-i).toNat n),I Q,I Q] [some ⟨[I m,I k,I p,I q,B w,S u],174,true⟩]
theorem r170_1(m:Int)(k:Int)(p:Int)(q:Int)(w:Bool)(u:ByteArray)(n:Int)(Q:Int)(i:Int)(jk:Tmps)(R:Exit→List Value→List (Option Blk)→Prop):(jbs Tryz.prog K9p noL Tryz.f170.ntmps (ja7 Tryz.f170 1) (tl S170_1.live (V170_1 (m,k,p,q,w,u,n,Q,i)) jk) (ml S170_1.mid (B170_1 (m,k,p,q,w,u,n,Q,i))) S170_1.n fun e t' m' _=>R e (List.map t' S170_1.live) (List.map m' S170_1.mid))=(bif qfn i Q then R .normal (qab 6::qfx (n.tdiv 10)::qag Q i) [qhl true [qbk m,qbk k,qbk p,qbk q,B w,S u] 174]else R (.exit 1) (qab 6::qbk n::qap Q i) [qhl true [qbk m,qbk k,qbk p,qbk q,B w,S u] 174]):=by kernel_rfl
theorem l170_1:LOKf Tryz.prog (oneL 1 S170_1.h) Tryz.f170:=by
 refine jbn (h:=S170_1.h) (by kernel_rfl) (jbk ok_K9p hmix (by kernel_rfl) (ja6 _) S170_1 V170_1 B170_1 (fun(m,k,p,q,w,u,n,Q,i)=>(Q-i).toNat) ?_ ?_ ?_)
 ·intro vs bs s h;simp only[S170_1]at h;split at h
  all_goals first | (cases h;exact⟨rfl,rfl⟩) | cases h | (split at h<;>first | (rename_i hq;cases h;have hq:=jah hq;subst hq;exact⟨rfl,rfl⟩) | cases h)
 ·exact fun _ _ _ h=>h
 ·intro⟨m,k,p,q,w,u,n,Q,i⟩ jk Z hp hf;rw[r170_1];delta qhl qbk qap qbp qab qaw qbw qag qfx qfn;simp only[S170_1]at hp hf;have hp:=jab hp;apply cond_intro<;>intro h
  ·have h:=jab h;rw[show(Q-i).toNat=(Q-(i+1)).toNat+1 by omega,divT]at hf;rw[Int.tdiv_eq_ediv_of_nonneg hp.1,w64 (n:=n/10) (by omega),w64 (n:=i+1) (by omega)];exact⟨(m,k,p,q,w,u,n/10,Q,i+1),rfl,rfl,by simp only[S170_1,jae];omega,by simp only;omega,hf⟩
  ·have h:=jac h;obtain rfl:i=Q:=by omega
   rw[Int.sub_self]at hf;exact hf
def qck(e:Bool)(f:ByteArray)(a b c d g:Int)(h:Value→Prop):Prop:=bif S170_1.pre (a,(b,(c,(d,(e,(f,(g,(d,(0:Int)))))))))then qhp (qb2 d c 1000 0 d) (qgf (qfc 0 (divT (Int.toNat (d-0)) g) 2147483648 0 (if b=2 then c else(332*(c-d)+99)/100) 1000) (qgy [S (szO (inB (if b=2 then c else(332*(c-d)+99)/100).toNat (divT (Int.toNat (d-0)) g))),Value.nilIface]) h) False else False
theorem x170w(n:Int)(k:Int)(p:Int)(q:Int)(w:Bool)(u:ByteArray)(R:Value→Prop):(ja1 Tryz.prog K9p (oneL 1 S170_1.h) Tryz.f170 [.iface 174 (.agg ⟨[I n,I k,I p,I q,B w,S u]⟩)] (fun _=>none) 0 (fun v _ _=>R v))=(bif qfu n 0 then qck w u n k p q (qe5 0 n) R else qck w u n k p q n R):=by kernel_rfl
theorem x170b(s:ByteArray)(R:Value→Prop):(ja1 Tryz.prog K9p (oneL 1 S170_1.h) Tryz.f170 [.iface 175 (S s)] (fun _=>none) 0 (fun v _ _=>R v))=(R (.tuple (.mk [S s,Value.nilIface]))):=by kernel_rfl
theorem x170c(s:ByteArray)(R:Value→Prop):(ja1 Tryz.prog K9p (oneL 1 S170_1.h) Tryz.f170 [.iface 178 (S s)] (fun _=>none) 0 (fun v _ _=>R v))=(qcf (qbl s) (jcb (bz s)) (qgy [S s,Value.nilIface]) (qgy [qfr,.iface 119 (.agg ⟨[S s]⟩)]) R):=by kernel_rfl
def jfw(l:List Int)(n:Nat)(c:Int):List Int:=l.take n++List.replicate (n-l.length) c
def jf6(t:Ty):Int:=if t.k=2 then t.p else(332*(t.p-t.q)+99)/100
def absI(n:Int):Int:=if n<0 then -n else n
def s222:Ab.Spec:=fun args _=>match args with
 | [.iface 174 (.agg ⟨[.int .i64 n,.int .i64 _,.int .i64 _,.int .i64 q,.bool _,.string _]⟩)]=>some (decide (-2147483648≤n∧n≤2147483648∧0≤q∧q≤9),.tuple ⟨[numV (numA n q),.nilIface]⟩)
 | [.iface 175 (.string s)]=>some (jcb (bz s) &&decide (s.size≤64),.tuple ⟨[numV (ja5 false (binD (bz s)) 0),.nilIface]⟩)
 | [.iface 178 (.string s)]=>some (decide (s.size≤9223372036854775807),.tuple ⟨[numV ((rdN (bz s)).getD num0),if(rdN (bz s)).isSome=true then .nilIface else .iface 119 (.agg ⟨[.string s]⟩)]⟩)
 | _=>none
def s170:Ab.Spec:=fun args _=>match args with
 | [.iface 174 (.agg ⟨[.int .i64 n,.int .i64 k,.int .i64 p,.int .i64 q,.bool w,.string u]⟩)]=>some (decide (jbd ⟨k,p,q,w,u⟩∧ -2147483648≤n∧n≤2147483648),.tuple ⟨[S (szO (inB (jf6 ⟨k,p,q,w,u⟩).toNat (divT q.toNat (absI n)))),.nilIface]⟩)
 | [.iface 175 (.string s)]=>some (true,.tuple ⟨[S s,.nilIface]⟩)
 | [.iface 178 (.string s)]=>some (decide (s.size≤9223372036854775807),.tuple ⟨[if jcb (bz s)=true then S s else S ⟨#[]⟩,if jcb (bz s)=true then .nilIface else .iface 119 (.agg ⟨[.string s]⟩)]⟩)
 | _=>none
def s97:Ab.Spec:=fun args _=>match args with
 | [.agg ⟨[.int .i64 n,.string s]⟩,.agg ⟨[.int .i64 k,.int .i64 p,.int .i64 q,.bool w,.string u]⟩]=>match eqI k 1,eqI k 2,eqI k 3,eqI k 4 with
  | true,_,_,_=>some (true,.iface 174 (.agg ⟨[.int .i64 n,.int .i64 1,.int .i64 p,.int .i64 q,.bool w,.string u]⟩))
  | _,true,_,_=>some (true,.iface 174 (.agg ⟨[.int .i64 n,.int .i64 2,.int .i64 p,.int .i64 q,.bool w,.string u]⟩))
  | _,_,true,_=>some (true,.iface 178 (.string s))
  | _,_,_,true=>some (true,.iface 175 (.string s))
  | _,_,_,_=>none
 | _=>none
def s169(s:ByteArray)(n:Int)(c:ByteArray):Bool×Value:=(decide (0≤n∧n≤1000) &&oneB c,S (szO (jfw (bz s) n.toNat ((bz c).getD 0 0))))
theorem num_abs{n q:Int}(h: -2147483648≤n∧n≤2147483648)(hq:0≤q∧q≤9){x:Value}{m:Int}(hm:(if n<0 then -n else n)=m)
  (hx:x= .tuple ⟨[numV (ja5 (decide (n<0)) (bz (szO (itoZ m))) q),.nilIface]⟩):x= .tuple ⟨[numV (numA n q),.nilIface]⟩:=by
 rw[hx,jdd (ito_isB _),numA,hm]
theorem ok222:jan Tryz.prog 222 s222:=by
 refine jc7 ok_K9p hmix fn222 jai fun args bs v hs=> ?_
 unfold s222 at hs;split at hs
 ·rename_i n k p q w u;simp only[Option.some.injEq,Prod.mk.injEq,jae]at hs;obtain⟨⟨h1,h2,h3,h4⟩,rfl⟩:=hs;refine⟨rfl,jag,?_⟩;rw[ja2,x222w];delta qcn qe5 qfu qg8 qgy qbk qat qbq qcu qc3;apply cond_intro<;>intro h
  ·have h:=jab h;have hl:=jf2 (m:=0-n) (by omega);rw[w64 (n:=0-n) (by omega)];refine c_t (jaa (by omega)) (c_t (jaa ⟨by rw[jcx];omega,by omega,by omega⟩) ?_);exact num_abs ⟨h1,h2⟩ ⟨h3,h4⟩ (by rw[if_pos h];omega) rfl
  ·have h:=jac h;have hl:=jf2 (m:=n) (by omega);refine c_t (jaa (by omega)) (c_t (jaa ⟨by rw[jcx];omega,by omega,by omega⟩) ?_);exact num_abs ⟨h1,h2⟩ ⟨h3,h4⟩ (by rw[if_neg h]) rfl
 ·rename_i s;simp only[Option.some.injEq,Prod.mk.injEq,jaf,jae]at hs;obtain⟨⟨h1,h2⟩,rfl⟩:=hs;refine⟨rfl,jag,?_⟩;rw[ja2,x222b];delta qgy qbk qat qbq qcu qc3;have hb:=bin_64 h1 (by rw[jap];exact h2);have hd:=jlk 20 (binG (bz s) 0) hb.1 (Int.lt_of_lt_of_le hb.2 (by decide));refine c_t (by rw[h1,jaa h2];rfl) (c_t (jaa ⟨by rw[jcx];omega,by omega,by omega⟩) ?_);rw[jdd (dz_isB _),jkk]
 ·rename_i s;simp only[Option.some.injEq,Prod.mk.injEq,jae]at hs;obtain⟨h1,rfl⟩:=hs;refine⟨rfl,jag,?_⟩;rw[ja2,x222c];delta qgy qbk qat qgh qbl;refine c_t (jaa h1) fun b g d c hR=> ?_
  rcases hR with⟨r,rfl,rfl,rfl,rfl⟩ | ⟨l,r,rfl,rfl⟩
  ·refine c_t rfl ?_;rw[r];show _=Value.tuple ⟨[.agg ⟨[.bool false,.string (szO []),.int .i64 0]⟩,.iface 119 (.agg ⟨[.string s]⟩)]⟩;rw[jgm]
  ·refine c_f rfl ?_;rw[r];rfl
 ·cases hs
theorem ok170:jan Tryz.prog 170 s170:=by
 refine jc7 ok_K9p hmix fn170 l170_1 fun args bs v hs=> ?_
 unfold s170 at hs;split at hs
 ·rename_i n k p q w u;simp only[Option.some.injEq,Prod.mk.injEq,jae]at hs;obtain⟨⟨hv,h1,h2⟩,rfl⟩:=hs;obtain⟨v1,v2,v3,v4,v5⟩:=Fx.valid_r hv;simp only at v1 v2 v3 v4 v5;refine⟨rfl,jag,?_⟩;rw[ja2,x170w];delta qhp qgf qgy qfc qb2 qck qe5 qfu;have hbw:0≤jf6 ⟨k,p,q,w,u⟩∧jf6 ⟨k,p,q,w,u⟩≤200:=by unfold jf6;simp only;split<;>omega
  have key:∀m:Int,absI n=m→0≤m∧m≤2147483648→LSpec.pre S170_1 (n,k,p,q,w,u,m,q,0)=true∧0≤divT (q-0).toNat m∧divT (q-0).toNat m≤2147483648∧divT (q-0).toNat m=divT q.toNat (absI n):=fun m hm hr=>by
   have:=divT_rng (q-0).toNat m hr.1;refine⟨by simp only[S170_1,jae];omega,by omega,by omega,by rw[hm,Int.sub_zero]⟩
  apply cond_intro<;>intro h
  ·have h:=jab h;rw[w64 (n:=0-n) (by omega)];obtain⟨k1,k2,k3,k4⟩:=key (0-n) (by unfold absI;rw[if_pos h];omega) (by omega);refine c_t k1 fun x=>c_t (jaa ⟨v4,by omega,v3⟩) (c_t (jaa ⟨k2,k3,hbw.1,by have:=hbw.2;show jf6 ⟨k,p,q,w,u⟩≤1000;omega⟩) ?_)
   rw[k4];rfl
  ·have h:=jac h;obtain⟨k1,k2,k3,k4⟩:=key n (by unfold absI;rw[if_neg h]) (by omega);refine c_t k1 fun x=>c_t (jaa ⟨v4,by omega,v3⟩) (c_t (jaa ⟨k2,k3,hbw.1,by have:=hbw.2;show jf6 ⟨k,p,q,w,u⟩≤1000;omega⟩) ?_)
   rw[k4];rfl
 ·rename_i s;simp only[Option.some.injEq,Prod.mk.injEq]at hs;obtain⟨-,rfl⟩:=hs;refine⟨rfl,jag,?_⟩;rw[ja2,x170b]
 ·rename_i s;simp only[Option.some.injEq,Prod.mk.injEq,jae]at hs;obtain⟨h1,rfl⟩:=hs;refine⟨rfl,jag,?_⟩;rw[ja2,x170c];delta qcf qgy qgh qfr qbl;refine c_t (jaa h1) (cond_intro (fun h=> ?_) (fun h=> ?_))
  ·rw[if_pos h,if_pos h]
  ·rw[if_neg (by rw[h];decide),if_neg (by rw[h];decide)]
 ·cases hs
theorem ok169:jan Tryz.prog 169 (sp3 s169):=by
 refine jg6 ok_K9p hmix fn169 jai jag fun s n c hc=> ?_
 have hc:(decide (0≤n∧n≤1000) &&oneB c)=true:=hc;simp only[jaf,jae]at hc;obtain⟨⟨h0,h1⟩,ho⟩:=hc;obtain⟨ch,hc1,hc2⟩:=jef ho;rw[ja2];have hx:=x169 s n c (fun v=>v=(s169 s n c).2);rw[show(Enc.enc s:Value)= .string s from rfl,show(Enc.enc n:Value)= .int .i64 n from rfl,show(Enc.enc c:Value)= .string c from rfl,hx]
 have hb:bz c=[(bz c).getD 0 0]:=by
  have:c.size=1:=by rw[hc1];rfl
  have hl:(bz c).length=1:=by rw[jap];exact this
  match hq:bz c,hl with
  | [a],_=>rfl
 generalize hd:(bz c).getD 0 0=d at hb;have hcs:c.size=1:=by rw[←jap,hb];rfl
 show _;unfold s169;rw[hd];apply cond_intro<;>intro h
 ·have h:=jab h;refine c_t (jaa (by omega)) ?_;rw[jfw,show n.toNat-(bz s).length=0 by rw[jap];omega,List.replicate_zero,List.append_nil,←jjr,jc0,jg5]
 ·have h:=jac h;rw[w64 (n:=n-(s.size:Int)) (by omega)];refine c_t (jaa ⟨by omega,by omega,by omega⟩) fun s' e=> ?_
  rw[hb,jhq]at e;have hdB:IsB [d]:=by rw[←hb];exact jd0 c
  have hrB:IsB (List.replicate (n-(s.size:Int)).toNat d):=fun x hx=>by rw[List.eq_of_mem_replicate hx];exact hdB d (List.mem_singleton.2 rfl)
  have b':bz s'=List.replicate (n-(s.size:Int)).toNat d:=by rw[←e,jdd hrB]
  have z':s'.size=(n-(s.size:Int)).toNat:=by rw[←jap,b',List.length_replicate]
  refine c_t (fitN (by omega)) ?_;rw[jfw,List.take_of_length_le (by rw[jap];omega),show n.toNat-(bz s).length=(n-(s.size:Int)).toNat by rw[jap];omega,←b',←jcv,jc0,jg5]
structure NumIs (x y:Num):Prop where
 h:x=y
structure RdIs (s:ByteArray)(x:Option Num):Prop where
 h:rdN (bz s)=x
structure StrIs (x:List Int)(s:ByteArray):Prop where
 h:szO x=s
structure BitsIs (s:ByteArray)(b:Bool):Prop where
 h:jcb (bz s)=b
theorem jdl{P:Program}{f:FuncId}{s:Ab.Spec}(h:jan P f s){H:List Value→Lk→Nat→(Value→Lk→Nat→Prop)→Prop}
  (hH:∀args m n K,H args m n K→ ∃v,s args (args.map (blkOf m))=some (true,v)∧plain v=true∧K v m n):jc3 P f H:=by
 obtain⟨hc,hp⟩:=h;refine⟨hc,fun args m n K hh N w0 ι w hrel hwf hargs=> ?_⟩;obtain⟨v,hs,hv,hk⟩:=hH args m n K hh;refine(hp args v N w0 m ι w hrel hs hv).mono fun e' w' ⟨h1,h2⟩=> ?_
 exact⟨v,m,n,ι,by rw[h1,jba _ hv],hk,Nat.le_refl _,fun _ _=>rfl,hrel.grow h2,hwf,by simp[jbm hv]⟩
def jlf:List Value→Lk→Nat→(Value→Lk→Nat→Prop)→Prop:=fun args m n K=>match args with
 | [.iface 174 (.agg ⟨[.int .i64 a,.int .i64 _,.int .i64 _,.int .i64 q,.bool _,.string _]⟩)]=>match cnd (decide (-2147483648≤a∧a≤2147483648∧0≤q∧q≤9))with
  | true=>∀x:Num,NumIs (numA a q) x→K (.tuple ⟨[numV x,.nilIface]⟩) m n
  | false=>False
 | [.iface 175 (.string s)]=>match cnd (jcb (bz s) &&decide (s.size≤64))with
  | true=>∀x:Num,NumIs (ja5 false (binD (bz s)) 0) x→K (.tuple ⟨[numV x,.nilIface]⟩) m n
  | false=>False
 | [.iface 178 (.string s)]=>match cnd (decide (s.size≤9223372036854775807))with
  | true=>(∀x:Num,RdIs s (some x)→K (.tuple ⟨[numV x,.nilIface]⟩) m n)∧(RdIs s none→K (.tuple ⟨[.agg ⟨[.bool false,.string ⟨#[]⟩,.int .i64 0]⟩,.iface 119 (.agg ⟨[.string s]⟩)]⟩) m n)
  | false=>False
 | _=>False
theorem gen_hid222:jc3 Tryz.prog 222 jlf:=by
 refine jdl ok222 fun args m n K hh=> ?_
 unfold jlf at hh;split at hh
 ·split at hh
  case h_2=>exact hh.elim
  rename_i hcc;exact⟨_,congrArg some (Prod.ext hcc rfl),rfl,hh _ ⟨rfl⟩⟩
 ·split at hh
  case h_2=>exact hh.elim
  rename_i hcc;exact⟨_,congrArg some (Prod.ext hcc rfl),rfl,hh _ ⟨rfl⟩⟩
 ·split at hh
  case h_2=>exact hh.elim
  rename_i s _ hcc;cases hr:rdN (bz s)with
  | some x=>
   refine⟨_,congrArg some (Prod.ext hcc rfl),?_,?_⟩
   ·rw[hr];rfl
   ·rw[hr];exact hh.1 x ⟨hr⟩
  | none=>
   refine⟨_,congrArg some (Prod.ext hcc rfl),?_,?_⟩
   ·rw[hr];rfl
   ·rw[hr];have:=hh.2 ⟨hr⟩;rw[←jgm]at this;exact this
 ·exact hh.elim
def jlg:List Value→Lk→Nat→(Value→Lk→Nat→Prop)→Prop:=fun args m n K=>match args with
 | [.iface 174 (.agg ⟨[.int .i64 a,.int .i64 k,.int .i64 p,.int .i64 q,.bool w,.string u]⟩)]=>match cnd (decide (jbd ⟨k,p,q,w,u⟩∧ -2147483648≤a∧a≤2147483648))with
  | true=>∀s:ByteArray,StrIs (inB (jf6 ⟨k,p,q,w,u⟩).toNat (divT q.toNat (absI a))) s→K (.tuple ⟨[S s,.nilIface]⟩) m n
  | false=>False
 | [.iface 175 (.string s)]=>K (.tuple ⟨[S s,.nilIface]⟩) m n
 | [.iface 178 (.string s)]=>match cnd (decide (s.size≤9223372036854775807))with
  | true=>(BitsIs s true→K (.tuple ⟨[S s,.nilIface]⟩) m n)∧(BitsIs s false→K (.tuple ⟨[S ⟨#[]⟩,.iface 119 (.agg ⟨[.string s]⟩)]⟩) m n)
  | false=>False
 | _=>False
theorem gen_hid170:jc3 Tryz.prog 170 jlg:=by
 refine jdl ok170 fun args m n K hh=> ?_
 unfold jlg at hh;split at hh
 ·split at hh
  case h_2=>exact hh.elim
  rename_i hcc;exact⟨_,congrArg some (Prod.ext hcc rfl),rfl,hh _ ⟨rfl⟩⟩
 ·exact⟨_,rfl,rfl,hh⟩
 ·split at hh
  case h_2=>exact hh.elim
  rename_i s _ hcc;cases hr:jcb (bz s)with
  | true=>
   refine⟨_,congrArg some (Prod.ext hcc rfl),?_,?_⟩
   ·rw[hr];rfl
   ·rw[hr];exact hh.1 ⟨hr⟩
  | false=>
   refine⟨_,congrArg some (Prod.ext hcc rfl),?_,?_⟩
   ·rw[hr];rfl
   ·rw[hr];exact hh.2 ⟨hr⟩
 ·exact hh.elim
instance tabsU:Tabs:=tabs
def Ua:Env:=(Env.nil.add 146 (sp2 Px.s22)).add 61 (sp1 Px.s46)
def Ub:Env:=((Env.nil.addG 222 jlf).addG 170 jlg).addG 224 (inlQ Tryz.prog Ua noL Tryz.f224)
theorem fn224:Fn1 Tryz.prog 224 Tryz.f224:= .m Tryz.func224
theorem ok_Ua:jax Tryz.prog Ua:=jaj (jaj jao Px.ok22) Px.ok46
theorem ok_Ub:jax Tryz.prog Ub:=jam (jam (jam jao gen_hid222) gen_hid170) (jas ok_Ua hmix fn224 jai)
def qea(a b:Int)(c:Prop):Prop:=bif qfc (-2147483648) a 2147483648 0 b 9 then c else False
theorem u222(s:ByteArray)(p:ByteArray)(R:Value→Prop):(ja1 Tryz.prog Ub noL Tryz.f222 [.iface 177 (.agg ⟨[.string s,.string p]⟩)] (fun _=>none) 0 (fun v _ _=>R v))=(bif qb8 s p.size 9223372036854775807 9223372036854775807 then bif qbl p then qea (rdV (bz p) (bz s)).fst (pQ (bz p)) (∀a:Cv.Num,NumIs (numA (rdV (bz p) (bz s)).fst (pQ (bz p))) a→R (qgy [qbq a,Value.nilIface]))else False else False):=by kernel_rfl
def qdb(a:ByteArray):Fx.Ty:=Fx.Ty.mk (tyK (bz a)) (tyP (bz a)) (pQ (bz a)) false qgh
def qds(a:Fx.Ty)(b c:Int):Bool:=decide (Fx.jbd a∧ -b≤c∧c≤b)
theorem u170(s:ByteArray)(p:ByteArray)(R:Value→Prop):(ja1 Tryz.prog Ub noL Tryz.f170 [.iface 177 (.agg ⟨[.string s,.string p]⟩)] (fun _=>none) 0 (fun v _ _=>R v))=(bif qb8 s p.size 9223372036854775807 9223372036854775807 then qe1 (qds (qdb p) 2147483648 (rdV (bz p) (bz s)).fst) p (∀a:ByteArray,StrIs (inB (jf6 (qdb p)).toNat (divT (pQ (bz p)).toNat (absI (rdV (bz p) (bz s)).fst))) a→R (qgy [.string a,Value.nilIface])) False else False):=by kernel_rfl
theorem rdV_r{s t:ByteArray}(h:pN (bz s)=true): -1000000000<(rdV (bz s) (bz t)).1∧(rdV (bz s) (bz t)).1<1000000000:=by
 have hp:=jd4 h;have hv:=jhu (jed s) h (rdA (bz s) (bz t));obtain⟨g1,g2,g3,g4,g5,g6⟩:=hv;have hr:0≤rdA (bz s) (bz t)∧rdA (bz s) (bz t)<1000000000:=jgc _ _ 0 0 (by omega) (by decide) (by omega);unfold rdV;rw[if_pos h]
 repeat' split
 all_goals (simp only;omega)
abbrev pT(p:ByteArray):Ty:=⟨tyK (bz p),tyP (bz p),pQ (bz p),false,⟨#[]⟩⟩
theorem pT_v{p:ByteArray}(h:pN (bz p)=true):jbd (pT p)∧0≤pQ (bz p)∧pQ (bz p)≤9:=by
 obtain⟨h1,h2,h3,h4⟩:=jd4 h;have hv:=jdc h
 have e:tyK (bz p)=1∧tyP (bz p)=pD (bz p):=by
  unfold tyK tyP;rw[if_pos hv,if_pos hv,if_pos h,if_pos h];exact⟨rfl,rfl⟩
 refine⟨⟨.inl e.1,?_,?_,h3,?_,?_,rfl,by rw[ByteArray.toList_eq]⟩,h3,by omega⟩
 ·show 1≤tyP (bz p);omega
 ·show tyP (bz p)≤most (tyK (bz p));rw[e.1];unfold most;rw[if_pos rfl];omega
 ·show pQ (bz p)≤tyP (bz p);omega
 ·show tyK (bz p)=2→_;omega
def s222s:Ab.Spec:=fun args _=>match args with
 | [.iface 177 (.agg ⟨[.string s,.string p]⟩)]=>some (pN (bz p) &&decide (s.size≤9223372036854775807∧p.size≤9223372036854775807),.tuple ⟨[numV (numA (rdV (bz p) (bz s)).1 (pQ (bz p))),.nilIface]⟩)
 | _=>none
theorem ok222s:jan Tryz.prog 222 s222s:=by
 refine jc7 ok_Ub hmix fn222 jai fun args bs v hs=> ?_
 unfold s222s at hs;split at hs
 case h_2=>cases hs
 rename_i s p;simp only[Option.some.injEq,Prod.mk.injEq,jaf,jae]at hs;obtain⟨⟨hn,h1,h2⟩,rfl⟩:=hs;refine⟨rfl,jag,?_⟩;rw[ja2,u222];delta qfc qea qgy qbk qat qbq qbl qb8;have hr:=rdV_r (t:=s) hn;have hp:=pT_v hn;exact c_t (jaa ⟨h2,h1⟩) (c_t (jaa h2) (c_t (jaa (by omega)) fun x hx=>by rw[←hx.h]))
def s170s:Ab.Spec:=fun args _=>match args with
 | [.iface 177 (.agg ⟨[.string s,.string p]⟩)]=>some (pN (bz p) &&decide (s.size≤9223372036854775807∧p.size≤9223372036854775807),.tuple ⟨[S (szO (inB (jf6 (pT p)).toNat (divT (pQ (bz p)).toNat (absI (rdV (bz p) (bz s)).1)))),.nilIface]⟩)
 | _=>none
theorem ok170s:jan Tryz.prog 170 s170s:=by
 refine jc7 ok_Ub hmix fn170 jai fun args bs v hs=> ?_
 unfold s170s at hs;split at hs
 case h_2=>cases hs
 rename_i s p;simp only[Option.some.injEq,Prod.mk.injEq,jaf,jae]at hs;obtain⟨⟨hn,h1,h2⟩,rfl⟩:=hs;refine⟨rfl,jag,?_⟩;rw[ja2,u170];delta qbl qe1 qgy qgh qdb qds qb8;have hr:=rdV_r (t:=s) hn;have hp:=pT_v hn;exact c_t (jaa ⟨h2,h1⟩) (c_t (jaa h2) (c_t (jaa ⟨hp.1,by omega,by omega⟩) fun x hx=>by rw[←hx.h]))
def hu222:List Value→Lk→Nat→(Value→Lk→Nat→Prop)→Prop:=fun args m n K=>match args with
 | [.iface 177 (.agg ⟨[.string s,.string p]⟩)]=>match cnd (pN (bz p) &&decide (s.size≤9223372036854775807∧p.size≤9223372036854775807))with
  | true=>∀x:Num,NumIs (numA (rdV (bz p) (bz s)).1 (pQ (bz p))) x→K (.tuple ⟨[numV x,.nilIface]⟩) m n
  | false=>False
 | _=>jlf args m n K
def hu170:List Value→Lk→Nat→(Value→Lk→Nat→Prop)→Prop:=fun args m n K=>match args with
 | [.iface 177 (.agg ⟨[.string s,.string p]⟩)]=>match cnd (pN (bz p) &&decide (s.size≤9223372036854775807∧p.size≤9223372036854775807))with
  | true=>∀b:ByteArray,StrIs (inB (jf6 (pT p)).toNat (divT (pQ (bz p)).toNat (absI (rdV (bz p) (bz s)).1))) b→K (.tuple ⟨[S b,.nilIface]⟩) m n
  | false=>False
 | _=>jlg args m n K
theorem gen_two{f:FuncId}{H1 H2 H:List Value→Lk→Nat→(Value→Lk→Nat→Prop)→Prop}(h1:jc3 Tryz.prog f H1)(h2:jc3 Tryz.prog f H2)(h:∀args m n K,H args m n K→H1 args m n K∨H2 args m n K):jc3 Tryz.prog f H:=
 ⟨h1.1,fun args m n K hh=>(h args m n K hh).elim (fun q=>h1.2 args m n K q) (fun q=>h2.2 args m n K q)⟩
def hs222:List Value→Lk→Nat→(Value→Lk→Nat→Prop)→Prop:=fun args m n K=>match args with
 | [.iface 177 (.agg ⟨[.string s,.string p]⟩)]=>match cnd (pN (bz p) &&decide (s.size≤9223372036854775807∧p.size≤9223372036854775807))with
  | true=>∀x:Num,NumIs (numA (rdV (bz p) (bz s)).1 (pQ (bz p))) x→K (.tuple ⟨[numV x,.nilIface]⟩) m n
  | false=>False
 | _=>False
theorem gen_hs222:jc3 Tryz.prog 222 hs222:=by
 refine jdl ok222s fun args m n K hh=> ?_
 unfold hs222 at hh;split at hh
 case h_2=>exact hh.elim
 split at hh
 case h_2=>exact hh.elim
 rename_i hcc;exact⟨_,congrArg some (Prod.ext hcc rfl),rfl,hh _ ⟨rfl⟩⟩
theorem gen_hu222:jc3 Tryz.prog 222 hu222:=gen_two gen_hs222 gen_hid222 fun args m n K hh=>by
 unfold hu222 at hh;split at hh
 ·exact .inl hh
 ·exact .inr hh
def hs170:List Value→Lk→Nat→(Value→Lk→Nat→Prop)→Prop:=fun args m n K=>match args with
 | [.iface 177 (.agg ⟨[.string s,.string p]⟩)]=>match cnd (pN (bz p) &&decide (s.size≤9223372036854775807∧p.size≤9223372036854775807))with
  | true=>∀b:ByteArray,StrIs (inB (jf6 (pT p)).toNat (divT (pQ (bz p)).toNat (absI (rdV (bz p) (bz s)).1))) b→K (.tuple ⟨[S b,.nilIface]⟩) m n
  | false=>False
 | _=>False
theorem gen_hs170:jc3 Tryz.prog 170 hs170:=by
 refine jdl ok170s fun args m n K hh=> ?_
 unfold hs170 at hh;split at hh
 case h_2=>exact hh.elim
 split at hh
 case h_2=>exact hh.elim
 rename_i hcc;exact⟨_,congrArg some (Prod.ext hcc rfl),rfl,hh _ ⟨rfl⟩⟩
theorem gen_hu170:jc3 Tryz.prog 170 hu170:=gen_two gen_hs170 gen_hid170 fun args m n K hh=>by
 unfold hu170 at hh;split at hh
 ·exact .inl hh
 ·exact .inr hh
structure EdIs (p:ByteArray)(n q:Int)(x:ByteArray×Bool×Int):Prop where
 h:(sz (edS (bz p) n q),edF (bz p) n q,edE (bz p) q)=x
def hu171:List Value→Lk→Nat→(Value→Lk→Nat→Prop)→Prop:=fun args m n K=>match args with
 | [.int .i64 a,.int .i64 q,.string p]=>match cnd (decide (p.size≤9223372036854775807∧ -9223372036854775808≤a∧a≤9223372036854775807))with
  | true=>∀(s:ByteArray)(b:Bool)(e:Int),EdIs p a q (s,b,e)→K (.tuple ⟨[S s,B b,I e]⟩) m n
  | false=>False
 | _=>False
theorem gen_hu171:jc3 Tryz.prog 171 hu171:=by
 refine jdl Px.ok20 fun args m n K hh=> ?_
 unfold hu171 at hh;split at hh
 case h_2=>exact hh.elim
 split at hh
 case h_2=>exact hh.elim
 rename_i hcc;exact⟨_,congrArg some (Prod.ext hcc rfl),rfl,hh _ _ _ ⟨rfl⟩⟩
structure HoIs (p s:ByteArray)(b:Bool):Prop where
 h:hoZ (bz p) (bz s)=b
def hu72:List Value→Lk→Nat→(Value→Lk→Nat→Prop)→Prop:=fun args m n K=>match args with
 | [.string p,.string s]=>match cnd (decide (p.size≤9223372036854775807∧s.size≤9223372036854775807))with
  | true=>∀b:Bool,HoIs p s b→K (B b) m n
  | false=>False
 | _=>False
theorem gen_hu72:jc3 Tryz.prog 72 hu72:=by
 refine jdl Px.ok24 fun args m n K hh=> ?_
 unfold hu72 at hh;split at hh
 case h_2=>exact hh.elim
 split at hh
 case h_2=>exact hh.elim
 rename_i hcc;exact⟨_,congrArg some (Prod.ext hcc rfl),rfl,hh _ ⟨rfl⟩⟩
instance tabsU4:Tabs:=tabs
def s323u:Ab.Spec:=fun args _=>match args with
 | [.agg ⟨[.string s,.string _]⟩]=>some (true,.string s)
 | _=>none
def U0:Env:=(Env.nil.add 26 (sp2 s26)).addG 222 hu222
def U1:Env:=((((((((((Env.nil.add 321 (sp1 s321)).addG 170 hu170).addG 169 (hideS (sp3 s169))).addG 171 hu171).addG 72 hu72).add 59 (sp1 Px.s31)).add 61 (sp1 Px.s46)).add 322 (sp1 s322)).add 323 s323u).add 324 (sp1 s324)).addG 168 (inlQ Tryz.prog U0 noL Tryz.f168)
theorem fn323u:Fn1 Tryz.prog 323 Tryz.f323:= .m Tryz.func323
theorem u323(s p:ByteArray)(R:Value→Prop):ja1 Tryz.prog Env.nil noL Tryz.f323 [.agg ⟨[.string s,.string p]⟩] (fun _=>none) 0 (fun v _ _=>R v)=R (Value.string s):=by kernel_rfl
theorem ok323u:jan Tryz.prog 323 s323u:=by
 refine jc7 jao hmix fn323u jai fun args bs v hs=> ?_
 unfold s323u at hs;split at hs
 case h_2=>cases hs
 cases hs;refine⟨rfl,jag,?_⟩;rw[ja2,u323]
theorem ok_U0:jax Tryz.prog U0:=jam (jaj jao ok26) gen_hu222
theorem ok_U1:jax Tryz.prog U1:=jam (jaj (jaj (jaj (jaj (jaj (jam (jam (jam (jam (jaj jao ok321) gen_hu170) (jfb ok169)) gen_hu171) gen_hu72) Px.ok31) Px.ok46) ok322) ok323u) ok324) (jas ok_U0 hmix fn168 jai)
abbrev tp3(a:Int)(s:ByteArray)(c:Int)(e:Value):Value:= .tuple ⟨[.agg ⟨[I a,S s]⟩,I c,e]⟩
abbrev er(s:ByteArray):Value:= .iface 119 (.agg ⟨[.string s]⟩)
def tlA(R:Value→Prop)(t:Ty)(x:Num):Prop:=bif decide (ByteArray.size (szO x.2.1)≤9223372036854775807)then R (tp3 (tkV x.1 (bz (szO x.2.1)) x.2.2 t).1 ⟨#[]⟩ (tkV x.1 (bz (szO x.2.1)) x.2.2 t).2.1 .nilIface)else False
def tlC(R:Value→Prop)(t:Ty)(s:ByteArray):Prop:=bif !t.v || true then bif !t.v || decide ((↑(ByteArray.size s):Int)>t.p)then bif decide (0≤t.p∧t.p≤1000) &&true then
  ∀s':ByteArray,szO (jfw (bz s) (Int.toNat t.p) (List.getD (bz (ByteArray.mk #[32])) 0 0))=s'→R (tp3 0 s' 0 .nilIface)else False else R (tp3 0 s 0 .nilIface)else False
def tlB(R:Value→Prop)(t:Ty)(e:Value)(s:ByteArray):Prop:=bif decide (0≤t.p∧t.p≤1000) &&true then
  ∀s':ByteArray,szO (jfw (bz s) (Int.toNat t.p) (List.getD (bz (ByteArray.mk #[48])) 0 0))=s'→R (tp3 0 s' 0 e)else False
def tlX(R:Value→Prop)(t:Ty)(s:ByteArray):Prop:=bif decide (0≤tyP (bz t.s)∧tyP (bz t.s)≤1000) &&true then
  ∀s':ByteArray,szO (jfw (bz s) (Int.toNat (tyP (bz t.s))) (List.getD (bz (ByteArray.mk #[32])) 0 0))=s'→bif decide (ByteArray.size t.s≤9223372036854775807∧ByteArray.size s'≤9223372036854775807)then
   ∀b:Bool,HoIs t.s s' b→bif !b then R (tp3 0 ⟨#[]⟩ 0 (er s'))else R (tp3 0 s' 0 .nilIface)else False else False
def tlE(R:Value→Prop)(t:Ty)(x:Num):Prop:=bif decide (ByteArray.size (szO x.2.1)≤9223372036854775807)then bif decide (ByteArray.size t.s≤9223372036854775807∧ -9223372036854775808≤(tkV x.1 (bz (szO x.2.1)) x.2.2 (pT t.s)).1∧(tkV x.1 (bz (szO x.2.1)) x.2.2 (pT t.s)).1≤9223372036854775807)then
  ∀(s:ByteArray)(b:Bool)(e:Int),EdIs t.s (tkV x.1 (bz (szO x.2.1)) x.2.2 (pT t.s)).1 (pQ (bz t.s)) (s,b,e)→bif !b then R (tp3 0 s 1 .nilIface)else R (tp3 0 s (tkV x.1 (bz (szO x.2.1)) x.2.2 (pT t.s)).2.1 .nilIface)else False else False
def skU(R:Value→Prop)(t:Ty)(nm:(Num→Prop)→Prop)(tx:(ByteArray→Prop)→Prop)(bt:Prop):Prop:=
 bif t.k==1 then nm (tlA R t)else bif t.k==2 then nm (tlA R t)else bif t.k==3 then tx (tlC R t)else bif t.k==4 then bt else
 bif decide (ByteArray.size t.s≤9223372036854775807)then bif decide (ByteArray.size t.s≤9223372036854775807)then bif !pN (bz t.s)then tx (tlX R t)∧tx (tlX R t)∧tx (tlX R t)else nm (tlE R t)else False else False
theorem u99_w(n k p q:Int)(w:Bool)(u:ByteArray)(t:Ty)(R:Value→Prop):ja1 Tryz.prog U1 noL Tryz.f99 [.iface 174 (.agg ⟨[.int .i64 n,.int .i64 k,.int .i64 p,.int .i64 q,.bool w,.string u]⟩),Enc.enc t] (fun _=>none) 0 (fun v _ _=>R v)=(skU R t (fun a=>qea n q (∀b:Cv.Num,NumIs (numA n q) b→a b)) (fun a=>bif qds (Fx.Ty.mk k p q w u) 2147483648 n then a (szO (txtZ n (Fx.Ty.mk k p q w u)))else False) (bif qds (Fx.Ty.mk k p q w u) 2147483648 n then∀a:ByteArray,StrIs (inB (jf6 (Fx.Ty.mk k p q w u)).toNat (divT q.toNat (absI n))) a→tlB R t Value.nilIface a else False)):=by kernel_rfl
theorem u99_b(s:ByteArray)(t:Ty)(R:Value→Prop):ja1 Tryz.prog U1 noL Tryz.f99 [.iface 175 (.string s),Enc.enc t] (fun _=>none) 0 (fun v _ _=>R v)=(skU R t (fun a=>bif jcb (bz s) &&decide (s.size≤64)then∀b:Cv.Num,NumIs (ja5 false (binD (bz s)) 0) b→a b else False) (fun a=>a s) (tlB R t Value.nilIface s)):=by kernel_rfl
theorem u99_c(s:ByteArray)(t:Ty)(R:Value→Prop):ja1 Tryz.prog U1 noL Tryz.f99 [.iface 178 (.string s),Enc.enc t] (fun _=>none) 0 (fun v _ _=>R v)=(skU R t (fun a=>bif qei s then(∀b:Cv.Num,RdIs s (some b)→a b)∧(RdIs s none→R (tp3 0 qgh 0 (er s)))else False) (fun a=>a s) (bif qbl s then(BitsIs s true→tlB R t Value.nilIface s)∧(BitsIs s false→tlB R t (er s) qgh)else False)):=by kernel_rfl
theorem u99_p(s pc:ByteArray)(t:Ty)(R:Value→Prop):ja1 Tryz.prog U1 noL Tryz.f99 [.iface 177 (.agg ⟨[.string s,.string pc]⟩),Enc.enc t] (fun _=>none) 0 (fun v _ _=>R v)=(skU R t (fun a=>bif pN (bz pc) &&qb8 pc s.size 9223372036854775807 9223372036854775807 then∀b:Cv.Num,NumIs (numA (rdV (bz pc) (bz s)).fst (pQ (bz pc))) b→a b else False) (fun a=>a s) (bif pN (bz pc) &&qb8 pc s.size 9223372036854775807 9223372036854775807 then∀a:ByteArray,StrIs (inB (jf6 (pT pc)).toNat (divT (pQ (bz pc)).toNat (absI (rdV (bz pc) (bz s)).fst))) a→tlB R t Value.nilIface a else False)):=by kernel_rfl
end Go.Cx
end
noncomputable section
namespace Go.Cx
open Go Go.Ab Go.Proofs Go.Shelf Go.Px Go.Cv
theorem nz_len(l:List Int):(nz l).length≤l.length:=Nat.le_trans (tr_len _ _) (jk9 _ _)
theorem jgd(g:Bool)(l:List Int)(q:Int):(ja5 g l q).2.1.length≤l.length:=by
 unfold ja5;split
 ·simp
 ·exact nz_len l
theorem decR_len{g:Bool}{l:List Int}{x:Num}(h:decR ja5 g l=some x):x.2.1.length≤l.length+l.length:=by
 rw[decR_eq]at h;cases hd:decE l with
 | none=>rw[hd]at h;cases h
 | some e=>
  rw[hd]at h;have h:decB g (Cv.ahead 69 l) e=some x:=h;unfold decB at h;split at h
  ·cases h;refine Nat.le_trans (jgd _ _ _) ?_;have h1:=ahead_le 69 l;have h2:=ahead_le 46 (Cv.ahead 69 l)
   have h3:((past 46 (Cv.ahead 69 l)).getD []).length≤l.length:=by
    rw[past_drop];split
    ·rw[Option.getD_some,List.length_drop];omega
    ·simp
   rw[List.length_append];omega
  ·cases h
theorem jjt{g:Bool}{l:List Int}{x:Num}(hl:l.length≤255)(h:bodR ja5 binD g l=some x):x.2.1.length≤600:=by
 unfold bodR at h;split at h
 ·split at h
  ·rename_i q;cases h;refine Nat.le_trans (jgd _ _ _) ?_;have hr:=bin_31 q.2 (by rw[List.length_dropLast];exact q.1);rw[binD,decZ,zl,List.length_map];have:=jjn 9 (binG l.dropLast 0).toNat (by omega);omega
  ·cases h
 ·have:=decR_len h;omega
theorem rdN_len(l:List Int):((rdN l).getD num0).2.1.length≤600:=by
 cases h:rdN l with
 | none=>simp[num0]
 | some x=>
  rw[Option.getD_some];unfold rdN at h;split at h
  ·cases h
  rename_i hl;have h1:=tr_len (tlZ l 32) 32;have h2:=jk9 l 32;unfold numR at h;rw[trL_eq,trR_eq]at h;generalize trZ (tlZ l 32) 32=u at h h1;unfold sgnR at h;split at h
  ·cases h;simp
  ·rename_i r _;exact jjt (by simp at h1;omega) h
  ·rename_i r _;exact jjt (by simp at h1;omega) h
  ·exact jjt (by omega) h
end Go.Cx
end
noncomputable section
namespace Go.Cx
open Go Go.Ab Go.Px Go.Cv
open Go.Fx (Ty Vl check jbd most base pw bnd Fit fits scl cutN cutC InB)
theorem jfr:∀(l:List Int)(a:Int),decG l a=a*10^l.length+decG l 0
 | [],a=>by simp[decG]
 | c::r,a=>by
  rw[decG,decG,jfr r (10*a+(c-48)),jfr r (10*0+(c-48)),List.length_cons,Int.pow_succ];grind
theorem jgk(l r:List Int)(a:Int):decG (l++r) a=decG r (decG l a):=by
 rw[jjm,jjm,jjm,List.foldl_append]
theorem jhf:∀(k:Nat)(a:Int),decG (jcr k) a=a*10^k
 | 0,a=>by simp[jcr,decG]
 | k+1,a=>by
  rw[jcr,List.replicate_succ,decG,←jcr,jhf k,Int.pow_succ];grind
theorem jk0:∀(l:List Int)(a:Int),jbu l=true→0≤a→a≤decG l a
 | [],a,_,_=>by simp[decG]
 | c::r,a,h,h0=>by
  simp only[jbu,List.all_cons,jaf]at h;have hc:48≤c∧c≤57:=by simpa[dig]using h.1
  rw[decG];have:=jk0 r (10*a+(c-48)) h.2 (by omega);omega
theorem jkz:∀(l:List Int),jbu l=true→decG l 0<10^l.length
 | [],_=>by simp[decG]
 | c::r,h=>by
  simp only[jbu,List.all_cons,jaf]at h;have hc:48≤c∧c≤57:=by simpa[dig]using h.1
  have ih:=jkz r h.2;have hp:(0:Int)<10^r.length:=Int.pow_pos (by decide);rw[decG,jfr,List.length_cons,Int.pow_succ];have:(10*0+(c-48))*10^r.length≤9*(10:Int) ^r.length:=Int.mul_le_mul_of_nonneg_right (by omega) (by omega);omega
theorem decG_pos(l:List Int)(h:jbu l=true):0≤decG l 0:=jk0 l 0 h (Int.le_refl _)
theorem decG_mod{b:Int}(l:List Int)(y:Int):decG l (y%b)%b=decG l y%b:=by
 rw[jfr l (y%b),jfr l y,Int.add_emod,Int.mul_emod,Int.emod_emod_of_dvd y (Int.dvd_refl b),←Int.mul_emod,←Int.add_emod]
theorem tk_fst{b:Int}(hb:0<b):∀(l:List Int)(x k:Int),jbu l=true→0≤x∧x<b→(tkGo b l x k).1=decG l x%b
 | [],x,k,_,hx=>by simp only[tkGo,decG];exact(Int.emod_eq_of_lt hx.1 hx.2).symm
 | c::r,x,k,h,hx=>by
  simp only[jbu,List.all_cons,jaf]at h;have hc:48≤c∧c≤57:=by simpa[dig]using h.1
  have h0:0≤10*x+(c-48):=by omega
  rw[tkGo,decG];split
  ·have e:(10*x+(c-48)).tmod b=(10*x+(c-48))%b:=Int.tmod_eq_emod_of_nonneg h0;rw[e,tk_fst hb r _ _ h.2 ⟨Int.emod_nonneg _ (by omega),Int.emod_lt_of_pos _ hb⟩,decG_mod]
  ·exact tk_fst hb r _ _ h.2 ⟨h0,by omega⟩
theorem tk_one{b:Int}:∀(l:List Int)(x:Int),(tkGo b l x 1).2=1
 | [],x=>rfl
 | c::r,x=>by rw[tkGo];split<;>exact tk_one r _
theorem tk_snd{b:Int}(hb:0<b):∀(l:List Int)(x k:Int),jbu l=true→0≤x∧x<b→(tkGo b l x k).2=if decG l x<b then k else 1
 | [],x,k,_,hx=>(if_pos hx.2).symm
 | c::r,x,k,h,hx=>by
  simp only[jbu,List.all_cons,jaf]at h;have hc:48≤c∧c≤57:=by simpa[dig]using h.1
  have h0:0≤10*x+(c-48):=by omega
  rw[tkGo,decG];split
  ·have:=jk0 r _ h.2 h0;rw[tk_one,if_neg (by omega)]
  ·exact tk_snd hb r _ _ h.2 ⟨h0,by omega⟩
theorem decG_take{l:List Int}(h:jbu l=true){k:Nat}(hk:k≤l.length):decG (l.take (l.length-k)) 0=decG l 0/10^k:=by
 have e:decG l 0=decG (l.take (l.length-k)) 0*10^k+decG (l.drop (l.length-k)) 0:=by
  have:=jgk (l.take (l.length-k)) (l.drop (l.length-k)) 0;rw[List.take_append_drop,jfr (l.drop _)]at this;rw[this,List.length_drop,show l.length-(l.length-k)=k by omega]
 have hd:jbu (l.drop (l.length-k))=true:=List.all_eq_true.2 fun c hc=>List.all_eq_true.1 h c (List.drop_subset _ _ hc)
 have h1:=decG_pos _ hd;have h2:=jkz _ hd;rw[List.length_drop,show l.length-(l.length-k)=k by omega]at h2;rw[e,Int.add_comm,Int.add_mul_ediv_right _ _ (by have:(0:Int)<10^k:=Int.pow_pos (by decide);omega),Int.ediv_eq_zero_of_lt h1 h2,Int.zero_add]
def shf(m d:Int):Int:=if 0≤d then m*10^d.toNat else m/10^ (-d).toNat
theorem jkj{ds:List Int}{sc q:Int}(h:jbu ds=true):decG (plcR ds sc q) 0=shf (decG ds 0) (q-sc):=by
 unfold plcR plcZ shf;by_cases he:ds=[]
 ·subst he;rw[if_pos rfl,List.take_nil];have:decG [] 0=0:=rfl;rw[this];split<;>simp
 ·rw[if_neg he];split
  ·have e:((ds++jcr (q-sc).toNat).length-max 0 (min ((ds++jcr (q-sc).toNat).length:Int) (sc-q))).toNat=(ds++jcr (q-sc).toNat).length:=by omega
   rw[e,List.take_of_length_le (Nat.le_refl _),jgk,jhf]
  ·have e:(q-sc).toNat=0:=by omega
   rw[e,show jcr 0=[]from rfl,List.append_nil];by_cases hl:(sc-q).toNat≤ds.length
   ·have e2:((ds.length:Int)-max 0 (min (ds.length:Int) (sc-q))).toNat=ds.length-(-(q-sc)).toNat:=by omega
    rw[e2,decG_take h (by omega)]
   ·have e2:((ds.length:Int)-max 0 (min (ds.length:Int) (sc-q))).toNat=0:=by omega
    rw[e2,List.take_zero];refine(Int.ediv_eq_zero_of_lt (decG_pos ds h) (Int.lt_of_lt_of_le (jkz ds h) ?_)).symm;have:(10:Nat) ^ds.length≤10^ (-(q-sc)).toNat:=Nat.pow_le_pow_right (by decide) (by omega)
    exact_mod_cast this
theorem tl_app(l:List Int):∃k,l=jcr k++tlZ l 48:=by
 induction l with
 | nil=>exact⟨0,rfl⟩
 | cons c r ih=>
  by_cases h:c=48
  ·subst h;obtain⟨k,e⟩:=ih;refine⟨k+1,?_⟩;rw[tl_cons,jcr,List.replicate_succ,List.cons_append,←jcr,←e]
  ·exact⟨0,by rw[tl_ne h];rfl⟩
theorem tr_app(l:List Int):∃k,l=trZ l 48++jcr k∧l.length=(trZ l 48).length+k:=by
 obtain⟨k,e⟩:=tl_app l.reverse;refine⟨k,?_,?_⟩
 ·have:=congrArg List.reverse e;rw[List.reverse_reverse,List.reverse_append,jcr,List.reverse_replicate,←jcr]at this;exact this
 ·have:=congrArg List.length e;rw[List.length_reverse,List.length_append,jcr,List.length_replicate]at this;rw[trZ,List.length_reverse];unfold tlZ at this;omega
theorem nz_val(l:List Int):∃k:Nat,decG l 0=decG (nz l) 0*10^k∧(tlZ l 48).length=(nz l).length+k:=by
 obtain⟨j,e⟩:=tl_app l;obtain⟨k,e2,e3⟩:=tr_app (tlZ l 48);refine⟨k,?_,e3⟩
 have e1:decG l 0=decG (tlZ l 48) 0:=by
  have:=jgk (jcr j) (tlZ l 48) 0;rw[←e,jhf,Int.zero_mul]at this;exact this
 rw[e1];have:=jgk (nz l) (jcr k) 0;rw[jhf]at this;rw[←this];exact congrArg (decG · 0) e2
theorem shf_mul(m:Int)(k:Nat)(d:Int):shf m (d+k)=shf (m*10^k) d:=by
 unfold shf;have hp:∀n:Nat,(10:Int) ^n≠0:=fun n=>Int.ne_of_gt (Int.pow_pos (by decide))
 by_cases h:0≤d
 ·rw[if_pos h,if_pos (by omega),show(d+k).toNat=k+d.toNat by omega,Int.pow_add,Int.mul_assoc]
 ·rw[if_neg h];by_cases h2:0≤d+k
  ·rw[if_pos h2,show k=(d+k).toNat+(-d).toNat by omega,Int.pow_add,←Int.mul_assoc,Int.mul_ediv_cancel _ (hp _)];congr 2;omega
  ·rw[if_neg h2,show(-d).toNat=k+(-(d+k)).toNat by omega,Int.pow_add,Int.mul_comm m,Int.mul_ediv_mul_of_pos _ _ (Int.pow_pos (by decide))]
theorem nz_digs{l:List Int}(h:jbu l=true):jbu (nz l)=true:=List.all_eq_true.2 fun c hc=>by
 refine List.all_eq_true.1 h c ?_;unfold nz trZ at hc;rw[List.mem_reverse]at hc;have h1:=(List.dropWhile_sublist _).subset hc;rw[List.mem_reverse]at h1;exact(List.dropWhile_sublist _).subset h1
theorem norm_val{g:Bool}{l:List Int}{q Q:Int}(h:jbu l=true):decG (plcR (ja5 g l q).2.1 (ja5 g l q).2.2 Q) 0=shf (decG l 0) (Q-q):=by
 obtain⟨k,e1,e2⟩:=nz_val l;unfold ja5;by_cases h0:nz l=[]
 ·rw[if_pos h0,jkj rfl];rw[h0]at e1;rw[e1];have:decG [] 0=0:=rfl;rw[this,Int.zero_mul];unfold shf;split<;>split<;>simp
 ·rw[if_neg h0,jkj (nz_digs h),e1,←shf_mul];congr 1;simp only;omega
theorem jkv{p:Int→Bool}:∀(l:List Int)(c:Int),(l.dropWhile p).head?=some c→p c=false
 | [],c,h=>by cases h
 | a::r,c,h=>by
  by_cases ha:p a=true
  ·rw[List.dropWhile_cons_of_pos ha]at h;exact jkv r c h
  ·rw[List.dropWhile_cons_of_neg ha]at h;cases h;simpa using ha
theorem nz_head{l:List Int}:(nz l).head?≠some 48∧(nz l).getLast?≠some 48:=by
 constructor
 ·intro q;obtain⟨k,e,_⟩:=tr_app (tlZ l 48)
  have:(tlZ l 48).head?=some 48:=by
   rw[e];change (nz l++jcr k).head?=_;rw[List.head?_append,q];rfl
  have:=jkv l 48 this;simp at this
 ·intro q;unfold nz trZ at q;rw[List.getLast?_reverse]at q;have:=jkv _ 48 q;simp at this
theorem norm_isNum{g:Bool}{l:List Int}{q:Int}(h:jbu l=true)(hl:l.length≤300)(hq: -100≤q∧q≤100):jf4 (ja5 g l q).1 (ja5 g l q).2.1 (ja5 g l q).2.2=true:=by
 obtain⟨k,e1,e2⟩:=nz_val l;have hk:=jk9 l 48;unfold ja5;by_cases h0:nz l=[]
 ·rw[if_pos h0];rfl
 ·rw[if_neg h0];obtain⟨n1,n2⟩:=nz_head (l:=l);unfold jf4;simp only;rw[if_neg h0,nz_digs h,jaa (show(nz l).length≤400 by omega),jaa (show -400≤q-(((tlZ l 48).length:Int)-(nz l).length)∧q-(((tlZ l 48).length:Int)-(nz l).length)≤400 by omega)];have a1:((nz l).head?==some 48)=false:=by simpa using n1
  have a2:((nz l).getLast?==some 48)=false:=by simpa using n2
  rw[a1,a2];rfl
theorem dec_val:∀(k n:Nat),n<10^ (k+1)→decG (zl (Lib.decDigits n)) 0=n
 | k,n,h=>by
  rw[Lib.decDigits];by_cases h10:n<10
  ·rw[dif_pos h10];simp only[zl,List.map_cons,List.map_nil,decG,u8n h10];omega
  ·rw[dif_neg h10];cases k with
   | zero=>omega
   | succ k=>
    have ih:=dec_val k (n/10) (by rw[Nat.pow_succ]at h;omega);rw[zl,List.map_append,←zl,jgk,ih];simp only[List.map_cons,List.map_nil,decG,u8n (show n%10<10 by omega)];omega
theorem ito_val{m:Int}(h:0≤m∧m≤2147483648):decG (itoZ m) 0=m:=by
 obtain⟨k,rfl⟩:∃k:Nat,m=(k:Int):=⟨m.toNat,by omega⟩
 rw[itoZ,Lib.itoa_nonneg];exact dec_val 9 k (by omega)
theorem scl_shf{n d:Int}:scl n d=if n<0 then -(shf (-n) d)else shf n d:=by
 unfold scl shf pw;have hp:∀k:Nat,(0:Int)<10^k:=fun k=>Int.pow_pos (by decide)
 split
 ·split
  ·rw[Int.neg_mul,Int.neg_neg]
  ·rfl
 ·split
  ·rw[←Int.tdiv_eq_ediv_of_nonneg (by omega),Int.neg_tdiv,Int.neg_neg]
  ·rw[Int.tdiv_eq_ediv_of_nonneg (by omega)]
theorem shf_pos{n d:Int}(h:0≤n):0≤shf n d:=by
 have hp:∀k:Nat,(0:Int)<10^k:=fun k=>Int.pow_pos (by decide)
 unfold shf;split
 ·exact Int.mul_nonneg h (Int.le_of_lt (hp _))
 ·exact Int.ediv_nonneg h (Int.le_of_lt (hp _))
theorem norm_sg{g:Bool}{l:List Int}{q:Int}:(ja5 g l q).1=(!decide (nz l=[]) &&g):=by
 unfold ja5;by_cases h:nz l=[]
 ·rw[if_pos h,jaa h];rfl
 ·rw[if_neg h,jad h];rfl
theorem tk_num{n q:Int}{t:Ty}(hv:jbd t)(hn: -2147483648≤n∧n≤2147483648)(hq:0≤q∧q≤9):
  tkV (numA n q).1 (numA n q).2.1 (numA n q).2.2 t=(cutN (scl n (t.q-q)) t,cutC (scl n (t.q-q)) t 1,0):=by
 have hm:0≤(if n<0 then -n else n)∧(if n<0 then -n else n)≤2147483648:=by split<;>omega
 obtain⟨d1,d2⟩:=ito_digs hm;have dl:=jf2 hm;have hb:=(Fx.bnd_range hv).1;have hN:=norm_isNum (g:=decide (n<0)) (q:=q) d1 (by omega) (by omega);have hV:=norm_val (g:=decide (n<0)) (q:=q) (Q:=t.q) d1;rw[ito_val hm]at hV;obtain⟨-,hD,-,-,-⟩:=jex hN;have hP:jbu (plcR (ja5 (decide (n<0)) (itoZ (if n<0 then -n else n)) q).2.1 (ja5 (decide (n<0)) (itoZ (if n<0 then -n else n)) q).2.2 t.q)=true:=jes hD;have hs:=shf_pos (d:=t.q-q) hm.1
 have hg:(numA n q).1=true→n<0:=fun h=>by
  rw[numA,norm_sg]at h;simp only[jaf,jae]at h;exact h.2
 have hg2:(numA n q).1=false→n<0→shf (-n) (t.q-q)=0:=fun h hlt=>by
  rw[numA,norm_sg,jaa hlt,Bool.and_true]at h;have h0:nz (itoZ (if n<0 then -n else n))=[]:=by simpa using h
  rw[ja5,if_pos h0]at hV;rw[if_pos hlt]at hV;rw[←hV];show decG (plcR [] 0 t.q) 0=0;rw[jkj rfl];show shf 0 _=0;unfold shf;split<;>simp
 unfold tkV;rw[if_neg (by rw[numA,hN];decide),if_neg (fun h=>h hv)];unfold tkR
 rw[show plcR (numA n q).2.1 (numA n q).2.2 t.q=plcR (ja5 (decide (n<0)) (itoZ (if n<0 then -n else n)) q).2.1 (ja5 (decide (n<0)) (itoZ (if n<0 then -n else n)) q).2.2 t.q from rfl,
  tk_fst (by omega) _ 0 0 hP ⟨Int.le_refl _,by omega⟩,tk_snd (by omega) _ 0 0 hP ⟨Int.le_refl _,by omega⟩,hV]
 have key:∀X:Int,0≤X→(X.tmod (bnd t)=X%bnd t):=fun X h=>Int.tmod_eq_emod_of_nonneg h
 have inb:∀Z:Int,InB Z t↔(-bnd t<Z∧Z<bnd t):=fun _=>Iff.rfl
 unfold cutN cutC;by_cases hlt:n<0
 ·rw[scl_shf,if_pos hlt];rw[if_pos hlt]at hs ⊢;generalize hX:shf (-n) (t.q-q)=X at*;have hmod:=key X hs;by_cases hg1:(numA n q).1=true
  ·rw[if_pos hg1];by_cases hl:X<bnd t
   ·rw[if_pos hl,if_pos ((inb _).2 (by omega)),if_pos ((inb _).2 (by omega)),Int.emod_eq_of_lt hs hl]
   ·rw[if_neg hl,if_neg (fun h=>absurd ((inb _).1 h) (by omega)),if_neg (fun h=>absurd ((inb _).1 h) (by omega)),Int.neg_tmod,hmod]
  ·have h0:=hg2 (by simpa using hg1) hlt;have h0:X=0:=h0;subst h0;rw[if_neg hg1,if_pos (by omega),if_pos ((inb _).2 (by omega)),if_pos ((inb _).2 (by omega))];simp
 ·rw[scl_shf,if_neg hlt];rw[if_neg hlt]at hs ⊢;generalize hX:shf n (t.q-q)=X at*;have hmod:=key X hs;rw[if_neg (fun h=>hlt (hg h))];by_cases hl:X<bnd t
  ·rw[if_pos hl,if_pos ((inb _).2 (by omega)),if_pos ((inb _).2 (by omega)),Int.emod_eq_of_lt hs hl]
  ·rw[if_neg hl,if_neg (fun h=>absurd ((inb _).1 h) (by omega)),if_neg (fun h=>absurd ((inb _).1 h) (by omega)),hmod]
end Go.Cx
end
noncomputable section
set_option maxHeartbeats 3200000
namespace Go.Cx
open Go Go.Ab Go.Proofs Go.Shelf Go.Px Go.Cv
open Go.Fx (Ty Vl check jbd most base pw bnd Fit fits tv vv tup V0 T0 jbh jbl jbe jby str0)
inductive Fu where
 | w (n:Int) (t:Ty)
 | b (s:ByteArray)
 | c (s:ByteArray)
 | p (s pc:ByteArray)
def numU:Fu→Option Num
 | .w n t=>some (numA n t.q)
 | .b s=>some (ja5 false (binD (bz s)) 0)
 | .c s=>rdN (bz s)
 | .p s pc=>some (numA (rdV (bz pc) (bz s)).1 (pQ (bz pc)))
def txtU:Fu→ByteArray
 | .w n t=>szO (txtZ n t)
 | .b s=>s
 | .c s=>s
 | .p s _=>s
def bitU:Fu→Option ByteArray
 | .w n t=>some (szO (inB (jf6 t).toNat (divT t.q.toNat (absI n))))
 | .b s=>some s
 | .c s=>if jcb (bz s)=true then some s else none
 | .p s pc=>some (szO (inB (jf6 (pT pc)).toNat (divT (pQ (bz pc)).toNat (absI (rdV (bz pc) (bz s)).1))))
abbrev Cu:=Int×ByteArray×Int×Option ByteArray
def tkU(x:Num)(t:Ty):Int×Int×Int:=tkV x.1 (bz (szO x.2.1)) x.2.2 t
def fiU(s:ByteArray)(n c:Int):ByteArray:=szO (jfw (bz s) n.toNat c)
def cuN(f:Fu)(C:Num→Cu):Cu:=match numU f with
 | some x=>C x
 | none=>(0,⟨#[]⟩,0,some (txtU f))
def cuV(f:Fu)(t:Ty):Cu:=
 if t.k=1∨t.k=2 then cuN f fun x=>((tkU x t).1,⟨#[]⟩,(tkU x t).2.1,none)
 else if t.k=3 then(0,if t.v=true∧ ¬((txtU f).size:Int)>t.p then txtU f else fiU (txtU f) t.p 32,0,none)
 else if t.k=4 then(0,fiU ((bitU f).getD ⟨#[]⟩) t.p 48,0,if(bitU f).isSome then none else some (txtU f))
 else if pN (bz t.s)=true then cuN f fun x=>(0,sz (edS (bz t.s) (tkU x (pT t.s)).1 (pQ (bz t.s))),if edF (bz t.s) (tkU x (pT t.s)).1 (pQ (bz t.s))=true then(tkU x (pT t.s)).2.1 else 1,none)
 else if hoZ (bz t.s) (bz (fiU (txtU f) (tyP (bz t.s)) 32))=true then(0,fiU (txtU f) (tyP (bz t.s)) 32,0,none)else(0,⟨#[]⟩,0,some (fiU (txtU f) (tyP (bz t.s)) 32))
def cuF:Fu→Prop
 | .w n u=>jbd u∧ -2147483648≤n∧n≤2147483648
 | .b s=>jcb (bz s)=true∧s.size≤64
 | .c s=>s.size≤9223372036854775807
 | .p s pc=>pN (bz pc)=true∧s.size≤9223372036854775807∧pc.size≤9223372036854775807
def cuA(f:Fu)(t:Ty):Prop:=cuF f∧chk4 t=0∧t.k≠6∧t.s.size≤9223372036854775807
def eV:Option ByteArray→Value
 | none=> .nilIface
 | some s=>er s
abbrev cuR(x:Cu):Value:=tp3 x.1 x.2.1 x.2.2.1 (eV x.2.2.2)
theorem numU_len{f:Fu}(h:cuF f){x:Num}(hx:numU f=some x):x.2.1.length≤600:=by
 cases f with
 | w n u=>
  obtain⟨hv,h1,h2⟩:=h;cases hx;show(numA n u.q).2.1.length≤600;refine Nat.le_trans (jgd _ _ _) ?_;have:=jf2 (m:=if n<0 then -n else n) (by split<;>omega);omega
 | b s=>
  cases hx;have hb:=bin_64 h.1 (by rw[jap];exact h.2);have hd:=jlk 20 (binG (bz s) 0) hb.1 (Int.lt_of_lt_of_le hb.2 (by decide));show(ja5 false (binD (bz s)) 0).2.1.length≤600;rw[←jkk];exact Nat.le_trans (jgd _ _ _) (by omega)
 | c s=>
  have:=rdN_len (bz s);rw[show rdN (bz s)=some x from hx]at this;exact this
 | p s pc=>
  cases hx;have hr:=rdV_r (t:=s) h.1;show(numA (rdV (bz pc) (bz s)).1 (pQ (bz pc))).2.1.length≤600;refine Nat.le_trans (jgd _ _ _) ?_;have:=jf2 (m:=if(rdV (bz pc) (bz s)).1<0 then -(rdV (bz pc) (bz s)).1 else(rdV (bz pc) (bz s)).1) (by split<;>omega);omega
theorem tkV_rng(g:Bool)(l:List Int)(c:Int)(t:Ty): -2147483648≤(tkV g l c t).1∧(tkV g l c t).1≤2147483648:=by
 unfold tkV;split
 ·simp
 rename_i hn;split
 ·simp
 rename_i hv;have hv:jbd t:=Classical.not_not.1 hv;have hb:=Fx.bnd_range hv
 have hd:jbu l=true:=by
  unfold jf4 at hn;split at hn
  ·rename_i e;rw[e];rfl
  ·simp at hn;exact hn.2.1
 have hr:=jf8 (b:=bnd t) (by omega) (plcR l c t.q) 0 0 (jes hd) (by omega);unfold tkR;simp only;split<;>omega
theorem k5_of{t:Ty}(h:chk4 t=0)(h6:t.k≠6)(h1:¬(t.k=1∨t.k=2))(h3:t.k≠3)(h4:t.k≠4):t.k=5∧vOK (bz t.s)=true:=by
 unfold chk4 at h;have hv:jbd t→t.k=1∨t.k=2:=fun h=>h.1
 rw[if_neg (fun q=>h1 (hv q)),if_neg (fun q=>h3 q.1),if_neg (fun q=>h4 q.1)]at h;split at h
 ·rename_i q;refine⟨q.1,?_⟩;have:=q.2.2.2.2;unfold pE at this;split at this
  ·assumption
  ·cases this
 ·rw[if_neg (fun q=>h6 q.1)]at h;cases h
theorem p1000{t:Ty}(h:chk4 t=0)(h3:t.k=3∨t.k=4):0≤t.p∧t.p≤1000:=by
 unfold chk4 at h;have hv:jbd t→t.k=1∨t.k=2:=fun h=>h.1
 grind
theorem sk_ok{f:Fu}{t:Ty}(h:cuA f t){nm:(Num→Prop)→Prop}{tx:(ByteArray→Prop)→Prop}{bt:Prop}
  (hN:∀C:Num→Prop,(∀x,numU f=some x→C x)→(numU f=none→tp3 0 ⟨#[]⟩ 0 (er (txtU f))=cuR (cuV f t))→nm C)
  (hX:∀C:ByteArray→Prop,C (txtU f)→tx C)
  (hB:(∀s,bitU f=some s→tlB (fun v=>v=cuR (cuV f t)) t .nilIface s)→(bitU f=none→tlB (fun v=>v=cuR (cuV f t)) t (er (txtU f)) ⟨#[]⟩)→bt):skU (fun v=>v=cuR (cuV f t)) t nm tx bt:=by
 obtain⟨hF,hk,h6,hs⟩:=h;unfold skU
 have hA:(t.k=1∨t.k=2)→nm (tlA (fun v=>v=cuR (cuV f t)) t):=fun hk12=>by
  have e:cuV f t=cuN f fun x=>((tkU x t).1,⟨#[]⟩,(tkU x t).2.1,none):=if_pos hk12
  refine hN _ (fun x hx=> ?_) (fun hx=> ?_)
  ·rw[e,cuN,hx];exact c_t (jaa (by rw[jcx];exact Nat.le_trans (numU_len hF hx) (by decide))) rfl
  ·rw[e,cuN,hx];rfl
 refine cond_intro (fun h1=>hA (.inl (by simpa using h1))) (fun h1=>cond_intro (fun h2=>hA (.inr (by simpa using h2))) (fun h2=> ?_));have n12:¬(t.k=1∨t.k=2):=by simp at h1 h2;omega
 refine cond_intro (fun h3=> ?_) (fun h3=>cond_intro (fun h4=> ?_) (fun h4=> ?_))
 ·have h3:t.k=3:=by simpa using h3
  have e:cuV f t=(0,if t.v=true∧ ¬((txtU f).size:Int)>t.p then txtU f else fiU (txtU f) t.p 32,0,none):=by unfold cuV;rw[if_neg n12,if_pos h3]
  rw[e];refine hX _ (c_t (Bool.or_true _) (cond_intro (fun h=> ?_) (fun h=> ?_)))
  ·refine c_t (by rw[jaa (p1000 hk (.inl h3))];rfl) fun s' hs=> ?_
   rw[if_neg,←hs]
   ·rfl
   ·rintro ⟨h1,h2⟩;rw[h1,jad h2]at h;cases h
  ·rw[if_pos]
   ·rfl
   ·cases hw:t.v<;>simp[hw]at h ⊢;omega
 ·have h4:t.k=4:=by simpa using h4
  have e:cuV f t=(0,fiU ((bitU f).getD ⟨#[]⟩) t.p 48,0,if(bitU f).isSome then none else some (txtU f)):=by unfold cuV;rw[if_neg n12,if_neg (by omega),if_pos h4]
  rw[e]at hB;refine hB (fun s hs'=> ?_) (fun hs'=> ?_)
  ·rw[hs'];refine c_t (by rw[jaa (p1000 hk (.inr h4))];rfl) fun s' hs=> ?_
   rw[←hs];rfl
  ·rw[hs'];refine c_t (by rw[jaa (p1000 hk (.inr h4))];rfl) fun s' hs=> ?_
   rw[←hs];rfl
 ·have n3:t.k≠3:=by simpa using h3
  have n4:t.k≠4:=by simpa using h4
  have h5:=k5_of hk h6 n12 n3 n4;refine c_t (jaa hs) (c_t (jaa hs) (cond_intro (fun hp=> ?_) (fun hp=> ?_)))
  ·have hp:¬pN (bz t.s)=true:=by simpa using hp
   have e:cuV f t=if hoZ (bz t.s) (bz (fiU (txtU f) (tyP (bz t.s)) 32))=true then(0,fiU (txtU f) (tyP (bz t.s)) 32,0,none)else(0,⟨#[]⟩,0,some (fiU (txtU f) (tyP (bz t.s)) 32)):=by unfold cuV;rw[if_neg n12,if_neg n3,if_neg n4,if_neg hp]
   have hw:0≤tyP (bz t.s)∧tyP (bz t.s)≤1000:=by
    have:= @jjz t.s;unfold tyP;rw[if_pos h5.2,if_neg hp];omega
   have hT:tlX (fun v=>v=cuR (cuV f t)) t (txtU f):=by
    rw[e];refine c_t (by rw[jaa hw];rfl) fun s' hs'=> ?_
    have es:fiU (txtU f) (tyP (bz t.s)) 32=s':=hs'
    have hl:s'.size≤9223372036854775807:=by
     rw[←es,fiU,jcx,jfw,List.length_append,List.length_take,List.length_replicate];omega
    rw[es];refine c_t (jaa ⟨hs,hl⟩) fun b hb=> ?_
    rw[hb.h];cases b
    ·rfl
    ·rfl
   exact⟨hX _ hT,hX _ hT,hX _ hT⟩
  ·have hp:pN (bz t.s)=true:=by simpa using hp
   have e:cuV f t=cuN f fun x=>(0,sz (edS (bz t.s) (tkU x (pT t.s)).1 (pQ (bz t.s))),if edF (bz t.s) (tkU x (pT t.s)).1 (pQ (bz t.s))=true then(tkU x (pT t.s)).2.1 else 1,none):=by unfold cuV;rw[if_neg n12,if_neg n3,if_neg n4,if_pos hp]
   refine hN _ (fun x hx=> ?_) (fun hx=> ?_)
   ·rw[e,cuN,hx];refine c_t (jaa (by rw[jcx];exact Nat.le_trans (numU_len hF hx) (by decide))) ?_;have hr:=tkV_rng x.1 (bz (szO x.2.1)) x.2.2 (pT t.s);refine c_t (jaa ⟨hs,by omega,by omega⟩) fun s b c hc=> ?_
    have hc:=hc.h;simp only[Prod.mk.injEq]at hc;obtain⟨c1,c2,c3⟩:=hc;simp only[tkU];rw[c1];simp only[c2];cases b<;>rfl
   ·rw[e,cuN,hx];rfl
def decU:Value→Option Fu
 | .iface 174 (.agg ⟨[.int .i64 n,.int .i64 k,.int .i64 p,.int .i64 q,.bool w,.string u]⟩)=>some (.w n ⟨k,p,q,w,u⟩)
 | .iface 175 (.string s)=>some (.b s)
 | .iface 178 (.string s)=>some (.c s)
 | .iface 177 (.agg ⟨[.string s,.string p]⟩)=>some (.p s p)
 | _=>none
open Classical in
theorem cuD_ex:∃d:Fu→Ty→Bool,∀f t,d f t=true↔cuA f t:=⟨fun f t=>decide (cuA f t),fun f t=>by simp⟩
def cuD:Fu→Ty→Bool:=Classical.choose cuD_ex
theorem jk1{f:Fu}{t:Ty}:cuD f t=true↔cuA f t:=Classical.choose_spec cuD_ex f t
def s99u:Ab.Spec:=fun args _=>match args with
 | [a,.agg ⟨[.int .i64 k,.int .i64 p,.int .i64 q,.bool w,.string u]⟩]=>match decU a with
  | some f=>some (cuD f ⟨k,p,q,w,u⟩,cuR (cuV f ⟨k,p,q,w,u⟩))
  | none=>none
 | _=>none
theorem ok99u:jan Tryz.prog 99 s99u:=by
 refine jc7 ok_U1 hmix fn99 jai fun args bs v hs=> ?_
 unfold s99u at hs;split at hs
 case h_2=>cases hs
 rename_i a k p q w u;split at hs
 case h_2=>cases hs
 rename_i f hf;simp only[Option.some.injEq,Prod.mk.injEq]at hs;obtain⟨hA,rfl⟩:=hs;have hA:=jk1.1 hA;have en:(.agg ⟨[.int .i64 k,.int .i64 p,.int .i64 q,.bool w,.string u]⟩:Value)=Enc.enc (⟨k,p,q,w,u⟩:Ty):=rfl;unfold decU at hf;split at hf
 ·cases hf;refine⟨rfl,jag,?_⟩;rw[ja2];rw[en,u99_w];delta qds qfc qea;refine sk_ok hA (fun C h1 _=> ?_) (fun C h1=> ?_) (fun h1 _=> ?_)
  ·exact c_t (jaa (by have⟨h1,h2,h3⟩:=hA.1;obtain⟨v1,v2,v3,v4,v5⟩:=Fx.valid_r h1;exact⟨h2,h3,v3,v5⟩)) fun x hx=>h1 x (congrArg some hx.h)
  ·exact c_t (jaa hA.1) h1
  ·exact c_t (jaa hA.1) fun s hs=>h1 s (congrArg some hs.h)
 ·cases hf;refine⟨rfl,jag,?_⟩;rw[ja2];rw[en,u99_b];refine sk_ok hA (fun C h1 _=> ?_) (fun C h1=>h1) (fun h1 _=>h1 _ rfl);have:=hA.1;exact c_t (by rw[this.1,jaa this.2];rfl) fun x hx=>h1 x (congrArg some hx.h)
 ·cases hf;refine⟨rfl,jag,?_⟩;rw[ja2];rw[en,u99_c];delta qgh qbl qei;refine sk_ok hA (fun C h1 h2=> ?_) (fun C h1=>h1) (fun h1 h2=> ?_)
  ·exact c_t (jaa hA.1) ⟨fun x hx=>h1 x hx.h,fun hx=>h2 hx.h⟩
  ·exact c_t (jaa hA.1) ⟨fun hx=>h1 _ (if_pos hx.h),fun hx=>h2 (if_neg (by rw[hx.h];decide))⟩
 ·cases hf;refine⟨rfl,jag,?_⟩;rw[ja2];have hc:=hA.1;rw[en,u99_p];delta qb8;refine sk_ok hA (fun C h1 _=> ?_) (fun C h1=>h1) (fun h1 _=> ?_)
  ·exact c_t (by rw[hc.1,jaa hc.2];rfl) fun x hx=>h1 x (congrArg some hx.h)
  ·exact c_t (by rw[hc.1,jaa hc.2];rfl) fun s hs=>h1 s (congrArg some hs.h)
 ·cases hf
end Go.Cx
end
noncomputable section
namespace Go.Ab
open Go Go.RowKit
variable [Tabs]
def cj(p:Prop):Nat→Prop
 | 0=>p
 | n+1=>p∧cj p n
omit [Tabs] in
theorem cj_of{p:Prop}(h:p):∀n,cj p n
 | 0=>h
 | n+1=>⟨h,cj_of h n⟩
def SelfL:List (List Value×Value)→List Nat→Prop
 | [],_=>True
 | (_,v)::r,[]=>v=v∧SelfL r []
 | (_,v)::r,k::ks=>cj (v=v) k∧SelfL r ks
omit [Tabs] in
theorem jkd:∀l ks,SelfL l ks
 | [],_=>trivial
 | (_,_)::r,[]=>⟨rfl,jkd r []⟩
 | (_,_)::r,k::ks=>⟨cj_of rfl k,jkd r ks⟩
def RunL(P:Program)(G:Env)(L:Nat→Option jb3)(fn:Func):List (List Value×Value)→Prop
 | []=>True
 | (a,v)::r=>ja1 P G L fn a (fun _=>none) 0 (fun v' _ _=>v'=v)∧RunL P G L fn r
theorem allD_of{P:Program}{G:Env}{L:Nat→Option jb3}{fn:Func}:∀{l:List (List Value×Value)},RunL P G L fn l→AllD P G L fn l
 | [],_=>trivial
 | (_,_)::_,h=>⟨by rw[ja2];exact h.1,allD_of h.2⟩
theorem jaz(ks:List Nat){P:Program}{G:Env}{L:Nat→Option jb3}{f:FuncId}{fn:Func}(hG:jax P G)(hm:P.follows .mixedOrders=true)(hf:Fn1 P f fn)(hL:LOKf P L fn){l:List (List Value×Value)}
  (hp:(l.all fun x=>ja4 x.1&&Nat.ble x.1.length fn.ntmps)=true) (h:RunL P G L fn l=SelfL l ks):jan P f (memo l):=
 jec hG hm hf hL hp (allD_of (cast h.symm (jkd l ks)))
end Go.Ab
end
noncomputable section
namespace Go.Cs
open Go Go.Ab Go.Proofs Go.Shelf Go.Px Go.Cx Go.RowKit
/-- The tables; lengths and characters are computed. -/
instance tabsC:Tabs:={row:=rowsT,plain:=tabs.plain,conc:=true}
theorem RelM.toT{N:Nat}{w0:World}{m:Lk}{ι:Nm}{w:World}(h: @RelM tabsC N w0 m ι w): @RelM tabs N w0 m ι w:=
 @RelM.mk tabs N w0 m ι w h.below h.base h.blk h.view h.inj
theorem RelM.toC{N:Nat}{w0:World}{m:Lk}{ι:Nm}{w:World}(h: @RelM tabs N w0 m ι w): @RelM tabsC N w0 m ι w:=
 @RelM.mk tabsC N w0 m ι w (@RelM.below tabs N w0 m ι w h) (@RelM.base tabs N w0 m ι w h) (@RelM.blk tabs N w0 m ι w h) (@RelM.view tabs N w0 m ι w h) (@RelM.inj tabs N w0 m ι w h)
theorem jde{f:FuncId}{s:Ab.Spec}(h: @jan tabs Tryz.prog f s): @jan tabsC Tryz.prog f s:=
 ⟨h.1,fun args v N w0 lk ι w hr hs hv=>h.2 args v N w0 lk ι w (RelM.toT hr) hs hv⟩
theorem pureT{f:FuncId}{s:Ab.Spec}(h: @jan tabsC Tryz.prog f s): @jan tabs Tryz.prog f s:=
 ⟨h.1,fun args v N w0 lk ι w hr hs hv=>h.2 args v N w0 lk ι w (RelM.toC hr) hs hv⟩
theorem pure_at{f:FuncId}{s:Ab.Spec}(h:jan Tryz.prog f s){l:List (List Value×Value)}(hl:∀a v,(a,v)∈l→ ∀bs,s a bs=some (true,v)):jan Tryz.prog f (memo l):=
 ⟨h.1,fun args v N w0 lk ι w hr hs hv=>h.2 args v N w0 lk ι w hr (hl _ _ (jhw hs).2 _) hv⟩
def s154(s t:ByteArray):Bool×Value:=(oneB t&&asc (bz t),.string (sz (tlZ (bz s) ((bz t).getD 0 0))))
theorem ok154:jan Tryz.prog 154 (sp2 s154):=by
 have e:s154=Cx.s154:=by funext s t;simp only[s154,Cx.s154,jc0]
 rw[e];exact jde Cx.ok154
def s131(s t:ByteArray):Bool×Value:=(decide (s.size≤9223372036854775807) && (oneB t&&asc (bz t)),.string (sz (trZ (bz s) ((bz t).getD 0 0))))
theorem ok131:jan Tryz.prog 131 (sp2 s131):=by
 have e:s131=Cx.s131:=by funext s t;simp only[s131,Cx.s131,jc0]
 rw[e];exact jde Cx.ok131
def s55(s t:ByteArray):Bool×Value:=(decide (s.size≤9223372036854775807) && (decide (t.size≤1000) &&asc (bz t)),.string (sz (jcd (bz s) (bz t))))
theorem ok55:jan Tryz.prog 55 (sp2 s55):=by
 have e:s55=Cx.s55:=by funext s t;simp only[s55,Cx.s55,jc0]
 rw[e];exact jde Cx.ok55
def s30(s:ByteArray)(n:Int):Bool×Value:=(decide (0≤n∧n≤1000∧s.size≤1000),.string (sz (repZ (bz s) n.toNat)))
theorem ok30:jan Tryz.prog 30 (sp2 s30):=by
 have e:s30=Cx.s30:=by funext s n;simp only[s30,Cx.s30,jc0]
 rw[e];exact jde Cx.ok30
theorem dec1234:Lib.decDigits 1234=[49,50,51,52]:=by
 rw[Lib.decDigits,dif_neg (by decide),Lib.decDigits,dif_neg (by decide),Lib.decDigits_two (by decide) (by decide)];rfl
theorem dec1230:Lib.decDigits 1230=[49,50,51,48]:=by
 rw[Lib.decDigits,dif_neg (by decide),Lib.decDigits,dif_neg (by decide),Lib.decDigits_two (by decide) (by decide)];rfl
theorem dec150:Lib.decDigits 150=[49,53,48]:=by
 rw[Lib.decDigits,dif_neg (by decide),Lib.decDigits_two (by decide) (by decide)];rfl
theorem dec123:Lib.decDigits 123=[49,50,51]:=by
 rw[Lib.decDigits,dif_neg (by decide),Lib.decDigits_two (by decide) (by decide)];rfl
theorem dec234:Lib.decDigits 234=[50,51,52]:=by
 rw[Lib.decDigits,dif_neg (by decide),Lib.decDigits_two (by decide) (by decide)];rfl
theorem ito{n:Nat}{l:List UInt8}(h:Lib.decDigits n=l):Cx.s29 (n:Int)=(decide (-9223372036854775808≤(n:Int)∧(n:Int)≤9223372036854775807),.string ⟨l.toArray⟩):=by
 rw[Cx.s29,jc0,itoZ,Lib.itoa_nonneg,h,jhm]
theorem fmt{n:Nat}{l:List UInt8}(h:Lib.decDigits n=l):Px.s87 ⟨(n:Int)⟩ 10=(decide (0≤(n:Int)∧(n:Int)<18446744073709551616) &&isTen 10,.string ⟨l.toArray⟩):=by
 show(_,Value.string (sz (zl (Lib.decDigits (n:Int).toNat))))=_;rw[Int.toNat_natCast,h,jhm]
def m29:List (List Value×Value):=[([.int .i64 150],.string ⟨#[49,53,48]⟩),([.int .i64 123],.string ⟨#[49,50,51]⟩),([.int .i64 1234],.string ⟨#[49,50,51,52]⟩)]
theorem jkl{α:Type}{p:α→Prop}:∀{l:List α},(l.foldr (fun a q=>p a∧q) True)→ ∀a∈l,p a
 | _::_,h,_,ha=>by
  rcases List.mem_cons.1 ha with rfl | ha
  ·exact h.1
  ·exact jkl h.2 _ ha
theorem pk29:jan Tryz.prog 29 (memo m29):=pure_at (jde Cx.ok29) fun a v h bs=>by
 have:=jkl (p:=fun x:List Value×Value=>sp1 Cx.s29 x.1 bs=some (true,x.2)) (l:=m29) ⟨congrArg some (ito dec150),congrArg some (ito dec123),congrArg some (ito dec1234),trivial⟩ _ h;exact this
def m81:List (List Value×Value):=[([.int .u64 1230,.int .i64 10],.string ⟨#[49,50,51,48]⟩),([.int .u64 234,.int .i64 10],.string ⟨#[50,51,52]⟩)]
theorem pk81:jan Tryz.prog 81 (memo m81):=pure_at (jde Px.ok87) fun a v h bs=>by
 have:=jkl (p:=fun x:List Value×Value=>sp2 Px.s87 x.1 bs=some (true,x.2)) (l:=m81) ⟨congrArg some (fmt dec1230),congrArg some (fmt dec234),trivial⟩ _ h;exact this
theorem genC: @jc3 tabsC Tryz.prog 100 h100:=by
 obtain⟨h1,h2⟩:= @gen100;refine⟨h1,fun args m n K hh N w0 ι w hrel hwf hargs=> ?_⟩;refine(h2 args m n K hh N w0 ι w (RelM.toT hrel) hwf hargs).mono fun e w' ⟨v,m',n',ι',h⟩=>⟨v,m',n',ι',h.1,h.2.1,h.2.2.1,h.2.2.2.1,RelM.toC h.2.2.2.2.1,h.2.2.2.2.2⟩
def S0:Env:=Env.nil
theorem ok_S0:jax Tryz.prog S0:=jao
end Go.Cs
end
noncomputable section
set_option maxRecDepth 100000
set_option maxHeartbeats 3200000
namespace Go.Cs
open Go Go.Ab Go.Proofs Go.Px Go.Cx
theorem jcj{row tail:List Value}{cap n:Nat}(h:jay tail cap n 1=true)(hr:Nat.beq row.length n=true):
  (Nat.beq (List.length (row++tail)) (cap*1) &&Nat.ble n cap&&Nat.ble cap 9223372036854775807&&true&&true)=true:=by
 simp only[jay,jaf]at h;obtain⟨⟨⟨_,h2⟩,h3⟩,h4⟩:=h;have hr:=jah hr;have h2:=jah h2
 have e:Nat.beq (List.length (row++tail)) (cap*1)=true:=by
  rw[List.length_append,hr,←h2,Nat.mul_one,Nat.add_comm];exact Nat.beq_refl _
 rw[e,h3,h4];rfl
theorem fn234:Fn1 Tryz.prog 234 Tryz.f234:= .m Tryz.func234
def B1:Env:=Env.nil.add 272 (sp2 Px.s141)
theorem ok_B1:jax Tryz.prog B1:=jaj jao (jde Px.ok141)
theorem fn235:Fn1 Tryz.prog 235 Tryz.f235:= .m Tryz.func235
def B2:Env:=(Env.nil.addG 234 (inlQ Tryz.prog S0 noL Tryz.f234)).addG 235 (inlQ Tryz.prog B1 noL Tryz.f235)
theorem ok_B2:jax Tryz.prog B2:=jam (jam jao (jas ok_S0 hmix fn234 jai)) (jas ok_B1 hmix fn235 jai)
theorem fn188:Fn1 Tryz.prog 188 Tryz.f188:= .m Tryz.func188
def m188:List (List Value×Value):=[([.string ⟨#[90,90,57,86,46,57,57]⟩],.tuple ⟨[.string ⟨#[90,90,57,86,46,57,57]⟩,.bool true]⟩),([.string ⟨#[57,57,57]⟩],.tuple ⟨[.string ⟨#[57,57,57]⟩,.bool true]⟩),([.string ⟨#[65,65,57]⟩],.tuple ⟨[.string ⟨#[65,65,57]⟩,.bool true]⟩)]
def qbg(b:Int)(a:IntKind)(e:List Value)(f:Nat)(g:Prop):Prop:=bif qaf ([.int a b]++e) f 1&&true then∀c:Nat,∀d:List Value,qew d c 2 1→(bif qaf ([.int a b,.int a b]++d) c 2&&true then g else False)else False
def qey(c:Int)(d:IntKind)(a:Nat)(e:Prop):Prop:=∀b:List Value,qb0 b a 1→qbg c d b a e
def qci(a:List Value)(b:Nat)(o:Prop)(c d e f:Value):Prop:=qb0 a b 3→(bif qaf ([c,c,d]++a) b 3&&true then∀g:Nat,∀h:List Value,qb0 h g 4→(bif qaf ([c,c,d,e]++h) g 4&&true then∀i:Nat,∀j:List Value,qb0 j i 5→(bif qaf ([c,c,d,e,f]++j) i 5&&true then∀k:Nat,∀l:List Value,qb0 l k 6→(bif qaf ([c,c,d,e,f,d]++l) k 6&&true then∀m:Nat,∀n:List Value,qb0 n m 7→o else False)else False)else False)else False)
theorem v188_0(R:Value→Prop):ja1 Tryz.prog B2 noL Tryz.f188 [S ⟨#[90,90,57,86,46,57,57]⟩] (fun _=>none) 0 (fun v _ _=>R v)=(∀a:Nat,qey 90 .u8 a (∀e:Nat,∀f:List Value,qci f e (R (qgy [S ⟨#[90,90,57,86,46,57,57]⟩,B true])) (qe7 90) (qe7 57) (qe7 86) (qe7 46))):=by kernel_rfl
theorem k188_0:ja2 Tryz.prog B2 noL Tryz.f188 [.string ⟨#[90,90,57,86,46,57,57]⟩] (.tuple ⟨[.string ⟨#[90,90,57,86,46,57,57]⟩,.bool true]⟩):=by
 rw[ja2,v188_0];delta qaf qew qbg qb0 qey qci qe7 qgy;intro c1 t1 h1;refine c_t (jcj (row:=[.int .u8 90]) h1 rfl) ?_;intro c2 t2 h2;refine c_t (jcj (row:=[.int .u8 90,.int .u8 90]) h2 rfl) ?_;intro c3 t3 h3;refine c_t (jcj (row:=[.int .u8 90,.int .u8 90,.int .u8 57]) h3 rfl) ?_;intro c4 t4 h4;refine c_t (jcj (row:=[.int .u8 90,.int .u8 90,.int .u8 57,.int .u8 86]) h4 rfl) ?_;intro c5 t5 h5;refine c_t (jcj (row:=[.int .u8 90,.int .u8 90,.int .u8 57,.int .u8 86,.int .u8 46]) h5 rfl) ?_;intro c6 t6 h6;refine c_t (jcj (row:=[.int .u8 90,.int .u8 90,.int .u8 57,.int .u8 86,.int .u8 46,.int .u8 57]) h6 rfl) ?_;intro c7 t7 h7;rfl
def qhg(b:Int)(d:UInt8)(c:Value→Prop):Prop:=∀a:Nat,qey b .u8 a (∀e:Nat,∀f:List Value,qb0 f e 3→c (qgy [S ⟨#[d,d,57]⟩,B true]))
theorem v188_1(R:Value→Prop):ja1 Tryz.prog B2 noL Tryz.f188 [S ⟨#[57,57,57]⟩] (fun _=>none) 0 (fun v _ _=>R v)=(qhg 57 57 R):=by kernel_rfl
theorem k188_1:ja2 Tryz.prog B2 noL Tryz.f188 [.string ⟨#[57,57,57]⟩] (.tuple ⟨[.string ⟨#[57,57,57]⟩,.bool true]⟩):=by
 rw[ja2,v188_1];delta qaf qew qbg qb0 qey qgy qhg;intro c1 t1 h1;refine c_t (jcj (row:=[.int .u8 57]) h1 rfl) ?_;intro c2 t2 h2;refine c_t (jcj (row:=[.int .u8 57,.int .u8 57]) h2 rfl) ?_;intro c3 t3 h3;rfl
theorem v188_2(R:Value→Prop):ja1 Tryz.prog B2 noL Tryz.f188 [S ⟨#[65,65,57]⟩] (fun _=>none) 0 (fun v _ _=>R v)=(qhg 65 65 R):=by kernel_rfl
theorem k188_2:ja2 Tryz.prog B2 noL Tryz.f188 [.string ⟨#[65,65,57]⟩] (.tuple ⟨[.string ⟨#[65,65,57]⟩,.bool true]⟩):=by
 rw[ja2,v188_2];delta qaf qew qbg qb0 qey qgy qhg;intro c1 t1 h1;refine c_t (jcj (row:=[.int .u8 65]) h1 rfl) ?_;intro c2 t2 h2;refine c_t (jcj (row:=[.int .u8 65,.int .u8 65]) h2 rfl) ?_;intro c3 t3 h3;rfl
theorem pk188:jan Tryz.prog 188 (memo m188):=jec ok_B2 hmix fn188 jai (by kernel_rfl) ⟨k188_0,k188_1,k188_2,trivial⟩
def B3:Env:=Env.nil.add 272 (sp2 Px.s141)
theorem ok_B3:jax Tryz.prog B3:=jaj jao (jde Px.ok141)
theorem fn281:Fn1 Tryz.prog 281 Tryz.f281:= .m Tryz.func281
def B4:Env:=(((Env.nil.add 272 (sp2 Px.s141)).add 279 (sp2 Px.s157)).add 129 (sp2 s132)).add 280 (sp2 s280)
theorem ok_B4:jax Tryz.prog B4:=jaj (jaj (jaj (jaj jao (jde Px.ok141)) (jde Px.ok157)) (jde ok132)) (jde ok280)
theorem fn244:Fn1 Tryz.prog 244 Tryz.f244:= .m Tryz.func244
def B5:Env:=Env.nil.addG 281 (inlQ Tryz.prog B3 noL Tryz.f281)
theorem ok_B5:jax Tryz.prog B5:=jam jao (jas ok_B3 hmix fn281 jai)
theorem fn245:Fn1 Tryz.prog 245 Tryz.f245:= .m Tryz.func245
def B6:Env:=Env.nil
theorem ok_B6:jax Tryz.prog B6:=jao
theorem fn246:Fn1 Tryz.prog 246 Tryz.f246:= .m Tryz.func246
def B7:Env:=Env.nil.add 272 (sp2 Px.s141)
theorem ok_B7:jax Tryz.prog B7:=jaj jao (jde Px.ok141)
theorem fn247:Fn1 Tryz.prog 247 Tryz.f247:= .m Tryz.func247
def B8:Env:=((((((Env.nil.add 129 (sp2 s132)).add 130 (sp2 s130)).add 203 (sp2 s102)).addG 244 (inlQ Tryz.prog B4 noL Tryz.f244)).addG 245 (inlQ Tryz.prog B5 noL Tryz.f245)).addG 246 (inlQ Tryz.prog B6 noL Tryz.f246)).addG 247 (inlQ Tryz.prog B7 noL Tryz.f247)
theorem ok_B8:jax Tryz.prog B8:=jam (jam (jam (jam (jaj (jaj (jaj jao (jde ok132)) (jde ok130)) (jde ok102)) (jas ok_B4 hmix fn244 jai)) (jas ok_B5 hmix fn245 jai)) (jas ok_B6 hmix fn246 jai)) (jas ok_B7 hmix fn247 jai)
theorem fn204:Fn1 Tryz.prog 204 Tryz.f204:= .m Tryz.func204
def B9:Env:=(((Env.nil.add 55 (sp2 s55)).add 203 (sp2 s102)).add 188 (memo m188)).addG 204 (inlQ Tryz.prog B8 noL Tryz.f204)
theorem ok_B9:jax Tryz.prog B9:=jam (jaj (jaj (jaj jao ok55) (jde ok102)) pk188) (jas ok_B8 hmix fn204 jai)
theorem fn145:Fn1 Tryz.prog 145 Tryz.f145:= .m Tryz.func145
def B10:Env:=Env.nil.addG 145 (inlQ Tryz.prog B9 noL Tryz.f145)
theorem ok_B10:jax Tryz.prog B10:=jam jao (jas ok_B9 hmix fn145 jai)
theorem fn113:Fn1 Tryz.prog 113 Tryz.f113:= .m Tryz.func113
def m113:List (List Value×Value):=[([.string ⟨#[90,90,57,86,46,57,57]⟩],.tuple ⟨[.agg ⟨[.string ⟨#[90,90,57,86,46,57,57]⟩,.bool true,.int .i64 6,.int .i64 5,.int .i64 2,.bool false]⟩,.int .i64 0]⟩),([.string ⟨#[57,57,57]⟩],.tuple ⟨[.agg ⟨[.string ⟨#[57,57,57]⟩,.bool true,.int .i64 3,.int .i64 3,.int .i64 0,.bool false]⟩,.int .i64 0]⟩),([.string ⟨#[65,65,57]⟩],.tuple ⟨[.agg ⟨[.string ⟨#[65,65,57]⟩,.bool false,.int .i64 3,.int .i64 0,.int .i64 0,.bool false]⟩,.int .i64 0]⟩)]
def qd4(b:Nat)(c:Prop):Prop:=∀a:Nat,b.ble a=true→c
theorem v113_0(R:Value→Prop):ja1 Tryz.prog B10 noL Tryz.f113 [S ⟨#[90,90,57,86,46,57,57]⟩] (fun _=>none) 0 (fun v _ _=>R v)=(qd4 7 (∀b:Nat,qey 1 .i64 b (∀f:Nat,∀g:List Value,qci g f (∀p:Nat,Nat.ble 7 p=true→R (qgy [.agg ⟨S ⟨#[90,90,57,86,46,57,57]⟩::B true::qbk 6::qbk 5::qbk 2::qfz⟩,qbk 0])) (qbk 1) (qbk 0) (qbk 2) (qbk 3)))):=by kernel_rfl
theorem k113_0:ja2 Tryz.prog B10 noL Tryz.f113 [.string ⟨#[90,90,57,86,46,57,57]⟩] (.tuple ⟨[.agg ⟨[.string ⟨#[90,90,57,86,46,57,57]⟩,.bool true,.int .i64 6,.int .i64 5,.int .i64 2,.bool false]⟩,.int .i64 0]⟩):=by
 rw[ja2,v113_0];delta qd4 qaf qew qbg qb0 qey qci qbk qgy qfz;intro c1 h1;intro c2 t2 h2;refine c_t (jcj (row:=[.int .i64 1]) h2 rfl) ?_;intro c3 t3 h3;refine c_t (jcj (row:=[.int .i64 1,.int .i64 1]) h3 rfl) ?_;intro c4 t4 h4;refine c_t (jcj (row:=[.int .i64 1,.int .i64 1,.int .i64 0]) h4 rfl) ?_;intro c5 t5 h5;refine c_t (jcj (row:=[.int .i64 1,.int .i64 1,.int .i64 0,.int .i64 2]) h5 rfl) ?_;intro c6 t6 h6;refine c_t (jcj (row:=[.int .i64 1,.int .i64 1,.int .i64 0,.int .i64 2,.int .i64 3]) h6 rfl) ?_;intro c7 t7 h7;refine c_t (jcj (row:=[.int .i64 1,.int .i64 1,.int .i64 0,.int .i64 2,.int .i64 3,.int .i64 0]) h7 rfl) ?_;intro c8 t8 h8;intro c9 h9;rfl
theorem v113_1(R:Value→Prop):ja1 Tryz.prog B10 noL Tryz.f113 [S ⟨#[57,57,57]⟩] (fun _=>none) 0 (fun v _ _=>R v)=(qd4 3 (∀b:Nat,qey 0 .i64 b (∀f:Nat,∀g:List Value,qb0 g f 3→(∀h:Nat,Nat.ble 3 h=true→R (qgy [.agg ⟨S ⟨#[57,57,57]⟩::B true::qbk 3::qbk 3::qbk 0::qfz⟩,qbk 0]))))):=by kernel_rfl
theorem k113_1:ja2 Tryz.prog B10 noL Tryz.f113 [.string ⟨#[57,57,57]⟩] (.tuple ⟨[.agg ⟨[.string ⟨#[57,57,57]⟩,.bool true,.int .i64 3,.int .i64 3,.int .i64 0,.bool false]⟩,.int .i64 0]⟩):=by
 rw[ja2,v113_1];delta qd4 qaf qew qbg qb0 qey qgy qbk qfz;intro c1 h1;intro c2 t2 h2;refine c_t (jcj (row:=[.int .i64 0]) h2 rfl) ?_;intro c3 t3 h3;refine c_t (jcj (row:=[.int .i64 0,.int .i64 0]) h3 rfl) ?_;intro c4 t4 h4;intro c5 h5;rfl
theorem v113_2(R:Value→Prop):ja1 Tryz.prog B10 noL Tryz.f113 [S ⟨#[65,65,57]⟩] (fun _=>none) 0 (fun v _ _=>R v)=(R (.tuple ⟨[.agg ⟨[S ⟨#[65,65,57]⟩,B false,I 3,I 0,I 0,B false]⟩,I 0]⟩)):=by kernel_rfl
theorem pk113:jan Tryz.prog 113 (memo m113):=jec ok_B10 hmix fn113 jai (by kernel_rfl) ⟨k113_0,k113_1,by rw[ja2,v113_2],trivial⟩
def B11:Env:=Env.nil.add 113 (memo m113)
theorem ok_B11:jax Tryz.prog B11:=jaj jao pk113
theorem fn67:Fn1 Tryz.prog 67 Tryz.f67:= .m Tryz.func67
def m67:List (List Value×Value):=[([.string ⟨#[90,90,57,86,46,57,57]⟩],.int .i64 0),([.string ⟨#[57,57,57]⟩],.int .i64 0),([.string ⟨#[65,65,57]⟩],.int .i64 0)]
theorem pk67:jan Tryz.prog 67 (memo m67):=jaz [] ok_B11 hmix fn67 jai (by kernel_rfl) (by kernel_rfl)
def B12:Env:=Env.nil.add 113 (memo m113)
theorem ok_B12:jax Tryz.prog B12:=jaj jao pk113
theorem fn61:Fn1 Tryz.prog 61 Tryz.f61:= .m Tryz.func61
def m61:List (List Value×Value):=[([.string ⟨#[90,90,57,86,46,57,57]⟩],.tuple ⟨[.agg ⟨[.int .i64 1,.int .i64 5,.int .i64 2,.bool false,.string ⟨#[]⟩]⟩,.int .i64 0]⟩),([.string ⟨#[57,57,57]⟩],.tuple ⟨[.agg ⟨[.int .i64 1,.int .i64 3,.int .i64 0,.bool false,.string ⟨#[]⟩]⟩,.int .i64 0]⟩),([.string ⟨#[65,65,57]⟩],.tuple ⟨[.agg ⟨[.int .i64 3,.int .i64 3,.int .i64 0,.bool false,.string ⟨#[]⟩]⟩,.int .i64 0]⟩)]
theorem pk61:jan Tryz.prog 61 (memo m61):=jaz [] ok_B12 hmix fn61 jai (by kernel_rfl) (by kernel_rfl)
def B13:Env:=Env.nil.addG 145 (inlQ Tryz.prog B9 noL Tryz.f145)
theorem ok_B13:jax Tryz.prog B13:=jam jao (jas ok_B9 hmix fn145 jai)
theorem fn136:Fn1 Tryz.prog 136 Tryz.f136:= .m Tryz.func136
def B14:Env:=Env.nil.addG 136 (inlQ Tryz.prog B13 noL Tryz.f136)
theorem ok_B14:jax Tryz.prog B14:=jam jao (jas ok_B13 hmix fn136 jai)
theorem fn59:Fn1 Tryz.prog 59 Tryz.f59:= .m Tryz.func59
def m59:List (List Value×Value):=[([.string ⟨#[90,90,57,86,46,57,57]⟩],.bool true),([.string ⟨#[57,57,57]⟩],.bool true),([.string ⟨#[65,65,57]⟩],.bool false)]
def qax(a b:List Value)(c d e:Nat):Bool:=(a++b).length.beq (c*d) &&e.ble c&&c.ble 9223372036854775807&&true&&true
def qdm(b:Int)(c e:List Value)(a d f:Nat)(g:Value→Prop):Prop:=∀j:Nat,∀k:List Value,qb0 k j a→(bif qax (qbk b::c) k j 1 a then∀l:Nat,∀m:List Value,qb0 m l d→(bif qax (qbk b::qbk b::e) m l 1 d then∀n:Nat,∀o:List Value,qb0 o n f→(∀p:Nat,f.ble p=true→g (B true))else False)else False)
theorem v59_0(R:Value→Prop):ja1 Tryz.prog B14 noL Tryz.f59 [S ⟨#[90,90,57,86,46,57,57]⟩] (fun _=>none) 0 (fun v _ _=>R v)=(qd4 7 (∀b:Nat,∀c:List Value,qb0 c b 1→(bif qax [qbk 1] c b 1 1 then∀d:Nat,∀e:List Value,qb0 e d 2→(bif qax [qbk 1,qbk 1] e d 1 2 then∀f:Nat,∀g:List Value,qb0 g f 3→(bif qax [qbk 1,qbk 1,qbk 0] g f 1 3 then∀h:Nat,∀i:List Value,qb0 i h 4→(bif qax [qbk 1,qbk 1,qbk 0,qbk 2] i h 1 4 then qdm 1 [qbk 1,qbk 0,qbk 2,qbk 3] [qbk 0,qbk 2,qbk 3,qbk 0] 5 6 7 R else False)else False)else False)else False))):=by kernel_rfl
theorem k59_0:ja2 Tryz.prog B14 noL Tryz.f59 [.string ⟨#[90,90,57,86,46,57,57]⟩] (.bool true):=by
 rw[ja2,v59_0];delta qd4 qb0 qax qbk qdm;intro c1 h1;intro c2 t2 h2;refine c_t (jcj (row:=[.int .i64 1]) h2 rfl) ?_;intro c3 t3 h3;refine c_t (jcj (row:=[.int .i64 1,.int .i64 1]) h3 rfl) ?_;intro c4 t4 h4;refine c_t (jcj (row:=[.int .i64 1,.int .i64 1,.int .i64 0]) h4 rfl) ?_;intro c5 t5 h5;refine c_t (jcj (row:=[.int .i64 1,.int .i64 1,.int .i64 0,.int .i64 2]) h5 rfl) ?_;intro c6 t6 h6;refine c_t (jcj (row:=[.int .i64 1,.int .i64 1,.int .i64 0,.int .i64 2,.int .i64 3]) h6 rfl) ?_;intro c7 t7 h7;refine c_t (jcj (row:=[.int .i64 1,.int .i64 1,.int .i64 0,.int .i64 2,.int .i64 3,.int .i64 0]) h7 rfl) ?_;intro c8 t8 h8;intro c9 h9;rfl
theorem v59_1(R:Value→Prop):ja1 Tryz.prog B14 noL Tryz.f59 [S ⟨#[57,57,57]⟩] (fun _=>none) 0 (fun v _ _=>R v)=(∀a:Nat,Nat.ble 3 a=true→qdm 0 [] [] 1 2 3 R):=by kernel_rfl
theorem k59_1:ja2 Tryz.prog B14 noL Tryz.f59 [.string ⟨#[57,57,57]⟩] (.bool true):=by
 rw[ja2,v59_1];delta qb0 qax qbk qdm;intro c1 h1;intro c2 t2 h2;refine c_t (jcj (row:=[.int .i64 0]) h2 rfl) ?_;intro c3 t3 h3;refine c_t (jcj (row:=[.int .i64 0,.int .i64 0]) h3 rfl) ?_;intro c4 t4 h4;intro c5 h5;rfl
theorem v59_2(R:Value→Prop):ja1 Tryz.prog B14 noL Tryz.f59 [S ⟨#[65,65,57]⟩] (fun _=>none) 0 (fun v _ _=>R v)=(R (B false)):=by kernel_rfl
theorem pk59:jan Tryz.prog 59 (memo m59):=jec ok_B14 hmix fn59 jai (by kernel_rfl) ⟨k59_0,k59_1,by rw[ja2,v59_2],trivial⟩
def B15:Env:=Env.nil
theorem ok_B15:jax Tryz.prog B15:=jao
theorem fn147:Fn1 Tryz.prog 147 Tryz.f147:= .m Tryz.func147
def B16:Env:=(((Env.nil.add 154 (sp2 s154)).add 55 (sp2 s55)).add 30 (sp2 s30)).add 81 (memo m81)
theorem ok_B16:jax Tryz.prog B16:=jaj (jaj (jaj (jaj jao ok154) ok55) ok30) pk81
theorem fn225:Fn1 Tryz.prog 225 Tryz.f225:= .m Tryz.func225
def B17:Env:=Env.nil
theorem ok_B17:jax Tryz.prog B17:=jao
theorem fn287:Fn1 Tryz.prog 287 Tryz.f287:= .m Tryz.func287
def B18:Env:=Env.nil
theorem ok_B18:jax Tryz.prog B18:=jao
theorem fn288:Fn1 Tryz.prog 288 Tryz.f288:= .m Tryz.func288
def B19:Env:=Env.nil.add 55 (sp2 s55)
theorem ok_B19:jax Tryz.prog B19:=jaj jao ok55
theorem fn251:Fn1 Tryz.prog 251 Tryz.f251:= .m Tryz.func251
def B20:Env:=(Env.nil.addG 287 (inlQ Tryz.prog B17 noL Tryz.f287)).addG 288 (inlQ Tryz.prog B18 noL Tryz.f288)
theorem ok_B20:jax Tryz.prog B20:=jam (jam jao (jas ok_B17 hmix fn287 jai)) (jas ok_B18 hmix fn288 jai)
theorem fn252:Fn1 Tryz.prog 252 Tryz.f252:= .m Tryz.func252
def B21:Env:=Env.nil.addG 287 (inlQ Tryz.prog B17 noL Tryz.f287)
theorem ok_B21:jax Tryz.prog B21:=jam jao (jas ok_B17 hmix fn287 jai)
theorem fn253:Fn1 Tryz.prog 253 Tryz.f253:= .m Tryz.func253
def B22:Env:=Env.nil
theorem ok_B22:jax Tryz.prog B22:=jao
theorem fn254:Fn1 Tryz.prog 254 Tryz.f254:= .m Tryz.func254
def B23:Env:=Env.nil
theorem ok_B23:jax Tryz.prog B23:=jao
theorem fn255:Fn1 Tryz.prog 255 Tryz.f255:= .m Tryz.func255
def B24:Env:=Env.nil
theorem ok_B24:jax Tryz.prog B24:=jao
theorem fn256:Fn1 Tryz.prog 256 Tryz.f256:= .m Tryz.func256
def B25:Env:=((((((Env.nil.add 30 (sp2 s30)).addG 251 (inlQ Tryz.prog B19 noL Tryz.f251)).addG 252 (inlQ Tryz.prog B20 noL Tryz.f252)).addG 253 (inlQ Tryz.prog B21 noL Tryz.f253)).addG 254 (inlQ Tryz.prog B22 noL Tryz.f254)).addG 255 (inlQ Tryz.prog B23 noL Tryz.f255)).addG 256 (inlQ Tryz.prog B24 noL Tryz.f256)
theorem ok_B25:jax Tryz.prog B25:=jam (jam (jam (jam (jam (jam (jaj jao ok30) (jas ok_B19 hmix fn251 jai)) (jas ok_B20 hmix fn252 jai)) (jas ok_B21 hmix fn253 jai)) (jas ok_B22 hmix fn254 jai)) (jas ok_B23 hmix fn255 jai)) (jas ok_B24 hmix fn256 jai)
theorem fn207:Fn1 Tryz.prog 207 Tryz.f207:= .m Tryz.func207
def B26:Env:=((Env.nil.addG 136 (inlQ Tryz.prog B13 noL Tryz.f136)).addG 225 (inlQ Tryz.prog B16 noL Tryz.f225)).addG 207 (inlQ Tryz.prog B25 noL Tryz.f207)
theorem ok_B26:jax Tryz.prog B26:=jam (jam (jam jao (jas ok_B13 hmix fn136 jai)) (jas ok_B16 hmix fn225 jai)) (jas ok_B25 hmix fn207 jai)
theorem fn171:Fn1 Tryz.prog 171 Tryz.f171:= .m Tryz.func171
def m171:List (List Value×Value):=[([.int .i64 1230,.int .i64 2,.string ⟨#[90,90,57,86,46,57,57]⟩],.tuple ⟨[.string ⟨#[32,49,50,46,51,48]⟩,.bool true,.int .i64 0]⟩),([.int .i64 234,.int .i64 0,.string ⟨#[57,57,57]⟩],.tuple ⟨[.string ⟨#[50,51,52]⟩,.bool true,.int .i64 0]⟩)]
def qft(a:List Value)(b:Nat)(g:Prop)(c f:Value):Prop:=qew a b 1 1→(bif qax [c] a b 1 1 then∀d:Nat,∀e:List Value,qew e d 2 1→(bif qax [c,f] e d 1 2 then g else False)else False)
def qct(c d:Int)(a b:Nat)(e:Prop):Prop:=∀o:List Value,qew o a b 1→qd4 b (∀q:Nat,∀r:List Value,qft r q e (qe7 c) (qe7 d))
theorem v171_0(R:Value→Prop):ja1 Tryz.prog B26 noL Tryz.f171 [I 1230,I 2,S ⟨#[90,90,57,86,46,57,57]⟩] (fun _=>none) 0 (fun v _ _=>R v)=(qd4 7 (∀b:Nat,∀c:List Value,qft c b (∀f:Nat,∀g:List Value,qew g f 3 1→(bif qax [qbk 1,qbk 1,qbk 0] g f 1 3 then∀h:Nat,∀i:List Value,qew i h 4 1→(bif qax [qbk 1,qbk 1,qbk 0,qbk 2] i h 1 4 then∀j:Nat,∀k:List Value,qew k j 5 1→(bif qax [qbk 1,qbk 1,qbk 0,qbk 2,qbk 3] k j 1 5 then∀l:Nat,∀m:List Value,qew m l 6 1→(bif qax [qbk 1,qbk 1,qbk 0,qbk 2,qbk 3,qbk 0] m l 1 6 then∀n:Nat,qct 32 49 n 7 (∀u:Nat,∀v:List Value,qew v u 3 1→(bif qax [qe7 32,qe7 49,qe7 50] v u 1 3 then∀w:Nat,∀x:List Value,qew x w 4 1→(bif qax [qe7 32,qe7 49,qe7 50,qe7 46] x w 1 4 then∀y:Nat,∀z:List Value,qew z y 5 1→(bif qax [qe7 32,qe7 49,qe7 50,qe7 46,qe7 51] z y 1 5 then∀aa:Nat,∀ab:List Value,qew ab aa 6 1→R (qgy [S ⟨#[32,49,50,46,51,48]⟩,B true,qbk 0])else False)else False)else False))else False)else False)else False)else False)) (qbk 1) (qbk 1))):=by kernel_rfl
theorem k171_0:ja2 Tryz.prog B26 noL Tryz.f171 [.int .i64 1230,.int .i64 2,.string ⟨#[90,90,57,86,46,57,57]⟩] (.tuple ⟨[.string ⟨#[32,49,50,46,51,48]⟩,.bool true,.int .i64 0]⟩):=by
 rw[ja2,v171_0];delta qd4 qax qew qft qbk qe7 qct qgy;intro c1 h1;intro c2 t2 h2;refine c_t (jcj (row:=[.int .i64 1]) h2 rfl) ?_;intro c3 t3 h3;refine c_t (jcj (row:=[.int .i64 1,.int .i64 1]) h3 rfl) ?_;intro c4 t4 h4;refine c_t (jcj (row:=[.int .i64 1,.int .i64 1,.int .i64 0]) h4 rfl) ?_;intro c5 t5 h5;refine c_t (jcj (row:=[.int .i64 1,.int .i64 1,.int .i64 0,.int .i64 2]) h5 rfl) ?_;intro c6 t6 h6;refine c_t (jcj (row:=[.int .i64 1,.int .i64 1,.int .i64 0,.int .i64 2,.int .i64 3]) h6 rfl) ?_;intro c7 t7 h7;refine c_t (jcj (row:=[.int .i64 1,.int .i64 1,.int .i64 0,.int .i64 2,.int .i64 3,.int .i64 0]) h7 rfl) ?_;intro c8 t8 h8;intro c9 h9;intro c10 t10 h10;refine c_t (jcj (row:=[.int .u8 32]) h10 rfl) ?_;intro c11 t11 h11;refine c_t (jcj (row:=[.int .u8 32,.int .u8 49]) h11 rfl) ?_;intro c12 t12 h12;refine c_t (jcj (row:=[.int .u8 32,.int .u8 49,.int .u8 50]) h12 rfl) ?_;intro c13 t13 h13;refine c_t (jcj (row:=[.int .u8 32,.int .u8 49,.int .u8 50,.int .u8 46]) h13 rfl) ?_;intro c14 t14 h14;refine c_t (jcj (row:=[.int .u8 32,.int .u8 49,.int .u8 50,.int .u8 46,.int .u8 51]) h14 rfl) ?_;intro c15 t15 h15;rfl
theorem v171_1(R:Value→Prop):ja1 Tryz.prog B26 noL Tryz.f171 [I 234,I 0,S ⟨#[57,57,57]⟩] (fun _=>none) 0 (fun v _ _=>R v)=(qd4 3 (∀b:Nat,∀c:List Value,qft c b (∀f:Nat,qct 50 51 f 3 (∀m:Nat,∀n:List Value,qew n m 3 1→R (qgy [S ⟨#[50,51,52]⟩,B true,qbk 0]))) (qbk 0) (qbk 0))):=by kernel_rfl
theorem k171_1:ja2 Tryz.prog B26 noL Tryz.f171 [.int .i64 234,.int .i64 0,.string ⟨#[57,57,57]⟩] (.tuple ⟨[.string ⟨#[50,51,52]⟩,.bool true,.int .i64 0]⟩):=by
 rw[ja2,v171_1];delta qd4 qax qew qft qbk qe7 qct qgy;intro c1 h1;intro c2 t2 h2;refine c_t (jcj (row:=[.int .i64 0]) h2 rfl) ?_;intro c3 t3 h3;refine c_t (jcj (row:=[.int .i64 0,.int .i64 0]) h3 rfl) ?_;intro c4 t4 h4;intro c5 h5;intro c6 t6 h6;refine c_t (jcj (row:=[.int .u8 50]) h6 rfl) ?_;intro c7 t7 h7;refine c_t (jcj (row:=[.int .u8 50,.int .u8 51]) h7 rfl) ?_;intro c8 t8 h8;rfl
theorem pk171:jan Tryz.prog 171 (memo m171):=jec ok_B26 hmix fn171 jai (by kernel_rfl) ⟨k171_0,k171_1,trivial⟩
def B27:Env:=(Env.nil.addG 145 (inlQ Tryz.prog B9 noL Tryz.f145)).addG 147 (inlQ Tryz.prog B15 noL Tryz.f147)
theorem ok_B27:jax Tryz.prog B27:=jam (jam jao (jas ok_B9 hmix fn145 jai)) (jas ok_B15 hmix fn147 jai)
theorem fn72:Fn1 Tryz.prog 72 Tryz.f72:= .m Tryz.func72
def m72:List (List Value×Value):=[([.string ⟨#[65,65,57]⟩,.string ⟨#[97,49,49]⟩],.bool false)]
theorem v72_0(R:Value→Prop):ja1 Tryz.prog B27 noL Tryz.f72 [S ⟨#[65,65,57]⟩,S ⟨#[97,49,49]⟩] (fun _=>none) 0 (fun v _ _=>R v)=(∀c1:Nat,Nat.ble 3 c1=true→R (B false)):=by kernel_rfl
theorem k72_0:ja2 Tryz.prog B27 noL Tryz.f72 [.string ⟨#[65,65,57]⟩,.string ⟨#[97,49,49]⟩] (.bool false):=by
 rw[ja2,v72_0];intro c1 h1;rfl
theorem pk72:jan Tryz.prog 72 (memo m72):=jec ok_B27 hmix fn72 jai (by kernel_rfl) ⟨k72_0,trivial⟩
def B28:Env:=((Env.nil.add 30 (sp2 s30)).addG 145 (inlQ Tryz.prog B9 noL Tryz.f145)).addG 207 (inlQ Tryz.prog B25 noL Tryz.f207)
theorem ok_B28:jax Tryz.prog B28:=jam (jam (jaj jao ok30) (jas ok_B9 hmix fn145 jai)) (jas ok_B25 hmix fn207 jai)
theorem fn176:Fn1 Tryz.prog 176 Tryz.f176:= .m Tryz.func176
def m176:List (List Value×Value):=[([.string ⟨#[65,65,57]⟩],.tuple ⟨[.string ⟨#[32,32,32]⟩,.int .i64 0]⟩)]
theorem pk176:jan Tryz.prog 176 (memo m176):=jaz [] ok_B28 hmix fn176 jai (by kernel_rfl) (by kernel_rfl)
def A5:Env:=(Env.nil.add 67 (memo m67)).add 66 (sp1 Cx.s66)
theorem ok_A5:jax Tryz.prog A5:=jaj (jaj jao pk67) (jde Cx.ok66)
theorem fn20:Fn1 Tryz.prog 20 Tryz.f20:= .m Tryz.func20
def m20:List (List Value×Value):=[([.agg ⟨[.int .i64 1,.int .i64 4,.int .i64 2,.bool false,.string ⟨#[]⟩]⟩],.int .i64 0),([.agg ⟨[.int .i64 3,.int .i64 3,.int .i64 0,.bool false,.string ⟨#[]⟩]⟩],.int .i64 0),([.agg ⟨[.int .i64 1,.int .i64 3,.int .i64 0,.bool false,.string ⟨#[]⟩]⟩],.int .i64 0),([.agg ⟨[.int .i64 2,.int .i64 15,.int .i64 0,.bool false,.string ⟨#[]⟩]⟩],.int .i64 0),([.agg ⟨[.int .i64 4,.int .i64 1,.int .i64 0,.bool false,.string ⟨#[]⟩]⟩],.int .i64 0),([.agg ⟨[.int .i64 4,.int .i64 3,.int .i64 0,.bool false,.string ⟨#[]⟩]⟩],.int .i64 0),([.agg ⟨[.int .i64 3,.int .i64 5,.int .i64 0,.bool false,.string ⟨#[]⟩]⟩],.int .i64 0),([.agg ⟨[.int .i64 1,.int .i64 3,.int .i64 1,.bool false,.string ⟨#[]⟩]⟩],.int .i64 0),([.agg ⟨[.int .i64 5,.int .i64 0,.int .i64 0,.bool false,.string ⟨#[90,90,57,86,46,57,57]⟩]⟩],.int .i64 0),([.agg ⟨[.int .i64 1,.int .i64 4,.int .i64 0,.bool false,.string ⟨#[]⟩]⟩],.int .i64 0),([.agg ⟨[.int .i64 5,.int .i64 0,.int .i64 0,.bool false,.string ⟨#[57,57,57]⟩]⟩],.int .i64 0),([.agg ⟨[.int .i64 5,.int .i64 0,.int .i64 0,.bool false,.string ⟨#[65,65,57]⟩]⟩],.int .i64 0),([.agg ⟨[.int .i64 3,.int .i64 256,.int .i64 0,.bool false,.string ⟨#[]⟩]⟩],.int .i64 5),([.agg ⟨[.int .i64 4,.int .i64 64,.int .i64 0,.bool false,.string ⟨#[]⟩]⟩],.int .i64 0)]
theorem pk20:jan Tryz.prog 20 (memo m20):=jaz [0,1,0,0,0,0,1,0,0,0,0,0,1] ok_A5 hmix fn20 jai (by kernel_rfl) (by kernel_rfl)
def A6:Env:=Env.nil
theorem ok_A6:jax Tryz.prog A6:=jao
theorem fn191:Fn1 Tryz.prog 191 Tryz.f191:= .m Tryz.func191
def m191:List (List Value×Value):=[([],.agg ⟨[.int .i64 1,.int .i64 10,.int .i64 100,.int .i64 1000,.int .i64 10000,.int .i64 100000,.int .i64 1000000,.int .i64 10000000,.int .i64 100000000,.int .i64 1000000000,.int .i64 10000000000,.int .i64 100000000000,.int .i64 1000000000000,.int .i64 10000000000000,.int .i64 100000000000000,.int .i64 1000000000000000,.int .i64 10000000000000000,.int .i64 100000000000000000,.int .i64 1000000000000000000]⟩)]
theorem pk191:jan Tryz.prog 191 (memo m191):=jaz [] ok_A6 hmix fn191 jai (by kernel_rfl) (by kernel_rfl)
def A7:Env:=Env.nil.add 191 (memo m191)
theorem ok_A7:jax Tryz.prog A7:=jaj jao pk191
theorem fn144:Fn1 Tryz.prog 144 Tryz.f144:= .m Tryz.func144
def m144:List (List Value×Value):=[([.agg ⟨[.int .i64 1,.int .i64 4,.int .i64 2,.bool false,.string ⟨#[]⟩]⟩],.int .i64 10000),([.agg ⟨[.int .i64 2,.int .i64 15,.int .i64 0,.bool false,.string ⟨#[]⟩]⟩],.int .i64 32768),([.agg ⟨[.int .i64 1,.int .i64 3,.int .i64 1,.bool false,.string ⟨#[]⟩]⟩],.int .i64 1000),([.agg ⟨[.int .i64 1,.int .i64 4,.int .i64 0,.bool false,.string ⟨#[]⟩]⟩],.int .i64 10000)]
theorem pk144:jan Tryz.prog 144 (memo m144):=jaz [] ok_A7 hmix fn144 jai (by kernel_rfl) (by kernel_rfl)
def A8:Env:=(Env.nil.add 66 (sp1 Cx.s66)).add 144 (memo m144)
theorem ok_A8:jax Tryz.prog A8:=jaj (jaj jao (jde Cx.ok66)) pk144
theorem fn70:Fn1 Tryz.prog 70 Tryz.f70:= .m Tryz.func70
def m70:List (List Value×Value):=[([.agg ⟨[.int .i64 (-150),.string ⟨#[]⟩]⟩,.agg ⟨[.int .i64 1,.int .i64 4,.int .i64 2,.bool false,.string ⟨#[]⟩]⟩],.int .i64 0),([.agg ⟨[.int .i64 1,.string ⟨#[]⟩]⟩,.agg ⟨[.int .i64 2,.int .i64 15,.int .i64 0,.bool false,.string ⟨#[]⟩]⟩],.int .i64 0),([.agg ⟨[.int .i64 123,.string ⟨#[]⟩]⟩,.agg ⟨[.int .i64 1,.int .i64 3,.int .i64 1,.bool false,.string ⟨#[]⟩]⟩],.int .i64 0),([.agg ⟨[.int .i64 1234,.string ⟨#[]⟩]⟩,.agg ⟨[.int .i64 1,.int .i64 4,.int .i64 0,.bool false,.string ⟨#[]⟩]⟩],.int .i64 0)]
theorem pk70:jan Tryz.prog 70 (memo m70):=jaz [] ok_A8 hmix fn70 jai (by kernel_rfl) (by kernel_rfl)
def A9:Env:=Env.nil.add 55 (sp2 s55)
theorem ok_A9:jax Tryz.prog A9:=jaj jao ok55
theorem fn71:Fn1 Tryz.prog 71 Tryz.f71:= .m Tryz.func71
def m71:List (List Value×Value):=[([.string ⟨#[49,48,49]⟩],.bool true),([.string ⟨#[50]⟩],.bool false)]
theorem pk71:jan Tryz.prog 71 (memo m71):=jaz [] ok_A9 hmix fn71 jai (by kernel_rfl) (by kernel_rfl)
def A10:Env:=(((Env.nil.add 72 (memo m72)).add 20 (memo m20)).add 70 (memo m70)).add 71 (memo m71)
theorem ok_A10:jax Tryz.prog A10:=jaj (jaj (jaj (jaj jao pk72) pk20) pk70) pk71
theorem fn22:Fn1 Tryz.prog 22 Tryz.f22:= .m Tryz.func22
def m22:List (List Value×Value):=[([.agg ⟨[.int .i64 (-150),.string ⟨#[]⟩]⟩,.agg ⟨[.int .i64 1,.int .i64 4,.int .i64 2,.bool false,.string ⟨#[]⟩]⟩],.int .i64 0),([.agg ⟨[.int .i64 0,.string ⟨#[49,50,120]⟩]⟩,.agg ⟨[.int .i64 3,.int .i64 3,.int .i64 0,.bool false,.string ⟨#[]⟩]⟩],.int .i64 0),([.agg ⟨[.int .i64 1,.string ⟨#[]⟩]⟩,.agg ⟨[.int .i64 2,.int .i64 15,.int .i64 0,.bool false,.string ⟨#[]⟩]⟩],.int .i64 0),([.agg ⟨[.int .i64 0,.string ⟨#[49,48,49]⟩]⟩,.agg ⟨[.int .i64 4,.int .i64 3,.int .i64 0,.bool false,.string ⟨#[]⟩]⟩],.int .i64 0),([.agg ⟨[.int .i64 123,.string ⟨#[]⟩]⟩,.agg ⟨[.int .i64 1,.int .i64 3,.int .i64 1,.bool false,.string ⟨#[]⟩]⟩],.int .i64 0),([.agg ⟨[.int .i64 1234,.string ⟨#[]⟩]⟩,.agg ⟨[.int .i64 1,.int .i64 4,.int .i64 0,.bool false,.string ⟨#[]⟩]⟩],.int .i64 0),([.agg ⟨[.int .i64 0,.string ⟨#[97,49,49]⟩]⟩,.agg ⟨[.int .i64 3,.int .i64 3,.int .i64 0,.bool false,.string ⟨#[]⟩]⟩],.int .i64 0),([.agg ⟨[.int .i64 0,.string ⟨#[50]⟩]⟩,.agg ⟨[.int .i64 4,.int .i64 1,.int .i64 0,.bool false,.string ⟨#[]⟩]⟩],.int .i64 6)]
theorem pk22:jan Tryz.prog 22 (memo m22):=jaz [] ok_A10 hmix fn22 jai (by kernel_rfl) (by kernel_rfl)
def A11:Env:=(Env.nil.add 154 (sp2 s154)).add 131 (sp2 s131)
theorem ok_A11:jax Tryz.prog A11:=jaj (jaj jao ok154) ok131
theorem fn77:Fn1 Tryz.prog 77 Tryz.f77:= .m Tryz.func77
def m77:List (List Value×Value):=[([.bool true,.string ⟨#[48,48,49,50,53,48]⟩,.int .i64 2],.agg ⟨[.bool true,.string ⟨#[49,50,53]⟩,.int .i64 1]⟩),([.bool false,.string ⟨#[49,50,48,48]⟩,.int .i64 0],.agg ⟨[.bool false,.string ⟨#[49,50]⟩,.int .i64 (-2)]⟩),([.bool false,.string ⟨#[49,50,51]⟩,.int .i64 1],.agg ⟨[.bool false,.string ⟨#[49,50,51]⟩,.int .i64 1]⟩),([.bool false,.string ⟨#[49,50,51,52]⟩,.int .i64 0],.agg ⟨[.bool false,.string ⟨#[49,50,51,52]⟩,.int .i64 0]⟩)]
theorem pk77:jan Tryz.prog 77 (memo m77):=jaz [] ok_A11 hmix fn77 jai (by kernel_rfl) (by kernel_rfl)
def A12:Env:=Env.nil.add 55 (sp2 s55)
theorem ok_A12:jax Tryz.prog A12:=jaj jao ok55
theorem fn84:Fn1 Tryz.prog 84 Tryz.f84:= .m Tryz.func84
def m84:List (List Value×Value):=[([.agg ⟨[.bool false,.string ⟨#[49,50,51,52,53]⟩,.int .i64 2]⟩],.bool true),([.agg ⟨[.bool false,.string ⟨#[49,50,51]⟩,.int .i64 1]⟩],.bool true),([.agg ⟨[.bool false,.string ⟨#[49,50,51,52]⟩,.int .i64 0]⟩],.bool true)]
theorem pk84:jan Tryz.prog 84 (memo m84):=jaz [] ok_A12 hmix fn84 jai (by kernel_rfl) (by kernel_rfl)
def A13:Env:=(Env.nil.add 154 (sp2 s154)).add 30 (sp2 s30)
theorem ok_A13:jax Tryz.prog A13:=jaj (jaj jao ok154) ok30
theorem fn86:Fn1 Tryz.prog 86 Tryz.f86:= .m Tryz.func86
def m86:List (List Value×Value):=[([.agg ⟨[.bool false,.string ⟨#[49,50,51,52,53]⟩,.int .i64 2]⟩,.int .i64 1],.string ⟨#[49,50,51,52]⟩),([.agg ⟨[.bool false,.string ⟨#[49,50,51]⟩,.int .i64 1]⟩,.int .i64 2],.string ⟨#[49,50,51,48]⟩),([.agg ⟨[.bool false,.string ⟨#[49,50,51,52]⟩,.int .i64 0]⟩,.int .i64 0],.string ⟨#[49,50,51,52]⟩)]
theorem pk86:jan Tryz.prog 86 (memo m86):=jaz [] ok_A13 hmix fn86 jai (by kernel_rfl) (by kernel_rfl)
def A14:Env:=((Env.nil.add 85 (sp1 Cx.s85)).add 84 (memo m84)).add 86 (memo m86)
theorem ok_A14:jax Tryz.prog A14:=jaj (jaj (jaj jao (jde Cx.ok85)) pk84) pk86
theorem fn26:Fn1 Tryz.prog 26 Tryz.f26:= .m Tryz.func26
def m26:List (List Value×Value):=[([.agg ⟨[.bool false,.string ⟨#[49,50,51,52,53]⟩,.int .i64 2]⟩,.agg ⟨[.int .i64 1,.int .i64 3,.int .i64 1,.bool false,.string ⟨#[]⟩]⟩],.tuple ⟨[.agg ⟨[.int .i64 234,.string ⟨#[]⟩]⟩,.int .i64 1,.int .i64 0]⟩),([.agg ⟨[.bool false,.string ⟨#[49,50,51]⟩,.int .i64 1]⟩,.agg ⟨[.int .i64 1,.int .i64 5,.int .i64 2,.bool false,.string ⟨#[]⟩]⟩],.tuple ⟨[.agg ⟨[.int .i64 1230,.string ⟨#[]⟩]⟩,.int .i64 0,.int .i64 0]⟩),([.agg ⟨[.bool false,.string ⟨#[49,50,51,52]⟩,.int .i64 0]⟩,.agg ⟨[.int .i64 1,.int .i64 3,.int .i64 0,.bool false,.string ⟨#[]⟩]⟩],.tuple ⟨[.agg ⟨[.int .i64 234,.string ⟨#[]⟩]⟩,.int .i64 1,.int .i64 0]⟩)]
theorem pk26:jan Tryz.prog 26 (memo m26):=jaz [] ok_A14 hmix fn26 jai (by kernel_rfl) (by kernel_rfl)
def A15:Env:=Env.nil.add 59 (memo m59)
theorem ok_A15:jax Tryz.prog A15:=jaj jao pk59
theorem fn97:Fn1 Tryz.prog 97 Tryz.f97:= .m Tryz.func97
def m97:List (List Value×Value):=[([.agg ⟨[.int .i64 (-150),.string ⟨#[]⟩]⟩,.agg ⟨[.int .i64 1,.int .i64 4,.int .i64 2,.bool false,.string ⟨#[]⟩]⟩],.iface 174 (.agg ⟨[.int .i64 (-150),.int .i64 1,.int .i64 4,.int .i64 2,.bool false,.string ⟨#[]⟩]⟩)),([.agg ⟨[.int .i64 0,.string ⟨#[49,50,120]⟩]⟩,.agg ⟨[.int .i64 3,.int .i64 3,.int .i64 0,.bool false,.string ⟨#[]⟩]⟩],.iface 178 (.string ⟨#[49,50,120]⟩)),([.agg ⟨[.int .i64 1,.string ⟨#[]⟩]⟩,.agg ⟨[.int .i64 2,.int .i64 15,.int .i64 0,.bool false,.string ⟨#[]⟩]⟩],.iface 174 (.agg ⟨[.int .i64 1,.int .i64 2,.int .i64 15,.int .i64 0,.bool false,.string ⟨#[]⟩]⟩)),([.agg ⟨[.int .i64 0,.string ⟨#[49,48,49]⟩]⟩,.agg ⟨[.int .i64 4,.int .i64 3,.int .i64 0,.bool false,.string ⟨#[]⟩]⟩],.iface 175 (.string ⟨#[49,48,49]⟩)),([.agg ⟨[.int .i64 123,.string ⟨#[]⟩]⟩,.agg ⟨[.int .i64 1,.int .i64 3,.int .i64 1,.bool false,.string ⟨#[]⟩]⟩],.iface 174 (.agg ⟨[.int .i64 123,.int .i64 1,.int .i64 3,.int .i64 1,.bool false,.string ⟨#[]⟩]⟩)),([.agg ⟨[.int .i64 1234,.string ⟨#[]⟩]⟩,.agg ⟨[.int .i64 1,.int .i64 4,.int .i64 0,.bool false,.string ⟨#[]⟩]⟩],.iface 174 (.agg ⟨[.int .i64 1234,.int .i64 1,.int .i64 4,.int .i64 0,.bool false,.string ⟨#[]⟩]⟩)),([.agg ⟨[.int .i64 0,.string ⟨#[97,49,49]⟩]⟩,.agg ⟨[.int .i64 3,.int .i64 3,.int .i64 0,.bool false,.string ⟨#[]⟩]⟩],.iface 178 (.string ⟨#[97,49,49]⟩))]
theorem pk97:jan Tryz.prog 97 (memo m97):=jaz [] ok_A15 hmix fn97 jai (by kernel_rfl) (by kernel_rfl)
def A16:Env:=Env.nil
theorem ok_A16:jax Tryz.prog A16:=jao
theorem fn112:Fn1 Tryz.prog 112 Tryz.f112:= .m Tryz.func112
def m112:List (List Value×Value):=[([.agg ⟨[.int .i64 1,.int .i64 4,.int .i64 2,.bool false,.string ⟨#[]⟩]⟩],.int .i64 7),([.agg ⟨[.int .i64 1,.int .i64 3,.int .i64 1,.bool false,.string ⟨#[]⟩]⟩],.int .i64 6)]
theorem pk112:jan Tryz.prog 112 (memo m112):=jaz [] ok_A16 hmix fn112 jai (by kernel_rfl) (by kernel_rfl)
def A17:Env:=((Env.nil.add 30 (sp2 s30)).add 29 (memo m29)).add 112 (memo m112)
theorem ok_A17:jax Tryz.prog A17:=jaj (jaj (jaj jao ok30) pk29) pk112
theorem fn321:Fn1 Tryz.prog 321 Tryz.f321:= .m Tryz.func321
def m321:List (List Value×Value):=[([.agg ⟨[.int .i64 (-150),.int .i64 1,.int .i64 4,.int .i64 2,.bool false,.string ⟨#[]⟩]⟩],.string ⟨#[32,32,45,49,46,53,48]⟩)]
theorem pk321:jan Tryz.prog 321 (memo m321):=jaz [] ok_A17 hmix fn321 jai (by kernel_rfl) (by kernel_rfl)
def A18:Env:=Env.nil
theorem ok_A18:jax Tryz.prog A18:=jao
theorem fn322:Fn1 Tryz.prog 322 Tryz.f322:= .m Tryz.func322
def m322:List (List Value×Value):=[([.string ⟨#[49,48,49]⟩],.string ⟨#[49,48,49]⟩)]
theorem pk322:jan Tryz.prog 322 (memo m322):=jaz [] ok_A18 hmix fn322 jai (by kernel_rfl) (by kernel_rfl)
def A19:Env:=Env.nil
theorem ok_A19:jax Tryz.prog A19:=jao
theorem fn324:Fn1 Tryz.prog 324 Tryz.f324:= .m Tryz.func324
def m324:List (List Value×Value):=[([.string ⟨#[49,50,120]⟩],.string ⟨#[49,50,120]⟩),([.string ⟨#[97,49,49]⟩],.string ⟨#[97,49,49]⟩)]
theorem pk324:jan Tryz.prog 324 (memo m324):=jaz [] ok_A19 hmix fn324 jai (by kernel_rfl) (by kernel_rfl)
def A20:Env:=((((Env.nil.add 22 (memo m22)).add 97 (memo m97)).add 321 (memo m321)).add 322 (memo m322)).add 324 (memo m324)
theorem ok_A20:jax Tryz.prog A20:=jaj (jaj (jaj (jaj (jaj jao pk22) pk97) pk321) pk322) pk324
theorem fn32:Fn1 Tryz.prog 32 Tryz.f32:= .m Tryz.func32
def m32:List (List Value×Value):=[([.agg ⟨[.int .i64 (-150),.string ⟨#[]⟩]⟩,.agg ⟨[.int .i64 1,.int .i64 4,.int .i64 2,.bool false,.string ⟨#[]⟩]⟩],.tuple ⟨[.string ⟨#[32,32,45,49,46,53,48]⟩,.int .i64 0]⟩)]
theorem pk32:jan Tryz.prog 32 (memo m32):=jaz [] ok_A20 hmix fn32 jai (by kernel_rfl) (by kernel_rfl)
def A21:Env:=Env.nil
theorem ok_A21:jax Tryz.prog A21:=jao
theorem fn153:Fn1 Tryz.prog 153 Tryz.f153:= .m Tryz.func153
def A22:Env:=Env.nil
theorem ok_A22:jax Tryz.prog A22:=jao
theorem fn214:Fn1 Tryz.prog 214 Tryz.f214:= .m Tryz.func214
def A23:Env:=Env.nil
theorem ok_A23:jax Tryz.prog A23:=jao
theorem fn215:Fn1 Tryz.prog 215 Tryz.f215:= .m Tryz.func215
def A24:Env:=Env.nil
theorem ok_A24:jax Tryz.prog A24:=jao
theorem fn76:Fn1 Tryz.prog 76 Tryz.f76:= .m Tryz.func76
def A25:Env:=((((Env.nil.add 152 (sp1 Cx.s152)).add 213 (sp1 Cx.s213)).addG 153 (inlQ Tryz.prog A21 noL Tryz.f153)).addG 214 (inlQ Tryz.prog A22 noL Tryz.f214)).addG 215 (inlQ Tryz.prog A23 noL Tryz.f215)
theorem ok_A25:jax Tryz.prog A25:=jam (jam (jam (jaj (jaj jao (jde Cx.ok152)) (jde Cx.ok213)) (jas ok_A21 hmix fn153 jai)) (jas ok_A22 hmix fn214 jai)) (jas ok_A23 hmix fn215 jai)
theorem fn212:Fn1 Tryz.prog 212 Tryz.f212:= .m Tryz.func212
def A26:Env:=(((Env.nil.add 152 (sp1 Cx.s152)).add 213 (sp1 Cx.s213)).addG 214 (inlQ Tryz.prog A22 noL Tryz.f214)).addG 215 (inlQ Tryz.prog A23 noL Tryz.f215)
theorem ok_A26:jax Tryz.prog A26:=jam (jam (jaj (jaj jao (jde Cx.ok152)) (jde Cx.ok213)) (jas ok_A22 hmix fn214 jai)) (jas ok_A23 hmix fn215 jai)
theorem fn263:Fn1 Tryz.prog 263 Tryz.f263:= .m Tryz.func263
def A27:Env:=(Env.nil.add 152 (sp1 Cx.s152)).addG 215 (inlQ Tryz.prog A23 noL Tryz.f215)
theorem ok_A27:jax Tryz.prog A27:=jam (jaj jao (jde Cx.ok152)) (jas ok_A23 hmix fn215 jai)
theorem fn264:Fn1 Tryz.prog 264 Tryz.f264:= .m Tryz.func264
def A28:Env:=((((((((Env.nil.add 152 (sp1 Cx.s152)).add 321 (memo m321)).add 322 (memo m322)).add 324 (memo m324)).addG 153 (inlQ Tryz.prog A21 noL Tryz.f153)).addG 76 (inlQ Tryz.prog A24 noL Tryz.f76)).addG 212 (inlQ Tryz.prog A25 noL Tryz.f212)).addG 263 (inlQ Tryz.prog A26 noL Tryz.f263)).addG 264 (inlQ Tryz.prog A27 noL Tryz.f264)
theorem ok_A28:jax Tryz.prog A28:=jam (jam (jam (jam (jam (jaj (jaj (jaj (jaj jao (jde Cx.ok152)) pk321) pk322) pk324) (jas ok_A21 hmix fn153 jai)) (jas ok_A24 hmix fn76 jai)) (jas ok_A25 hmix fn212 jai)) (jas ok_A26 hmix fn263 jai)) (jas ok_A27 hmix fn264 jai)
theorem fn151:Fn1 Tryz.prog 151 Tryz.f151:= .m Tryz.func151
def A29:Env:=(((((((((Env.nil.add 55 (sp2 s55)).add 77 (memo m77)).add 321 (memo m321)).add 322 (memo m322)).add 324 (memo m324)).addG 76 (inlQ Tryz.prog A24 noL Tryz.f76)).addG 212 (inlQ Tryz.prog A25 noL Tryz.f212)).addG 263 (inlQ Tryz.prog A26 noL Tryz.f263)).addG 264 (inlQ Tryz.prog A27 noL Tryz.f264)).addG 151 (inlQ Tryz.prog A28 noL Tryz.f151)
theorem ok_A29:jax Tryz.prog A29:=jam (jam (jam (jam (jam (jaj (jaj (jaj (jaj (jaj jao ok55) pk77) pk321) pk322) pk324) (jas ok_A24 hmix fn76 jai)) (jas ok_A25 hmix fn212 jai)) (jas ok_A26 hmix fn263 jai)) (jas ok_A27 hmix fn264 jai)) (jas ok_A28 hmix fn151 jai)
theorem fn24:Fn1 Tryz.prog 24 Tryz.f24:= .m Tryz.func24
def m24:List (List Value×Value):=[([.string ⟨#[32,32,45,48,48,49,50,46,53,48,32]⟩],.tuple ⟨[.agg ⟨[.bool true,.string ⟨#[49,50,53]⟩,.int .i64 1]⟩,.bool true]⟩),([.string ⟨#[49,50,48,48]⟩],.tuple ⟨[.agg ⟨[.bool false,.string ⟨#[49,50]⟩,.int .i64 (-2)]⟩,.bool true]⟩),([.string ⟨#[49,69,49,50,51]⟩],.tuple ⟨[.agg ⟨[.bool false,.string ⟨#[]⟩,.int .i64 0]⟩,.bool false]⟩),([.string ⟨#[49,50,120]⟩],.tuple ⟨[.agg ⟨[.bool false,.string ⟨#[]⟩,.int .i64 0]⟩,.bool false]⟩)]
theorem pk24:jan Tryz.prog 24 (memo m24):=jaz [] ok_A29 hmix fn24 jai (by kernel_rfl) (by kernel_rfl)
def A30:Env:=(((((((((Env.nil.add 29 (memo m29)).add 77 (memo m77)).add 321 (memo m321)).add 322 (memo m322)).add 324 (memo m324)).addG 212 (inlQ Tryz.prog A25 noL Tryz.f212)).addG 263 (inlQ Tryz.prog A26 noL Tryz.f263)).addG 264 (inlQ Tryz.prog A27 noL Tryz.f264)).addG 151 (inlQ Tryz.prog A28 noL Tryz.f151)).add 24 (memo m24)
theorem ok_A30:jax Tryz.prog A30:=jaj (jam (jam (jam (jam (jaj (jaj (jaj (jaj (jaj jao pk29) pk77) pk321) pk322) pk324) (jas ok_A25 hmix fn212 jai)) (jas ok_A26 hmix fn263 jai)) (jas ok_A27 hmix fn264 jai)) (jas ok_A28 hmix fn151 jai)) pk24
theorem fn222:Fn1 Tryz.prog 222 Tryz.f222:= .m Tryz.func222
def m222:List (List Value×Value):=[([.iface 178 (.string ⟨#[49,50,120]⟩)],.tuple ⟨[.agg ⟨[.bool false,.string ⟨#[]⟩,.int .i64 0]⟩,.iface 119 (.agg ⟨[.string ⟨#[49,50,120]⟩]⟩)]⟩),([.iface 174 (.agg ⟨[.int .i64 123,.int .i64 1,.int .i64 3,.int .i64 1,.bool false,.string ⟨#[]⟩]⟩)],.tuple ⟨[.agg ⟨[.bool false,.string ⟨#[49,50,51]⟩,.int .i64 1]⟩,.nilIface]⟩),([.iface 174 (.agg ⟨[.int .i64 1234,.int .i64 1,.int .i64 4,.int .i64 0,.bool false,.string ⟨#[]⟩]⟩)],.tuple ⟨[.agg ⟨[.bool false,.string ⟨#[49,50,51,52]⟩,.int .i64 0]⟩,.nilIface]⟩)]
theorem pk222:jan Tryz.prog 222 (memo m222):=jaz [] ok_A30 hmix fn222 jai (by kernel_rfl) (by kernel_rfl)
def A31:Env:=(Env.nil.add 26 (memo m26)).add 222 (memo m222)
theorem ok_A31:jax Tryz.prog A31:=jaj (jaj jao pk26) pk222
theorem fn168:Fn1 Tryz.prog 168 Tryz.f168:= .m Tryz.func168
def m168:List (List Value×Value):=[([.iface 178 (.string ⟨#[49,50,120]⟩),.agg ⟨[.int .i64 1,.int .i64 3,.int .i64 0,.bool false,.string ⟨#[]⟩]⟩],.tuple ⟨[.agg ⟨[.int .i64 0,.string ⟨#[]⟩]⟩,.int .i64 0,.iface 119 (.agg ⟨[.string ⟨#[49,50,120]⟩]⟩)]⟩),([.iface 174 (.agg ⟨[.int .i64 123,.int .i64 1,.int .i64 3,.int .i64 1,.bool false,.string ⟨#[]⟩]⟩),.agg ⟨[.int .i64 1,.int .i64 5,.int .i64 2,.bool false,.string ⟨#[]⟩]⟩],.tuple ⟨[.agg ⟨[.int .i64 1230,.string ⟨#[]⟩]⟩,.int .i64 0,.nilIface]⟩),([.iface 174 (.agg ⟨[.int .i64 1234,.int .i64 1,.int .i64 4,.int .i64 0,.bool false,.string ⟨#[]⟩]⟩),.agg ⟨[.int .i64 1,.int .i64 3,.int .i64 0,.bool false,.string ⟨#[]⟩]⟩],.tuple ⟨[.agg ⟨[.int .i64 234,.string ⟨#[]⟩]⟩,.int .i64 1,.nilIface]⟩)]
theorem pk168:jan Tryz.prog 168 (memo m168):=jaz [] ok_A31 hmix fn168 jai (by kernel_rfl) (by kernel_rfl)
def A32:Env:=Env.nil
theorem ok_A32:jax Tryz.prog A32:=jao
theorem fn115:Fn1 Tryz.prog 115 Tryz.f115:= .m Tryz.func115
def m115:List (List Value×Value):=[([.agg ⟨[.int .i64 2,.int .i64 15,.int .i64 0,.bool false,.string ⟨#[]⟩]⟩],.int .i64 15),([.agg ⟨[.int .i64 1,.int .i64 3,.int .i64 0,.bool false,.string ⟨#[]⟩]⟩],.int .i64 10)]
theorem pk115:jan Tryz.prog 115 (memo m115):=jaz [] ok_A32 hmix fn115 jai (by kernel_rfl) (by kernel_rfl)
def A33:Env:=Env.nil
theorem ok_A33:jax Tryz.prog A33:=jao
theorem fn223:Fn1 Tryz.prog 223 Tryz.f223:= .m Tryz.func223
def m223:List (List Value×Value):=[([.int .i64 1,.int .i64 15],.string ⟨#[48,48,48,48,48,48,48,48,48,48,48,48,48,48,49]⟩)]
theorem pk223:jan Tryz.prog 223 (memo m223):=jaz [] ok_A33 hmix fn223 jai (by kernel_rfl) (by kernel_rfl)
def A34:Env:=Env.nil.add 30 (sp2 s30)
theorem ok_A34:jax Tryz.prog A34:=jaj jao ok30
theorem fn169:Fn1 Tryz.prog 169 Tryz.f169:= .m Tryz.func169
def m169:List (List Value×Value):=[([.string ⟨#[48,48,48,48,48,48,48,48,48,48,48,48,48,48,49]⟩,.int .i64 1,.string ⟨#[48]⟩],.string ⟨#[48]⟩),([.string ⟨#[49,48,49]⟩,.int .i64 5,.string ⟨#[32]⟩],.string ⟨#[49,48,49,32,32]⟩),([.string ⟨#[97,49,49]⟩,.int .i64 3,.string ⟨#[32]⟩],.string ⟨#[97,49,49]⟩)]
theorem pk169:jan Tryz.prog 169 (memo m169):=jaz [] ok_A34 hmix fn169 jai (by kernel_rfl) (by kernel_rfl)
def A35:Env:=(((((((((Env.nil.add 71 (memo m71)).add 321 (memo m321)).add 322 (memo m322)).add 324 (memo m324)).addG 212 (inlQ Tryz.prog A25 noL Tryz.f212)).addG 263 (inlQ Tryz.prog A26 noL Tryz.f263)).addG 264 (inlQ Tryz.prog A27 noL Tryz.f264)).addG 151 (inlQ Tryz.prog A28 noL Tryz.f151)).add 115 (memo m115)).add 223 (memo m223)
theorem ok_A35:jax Tryz.prog A35:=jaj (jaj (jam (jam (jam (jam (jaj (jaj (jaj (jaj jao pk71) pk321) pk322) pk324) (jas ok_A25 hmix fn212 jai)) (jas ok_A26 hmix fn263 jai)) (jas ok_A27 hmix fn264 jai)) (jas ok_A28 hmix fn151 jai)) pk115) pk223
theorem fn170:Fn1 Tryz.prog 170 Tryz.f170:= .m Tryz.func170
def m170:List (List Value×Value):=[([.iface 174 (.agg ⟨[.int .i64 1,.int .i64 2,.int .i64 15,.int .i64 0,.bool false,.string ⟨#[]⟩]⟩)],.tuple ⟨[.string ⟨#[48,48,48,48,48,48,48,48,48,48,48,48,48,48,49]⟩,.nilIface]⟩)]
theorem pk170:jan Tryz.prog 170 (memo m170):=jaz [] ok_A35 hmix fn170 jai (by kernel_rfl) (by kernel_rfl)
def A36:Env:=(((((((((((((Env.nil.add 61 (memo m61)).add 59 (memo m59)).add 171 (memo m171)).add 72 (memo m72)).add 321 (memo m321)).add 322 (memo m322)).add 324 (memo m324)).addG 212 (inlQ Tryz.prog A25 noL Tryz.f212)).addG 263 (inlQ Tryz.prog A26 noL Tryz.f263)).addG 264 (inlQ Tryz.prog A27 noL Tryz.f264)).addG 151 (inlQ Tryz.prog A28 noL Tryz.f151)).add 168 (memo m168)).add 169 (memo m169)).add 170 (memo m170)
theorem ok_A36:jax Tryz.prog A36:=jaj (jaj (jaj (jam (jam (jam (jam (jaj (jaj (jaj (jaj (jaj (jaj (jaj jao pk61) pk59) pk171) pk72) pk321) pk322) pk324) (jas ok_A25 hmix fn212 jai)) (jas ok_A26 hmix fn263 jai)) (jas ok_A27 hmix fn264 jai)) (jas ok_A28 hmix fn151 jai)) pk168) pk169) pk170
theorem fn99:Fn1 Tryz.prog 99 Tryz.f99:= .m Tryz.func99
def m99:List (List Value×Value):=[([.iface 178 (.string ⟨#[49,50,120]⟩),.agg ⟨[.int .i64 1,.int .i64 3,.int .i64 0,.bool false,.string ⟨#[]⟩]⟩],.tuple ⟨[.agg ⟨[.int .i64 0,.string ⟨#[]⟩]⟩,.int .i64 0,.iface 119 (.agg ⟨[.string ⟨#[49,50,120]⟩]⟩)]⟩),([.iface 174 (.agg ⟨[.int .i64 1,.int .i64 2,.int .i64 15,.int .i64 0,.bool false,.string ⟨#[]⟩]⟩),.agg ⟨[.int .i64 4,.int .i64 1,.int .i64 0,.bool false,.string ⟨#[]⟩]⟩],.tuple ⟨[.agg ⟨[.int .i64 0,.string ⟨#[48]⟩]⟩,.int .i64 0,.nilIface]⟩),([.iface 175 (.string ⟨#[49,48,49]⟩),.agg ⟨[.int .i64 3,.int .i64 5,.int .i64 0,.bool false,.string ⟨#[]⟩]⟩],.tuple ⟨[.agg ⟨[.int .i64 0,.string ⟨#[49,48,49,32,32]⟩]⟩,.int .i64 0,.nilIface]⟩),([.iface 174 (.agg ⟨[.int .i64 123,.int .i64 1,.int .i64 3,.int .i64 1,.bool false,.string ⟨#[]⟩]⟩),.agg ⟨[.int .i64 5,.int .i64 0,.int .i64 0,.bool false,.string ⟨#[90,90,57,86,46,57,57]⟩]⟩],.tuple ⟨[.agg ⟨[.int .i64 0,.string ⟨#[32,49,50,46,51,48]⟩]⟩,.int .i64 0,.nilIface]⟩),([.iface 174 (.agg ⟨[.int .i64 1234,.int .i64 1,.int .i64 4,.int .i64 0,.bool false,.string ⟨#[]⟩]⟩),.agg ⟨[.int .i64 5,.int .i64 0,.int .i64 0,.bool false,.string ⟨#[57,57,57]⟩]⟩],.tuple ⟨[.agg ⟨[.int .i64 0,.string ⟨#[50,51,52]⟩]⟩,.int .i64 1,.nilIface]⟩),([.iface 178 (.string ⟨#[97,49,49]⟩),.agg ⟨[.int .i64 5,.int .i64 0,.int .i64 0,.bool false,.string ⟨#[65,65,57]⟩]⟩],.tuple ⟨[.agg ⟨[.int .i64 0,.string ⟨#[]⟩]⟩,.int .i64 0,.iface 119 (.agg ⟨[.string ⟨#[97,49,49]⟩]⟩)]⟩)]
theorem pk99:jan Tryz.prog 99 (memo m99):=jaz [0,0,0,0,0,2] ok_A36 hmix fn99 jai (by kernel_rfl) (by kernel_rfl)
def A37:Env:=(Env.nil.add 30 (sp2 s30)).add 176 (memo m176)
theorem ok_A37:jax Tryz.prog A37:=jaj (jaj jao ok30) pk176
theorem fn101:Fn1 Tryz.prog 101 Tryz.f101:= .m Tryz.func101
def m101:List (List Value×Value):=[([.agg ⟨[.int .i64 1,.int .i64 3,.int .i64 0,.bool false,.string ⟨#[]⟩]⟩],.agg ⟨[.int .i64 0,.string ⟨#[]⟩]⟩),([.agg ⟨[.int .i64 5,.int .i64 0,.int .i64 0,.bool false,.string ⟨#[65,65,57]⟩]⟩],.agg ⟨[.int .i64 0,.string ⟨#[32,32,32]⟩]⟩)]
theorem pk101:jan Tryz.prog 101 (memo m101):=jaz [] ok_A37 hmix fn101 jai (by kernel_rfl) (by kernel_rfl)
def A38:Env:=(((((Env.nil.addG 100 h100).add 20 (memo m20)).add 22 (memo m22)).add 97 (memo m97)).add 99 (memo m99)).add 101 (memo m101)
theorem ok_A38:jax Tryz.prog A38:=jaj (jaj (jaj (jaj (jaj (jam jao genC) pk20) pk22) pk97) pk99) pk101
theorem fn34:Fn1 Tryz.prog 34 Tryz.f34:= .m Tryz.func34
def m34:List (List Value×Value):=[([.agg ⟨[.int .i64 0,.string ⟨#[49,50,120]⟩]⟩,.agg ⟨[.int .i64 3,.int .i64 3,.int .i64 0,.bool false,.string ⟨#[]⟩]⟩,.agg ⟨[.int .i64 1,.int .i64 3,.int .i64 0,.bool false,.string ⟨#[]⟩]⟩],.tuple ⟨[.agg ⟨[.int .i64 0,.string ⟨#[]⟩]⟩,.int .i64 4,.int .i64 0]⟩),([.agg ⟨[.int .i64 1,.string ⟨#[]⟩]⟩,.agg ⟨[.int .i64 2,.int .i64 15,.int .i64 0,.bool false,.string ⟨#[]⟩]⟩,.agg ⟨[.int .i64 4,.int .i64 1,.int .i64 0,.bool false,.string ⟨#[]⟩]⟩],.tuple ⟨[.agg ⟨[.int .i64 0,.string ⟨#[48]⟩]⟩,.int .i64 0,.int .i64 0]⟩),([.agg ⟨[.int .i64 0,.string ⟨#[49,48,49]⟩]⟩,.agg ⟨[.int .i64 4,.int .i64 3,.int .i64 0,.bool false,.string ⟨#[]⟩]⟩,.agg ⟨[.int .i64 3,.int .i64 5,.int .i64 0,.bool false,.string ⟨#[]⟩]⟩],.tuple ⟨[.agg ⟨[.int .i64 0,.string ⟨#[49,48,49,32,32]⟩]⟩,.int .i64 0,.int .i64 0]⟩),([.agg ⟨[.int .i64 123,.string ⟨#[]⟩]⟩,.agg ⟨[.int .i64 1,.int .i64 3,.int .i64 1,.bool false,.string ⟨#[]⟩]⟩,.agg ⟨[.int .i64 5,.int .i64 0,.int .i64 0,.bool false,.string ⟨#[90,90,57,86,46,57,57]⟩]⟩],.tuple ⟨[.agg ⟨[.int .i64 0,.string ⟨#[32,49,50,46,51,48]⟩]⟩,.int .i64 0,.int .i64 0]⟩),([.agg ⟨[.int .i64 1234,.string ⟨#[]⟩]⟩,.agg ⟨[.int .i64 1,.int .i64 4,.int .i64 0,.bool false,.string ⟨#[]⟩]⟩,.agg ⟨[.int .i64 5,.int .i64 0,.int .i64 0,.bool false,.string ⟨#[57,57,57]⟩]⟩],.tuple ⟨[.agg ⟨[.int .i64 0,.string ⟨#[50,51,52]⟩]⟩,.int .i64 1,.int .i64 0]⟩),([.agg ⟨[.int .i64 0,.string ⟨#[97,49,49]⟩]⟩,.agg ⟨[.int .i64 3,.int .i64 3,.int .i64 0,.bool false,.string ⟨#[]⟩]⟩,.agg ⟨[.int .i64 5,.int .i64 0,.int .i64 0,.bool false,.string ⟨#[65,65,57]⟩]⟩],.tuple ⟨[.agg ⟨[.int .i64 0,.string ⟨#[32,32,32]⟩]⟩,.int .i64 4,.int .i64 0]⟩)]
theorem pk34:jan Tryz.prog 34 (memo m34):=jaz [] ok_A38 hmix fn34 jai (by kernel_rfl) (by kernel_rfl)
def A39:Env:=Env.nil.add 34 (memo m34)
theorem ok_A39:jax Tryz.prog A39:=jaj jao pk34
theorem fn48:Fn1 Tryz.prog 48 Tryz.f48:= .m Tryz.func48
def m48:List (List Value×Value):=[([.agg ⟨[.int .i64 0,.string ⟨#[49,50,120]⟩]⟩,.agg ⟨[.int .i64 3,.int .i64 3,.int .i64 0,.bool false,.string ⟨#[]⟩]⟩,.agg ⟨[.int .i64 1,.int .i64 3,.int .i64 0,.bool false,.string ⟨#[]⟩]⟩,.agg ⟨[.int .i64 0,.string ⟨#[]⟩]⟩,.int .i64 4],.bool true),([.agg ⟨[.int .i64 1,.string ⟨#[]⟩]⟩,.agg ⟨[.int .i64 2,.int .i64 15,.int .i64 0,.bool false,.string ⟨#[]⟩]⟩,.agg ⟨[.int .i64 4,.int .i64 1,.int .i64 0,.bool false,.string ⟨#[]⟩]⟩,.agg ⟨[.int .i64 0,.string ⟨#[48]⟩]⟩,.int .i64 0],.bool true),([.agg ⟨[.int .i64 0,.string ⟨#[49,48,49]⟩]⟩,.agg ⟨[.int .i64 4,.int .i64 3,.int .i64 0,.bool false,.string ⟨#[]⟩]⟩,.agg ⟨[.int .i64 3,.int .i64 5,.int .i64 0,.bool false,.string ⟨#[]⟩]⟩,.agg ⟨[.int .i64 0,.string ⟨#[49,48,49,32,32]⟩]⟩,.int .i64 0],.bool true),([.agg ⟨[.int .i64 123,.string ⟨#[]⟩]⟩,.agg ⟨[.int .i64 1,.int .i64 3,.int .i64 1,.bool false,.string ⟨#[]⟩]⟩,.agg ⟨[.int .i64 5,.int .i64 0,.int .i64 0,.bool false,.string ⟨#[90,90,57,86,46,57,57]⟩]⟩,.agg ⟨[.int .i64 0,.string ⟨#[32,49,50,46,51,48]⟩]⟩,.int .i64 0],.bool true),([.agg ⟨[.int .i64 1234,.string ⟨#[]⟩]⟩,.agg ⟨[.int .i64 1,.int .i64 4,.int .i64 0,.bool false,.string ⟨#[]⟩]⟩,.agg ⟨[.int .i64 5,.int .i64 0,.int .i64 0,.bool false,.string ⟨#[57,57,57]⟩]⟩,.agg ⟨[.int .i64 0,.string ⟨#[50,51,52]⟩]⟩,.int .i64 1],.bool true),([.agg ⟨[.int .i64 0,.string ⟨#[97,49,49]⟩]⟩,.agg ⟨[.int .i64 3,.int .i64 3,.int .i64 0,.bool false,.string ⟨#[]⟩]⟩,.agg ⟨[.int .i64 5,.int .i64 0,.int .i64 0,.bool false,.string ⟨#[65,65,57]⟩]⟩,.agg ⟨[.int .i64 0,.string ⟨#[32,32,32]⟩]⟩,.int .i64 4],.bool true)]
theorem pk48:jan Tryz.prog 48 (memo m48):=jaz [] ok_A39 hmix fn48 jai (by kernel_rfl) (by kernel_rfl)
def A40:Env:=Env.nil.add 20 (memo m20)
theorem ok_A40:jax Tryz.prog A40:=jaj jao pk20
theorem fn108:Fn1 Tryz.prog 108 Tryz.f108:= .m Tryz.func108
def m108:List (List Value×Value):=[([.agg ⟨[.int .i64 4,.int .i64 3,.int .i64 0,.bool false,.string ⟨#[]⟩]⟩],.int .i64 0),([.agg ⟨[.int .i64 1,.int .i64 3,.int .i64 1,.bool false,.string ⟨#[]⟩]⟩],.int .i64 0),([.agg ⟨[.int .i64 1,.int .i64 3,.int .i64 0,.bool false,.string ⟨#[]⟩]⟩],.int .i64 0),([.agg ⟨[.int .i64 2,.int .i64 15,.int .i64 0,.bool false,.string ⟨#[]⟩]⟩],.int .i64 0)]
theorem pk108:jan Tryz.prog 108 (memo m108):=jaz [] ok_A40 hmix fn108 jai (by kernel_rfl) (by kernel_rfl)
def A41:Env:=(((Env.nil.add 61 (memo m61)).add 59 (memo m59)).add 85 (sp1 Cx.s85)).add 108 (memo m108)
theorem ok_A41:jax Tryz.prog A41:=jaj (jaj (jaj (jaj jao pk61) pk59) (jde Cx.ok85)) pk108
theorem fn38:Fn1 Tryz.prog 38 Tryz.f38:= .m Tryz.func38
def m38:List (List Value×Value):=[([.agg ⟨[.int .i64 4,.int .i64 3,.int .i64 0,.bool false,.string ⟨#[]⟩]⟩],.tuple ⟨[.agg ⟨[.int .i64 2,.int .i64 31,.int .i64 0,.bool false,.string ⟨#[]⟩]⟩,.int .i64 0]⟩),([.agg ⟨[.int .i64 1,.int .i64 3,.int .i64 1,.bool false,.string ⟨#[]⟩]⟩],.tuple ⟨[.agg ⟨[.int .i64 1,.int .i64 3,.int .i64 1,.bool false,.string ⟨#[]⟩]⟩,.int .i64 0]⟩),([.agg ⟨[.int .i64 2,.int .i64 15,.int .i64 0,.bool false,.string ⟨#[]⟩]⟩],.tuple ⟨[.agg ⟨[.int .i64 2,.int .i64 15,.int .i64 0,.bool false,.string ⟨#[]⟩]⟩,.int .i64 0]⟩)]
theorem pk38:jan Tryz.prog 38 (memo m38):=jaz [] ok_A41 hmix fn38 jai (by kernel_rfl) (by kernel_rfl)
def A42:Env:=((Env.nil.add 113 (memo m113)).add 112 (memo m112)).add 108 (memo m108)
theorem ok_A42:jax Tryz.prog A42:=jaj (jaj (jaj jao pk113) pk112) pk108
theorem fn40:Fn1 Tryz.prog 40 Tryz.f40:= .m Tryz.func40
def m40:List (List Value×Value):=[([.agg ⟨[.int .i64 1,.int .i64 3,.int .i64 1,.bool false,.string ⟨#[]⟩]⟩],.tuple ⟨[.agg ⟨[.int .i64 3,.int .i64 6,.int .i64 0,.bool false,.string ⟨#[]⟩]⟩,.int .i64 0]⟩)]
theorem pk40:jan Tryz.prog 40 (memo m40):=jaz [] ok_A42 hmix fn40 jai (by kernel_rfl) (by kernel_rfl)
def A43:Env:=(((Env.nil.add 61 (memo m61)).add 85 (sp1 Cx.s85)).add 115 (memo m115)).add 108 (memo m108)
theorem ok_A43:jax Tryz.prog A43:=jaj (jaj (jaj (jaj jao pk61) (jde Cx.ok85)) pk115) pk108
theorem fn42:Fn1 Tryz.prog 42 Tryz.f42:= .m Tryz.func42
def m42:List (List Value×Value):=[([.agg ⟨[.int .i64 1,.int .i64 3,.int .i64 0,.bool false,.string ⟨#[]⟩]⟩],.tuple ⟨[.agg ⟨[.int .i64 4,.int .i64 10,.int .i64 0,.bool false,.string ⟨#[]⟩]⟩,.int .i64 0]⟩)]
theorem pk42:jan Tryz.prog 42 (memo m42):=jaz [] ok_A43 hmix fn42 jai (by kernel_rfl) (by kernel_rfl)
def A44:Env:=Env.nil.add 66 (sp1 Cx.s66)
theorem ok_A44:jax Tryz.prog A44:=jaj jao (jde Cx.ok66)
theorem fn117:Fn1 Tryz.prog 117 Tryz.f117:= .m Tryz.func117
def m117:List (List Value×Value):=[([.agg ⟨[.int .i64 1,.int .i64 3,.int .i64 1,.bool false,.string ⟨#[]⟩]⟩],.tuple ⟨[.agg ⟨[.int .i64 2,.int .i64 11,.int .i64 0,.bool false,.string ⟨#[]⟩]⟩,.int .i64 0]⟩)]
theorem pk117:jan Tryz.prog 117 (memo m117):=jaz [] ok_A44 hmix fn117 jai (by kernel_rfl) (by kernel_rfl)
def A45:Env:=Env.nil
theorem ok_A45:jax Tryz.prog A45:=jao
theorem fn53:Fn1 Tryz.prog 53 Tryz.f53:= .m Tryz.func53
def m53:List (List Value×Value):=[([.int .i64 (-150)],.agg ⟨[.int .i64 (-150),.string ⟨#[]⟩]⟩),([.int .i64 0],.agg ⟨[.int .i64 0,.string ⟨#[]⟩]⟩),([.int .i64 1],.agg ⟨[.int .i64 1,.string ⟨#[]⟩]⟩),([.int .i64 123],.agg ⟨[.int .i64 123,.string ⟨#[]⟩]⟩),([.int .i64 1234],.agg ⟨[.int .i64 1234,.string ⟨#[]⟩]⟩),([.int .i64 234],.agg ⟨[.int .i64 234,.string ⟨#[]⟩]⟩)]
theorem pk53:jan Tryz.prog 53 (memo m53):=jaz [] ok_A45 hmix fn53 jai (by kernel_rfl) (by kernel_rfl)
def A46:Env:=Env.nil
theorem ok_A46:jax Tryz.prog A46:=jao
theorem fn65:Fn1 Tryz.prog 65 Tryz.f65:= .m Tryz.func65
def m65:List (List Value×Value):=[([.int .i64 3,.int .i64 1],.agg ⟨[.int .i64 1,.int .i64 3,.int .i64 1,.bool false,.string ⟨#[]⟩]⟩),([.int .i64 4,.int .i64 2],.agg ⟨[.int .i64 1,.int .i64 4,.int .i64 2,.bool false,.string ⟨#[]⟩]⟩),([.int .i64 3,.int .i64 0],.agg ⟨[.int .i64 1,.int .i64 3,.int .i64 0,.bool false,.string ⟨#[]⟩]⟩),([.int .i64 4,.int .i64 0],.agg ⟨[.int .i64 1,.int .i64 4,.int .i64 0,.bool false,.string ⟨#[]⟩]⟩)]
theorem pk65:jan Tryz.prog 65 (memo m65):=jaz [] ok_A46 hmix fn65 jai (by kernel_rfl) (by kernel_rfl)
def A47:Env:=Env.nil
theorem ok_A47:jax Tryz.prog A47:=jao
theorem fn50:Fn1 Tryz.prog 50 Tryz.f50:= .m Tryz.func50
def m50:List (List Value×Value):=[([.int .i64 15],.agg ⟨[.int .i64 2,.int .i64 15,.int .i64 0,.bool false,.string ⟨#[]⟩]⟩),([.int .i64 11],.agg ⟨[.int .i64 2,.int .i64 11,.int .i64 0,.bool false,.string ⟨#[]⟩]⟩),([.int .i64 31],.agg ⟨[.int .i64 2,.int .i64 31,.int .i64 0,.bool false,.string ⟨#[]⟩]⟩)]
theorem pk50:jan Tryz.prog 50 (memo m50):=jaz [] ok_A47 hmix fn50 jai (by kernel_rfl) (by kernel_rfl)
def A48:Env:=Env.nil
theorem ok_A48:jax Tryz.prog A48:=jao
theorem fn51:Fn1 Tryz.prog 51 Tryz.f51:= .m Tryz.func51
def m51:List (List Value×Value):=[([.int .i64 1],.agg ⟨[.int .i64 4,.int .i64 1,.int .i64 0,.bool false,.string ⟨#[]⟩]⟩),([.int .i64 3],.agg ⟨[.int .i64 4,.int .i64 3,.int .i64 0,.bool false,.string ⟨#[]⟩]⟩),([.int .i64 10],.agg ⟨[.int .i64 4,.int .i64 10,.int .i64 0,.bool false,.string ⟨#[]⟩]⟩),([.int .i64 64],.agg ⟨[.int .i64 4,.int .i64 64,.int .i64 0,.bool false,.string ⟨#[]⟩]⟩)]
theorem pk51:jan Tryz.prog 51 (memo m51):=jaz [] ok_A48 hmix fn51 jai (by kernel_rfl) (by kernel_rfl)
def A49:Env:=Env.nil
theorem ok_A49:jax Tryz.prog A49:=jao
theorem fn54:Fn1 Tryz.prog 54 Tryz.f54:= .m Tryz.func54
def m54:List (List Value×Value):=[([.int .i64 3],.agg ⟨[.int .i64 3,.int .i64 3,.int .i64 0,.bool false,.string ⟨#[]⟩]⟩),([.int .i64 5],.agg ⟨[.int .i64 3,.int .i64 5,.int .i64 0,.bool false,.string ⟨#[]⟩]⟩),([.int .i64 6],.agg ⟨[.int .i64 3,.int .i64 6,.int .i64 0,.bool false,.string ⟨#[]⟩]⟩),([.int .i64 256],.agg ⟨[.int .i64 3,.int .i64 256,.int .i64 0,.bool false,.string ⟨#[]⟩]⟩)]
theorem pk54:jan Tryz.prog 54 (memo m54):=jaz [] ok_A49 hmix fn54 jai (by kernel_rfl) (by kernel_rfl)
def A50:Env:=Env.nil
theorem ok_A50:jax Tryz.prog A50:=jao
theorem fn60:Fn1 Tryz.prog 60 Tryz.f60:= .m Tryz.func60
def m60:List (List Value×Value):=[([.string ⟨#[90,90,57,86,46,57,57]⟩],.agg ⟨[.int .i64 5,.int .i64 0,.int .i64 0,.bool false,.string ⟨#[90,90,57,86,46,57,57]⟩]⟩),([.string ⟨#[57,57,57]⟩],.agg ⟨[.int .i64 5,.int .i64 0,.int .i64 0,.bool false,.string ⟨#[57,57,57]⟩]⟩),([.string ⟨#[65,65,57]⟩],.agg ⟨[.int .i64 5,.int .i64 0,.int .i64 0,.bool false,.string ⟨#[65,65,57]⟩]⟩)]
theorem pk60:jan Tryz.prog 60 (memo m60):=jaz [] ok_A50 hmix fn60 jai (by kernel_rfl) (by kernel_rfl)
def A51:Env:=Env.nil
theorem ok_A51:jax Tryz.prog A51:=jao
theorem fn52:Fn1 Tryz.prog 52 Tryz.f52:= .m Tryz.func52
def m52:List (List Value×Value):=[([.string ⟨#[49,50,120]⟩],.agg ⟨[.int .i64 0,.string ⟨#[49,50,120]⟩]⟩),([.string ⟨#[48]⟩],.agg ⟨[.int .i64 0,.string ⟨#[48]⟩]⟩),([.string ⟨#[49,48,49]⟩],.agg ⟨[.int .i64 0,.string ⟨#[49,48,49]⟩]⟩),([.string ⟨#[49,48,49,32,32]⟩],.agg ⟨[.int .i64 0,.string ⟨#[49,48,49,32,32]⟩]⟩),([.string ⟨#[32,49,50,46,51,48]⟩],.agg ⟨[.int .i64 0,.string ⟨#[32,49,50,46,51,48]⟩]⟩),([.string ⟨#[50,51,52]⟩],.agg ⟨[.int .i64 0,.string ⟨#[50,51,52]⟩]⟩),([.string ⟨#[97,49,49]⟩],.agg ⟨[.int .i64 0,.string ⟨#[97,49,49]⟩]⟩),([.string ⟨#[32,32,32]⟩],.agg ⟨[.int .i64 0,.string ⟨#[32,32,32]⟩]⟩),([.string ⟨#[50]⟩],.agg ⟨[.int .i64 0,.string ⟨#[50]⟩]⟩)]
theorem pk52:jan Tryz.prog 52 (memo m52):=jaz [] ok_A51 hmix fn52 jai (by kernel_rfl) (by kernel_rfl)
def A52:Env:=(((((((((((((Env.nil.add 59 (memo m59)).add 85 (sp1 Cx.s85)).add 20 (memo m20)).add 321 (memo m321)).add 322 (memo m322)).add 324 (memo m324)).addG 212 (inlQ Tryz.prog A25 noL Tryz.f212)).addG 263 (inlQ Tryz.prog A26 noL Tryz.f263)).addG 264 (inlQ Tryz.prog A27 noL Tryz.f264)).addG 151 (inlQ Tryz.prog A28 noL Tryz.f151)).add 38 (memo m38)).add 40 (memo m40)).add 42 (memo m42)).add 117 (memo m117)
theorem ok_A52:jax Tryz.prog A52:=jaj (jaj (jaj (jaj (jam (jam (jam (jam (jaj (jaj (jaj (jaj (jaj (jaj jao pk59) (jde Cx.ok85)) pk20) pk321) pk322) pk324) (jas ok_A25 hmix fn212 jai)) (jas ok_A26 hmix fn263 jai)) (jas ok_A27 hmix fn264 jai)) (jas ok_A28 hmix fn151 jai)) pk38) pk40) pk42) pk117
theorem fn44:Fn1 Tryz.prog 44 Tryz.f44:= .m Tryz.func44
def A53:Env:=Env.nil
theorem ok_A53:jax Tryz.prog A53:=jao
theorem fn46:Fn1 Tryz.prog 46 Tryz.f46:= .m Tryz.func46
def L46:List Value:=[.int .i64 2,.int .i64 11,.int .i64 0,.bool false,.string ⟨#[]⟩,.int .i64 2,.int .i64 15,.int .i64 0,.bool false,.string ⟨#[]⟩]
def s46c:Ab.Spec:=fun args bs=>match args,bs with
 | [.slice (some ⟨_,0,some 1⟩) 2 _,.slice (some ⟨_,0,some 1⟩) 2 _],[some ⟨l1,_,_⟩,some ⟨l2,_,_⟩]=>match eqVL (l1.take 10) L46&&eqVL (l2.take 10) L46 with
  | true=>some (ja4 l1&&ja4 l2,.bool true)
  | false=>none
 | _,_=>none
def vwT(c d:List Value)(t u:TypeId):Lk:=fun k=>match k with | 0=>some ⟨c,t,false⟩ | 1=>some ⟨d,u,false⟩ | _=>none
theorem v46(r1 r2:List Value)(t u:TypeId)(c1 c2:Nat)(R:Value→Prop):ja1 Tryz.prog A53 noL Tryz.f46 [.slice (some ⟨0,0,some 1⟩) 2 c1,.slice (some ⟨1,0,some 1⟩) 2 c2] (vwT (L46++r1) (L46++r2) t u) 2 (fun v _ _=>R v)=R (B true):=by kernel_rfl
theorem pk46:jan Tryz.prog 46 s46c:=by
 refine pure_viewQ ok_A53 hmix fn46 jai fun args bs v hs=> ?_
 unfold s46c at hs;split at hs
 case h_2=>cases hs
 rename_i k1 c1 k2 c2 l1 t1 o1 l2 t2 o2;split at hs
 case h_2=>cases hs
 rename_i hq;simp only[Option.some.injEq,Prod.mk.injEq,jaf]at hs hq;obtain⟨⟨p1,p2⟩,rfl⟩:=hs;obtain⟨q1,q2⟩:=hq;have e1:l1=L46++l1.drop 10:=by rw[←jfc q1,List.take_append_drop]
 have e2:l2=L46++l2.drop 10:=by rw[←jfc q2,List.take_append_drop]
 refine⟨[.slice (some ⟨0,0,some 1⟩) 2 c1,.slice (some ⟨1,0,some 1⟩) 2 c2],2,rfl,rfl,jag,?_⟩
 have e:jit [some ⟨l1,t1,o1⟩,some ⟨l2,t2,o2⟩]=vwT (L46++l1.drop 10) (L46++l2.drop 10) t1 t2:=by
  funext k;rw[←e1,←e2]
  match k with
  | 0=>simp only[jit,view1,p1,vwT]
  | 1=>simp only[jit,view1,p2,vwT]
  | k+2=>rfl
 rw[DoesVQ,e,v46]
def A54:Env:=(((((((((((((((((Env.nil.add 20 (memo m20)).add 22 (memo m22)).add 26 (memo m26)).add 32 (memo m32)).add 24 (memo m24)).add 48 (memo m48)).add 38 (memo m38)).add 40 (memo m40)).add 42 (memo m42)).add 53 (memo m53)).add 65 (memo m65)).add 50 (memo m50)).add 51 (memo m51)).add 54 (memo m54)).add 60 (memo m60)).add 52 (memo m52)).addG 44 (inlQ Tryz.prog A52 noL Tryz.f44)).add 46 (s46c)
theorem ok_A54:jax Tryz.prog A54:=jaj (jam (jaj (jaj (jaj (jaj (jaj (jaj (jaj (jaj (jaj (jaj (jaj (jaj (jaj (jaj (jaj (jaj jao pk20) pk22) pk26) pk32) pk24) pk48) pk38) pk40) pk42) pk53) pk65) pk50) pk51) pk54) pk60) pk52) (jas ok_A52 hmix fn44 jai)) pk46
end Go.Cs
end
noncomputable section
set_option maxRecDepth 100000
namespace Go.Cs
open Go Go.Ab Go.Proofs Go.Px Go.Cx
def T31:List Value:=[.int .i64 1,.int .i64 3,.int .i64 1,.bool false,.string ⟨#[]⟩]
theorem fn18:Fn1 Tryz.prog 18 Tryz.f18:= .m Tryz.func18
theorem v18(R:Value→Prop):ja1 Tryz.prog A54 noL Tryz.f18 [] (fun _=>none) 0 (fun v _ _=>R v)=(∀a:Nat,∀b:List Value,qew b a 1 5→(bif qax T31 b a 5 1 then∀c:Nat,∀d:List Value,qew d c (1+1) 5→qgf (ja4 (L46++d) &&ja4 L46) (B true) R else False)):=by kernel_rfl
def s18:Bool×Value:=(true,.bool true)
theorem okC18:jan Tryz.prog 18 (sp0 s18):=by
 refine qure0 ok_A54 hmix fn18 jai fun _=> ?_
 rw[ja2,v18];delta qgf qew qax;intro cap tail h;simp only[jay,jaf]at h;obtain⟨⟨⟨_,h2⟩,h3⟩,h4⟩:=h;have e:(T31++tail).length=tail.length+1*5:=by rw[List.length_append];show 5+_=_;omega
 refine c_t (by rw[e,h2,h3,h4];rfl) fun cap2 tail2 h=> ?_
 simp only[jay,jaf]at h;obtain⟨⟨⟨h1,_⟩,_⟩,_⟩:=h;refine c_t ?_ rfl;have:ja4 (L46++tail2)=true:=by rw[ja8]at h1 ⊢;intro v hv;rcases List.mem_append.1 hv with hv | hv;exact ja8.1 (show ja4 L46=true from rfl) v hv;exact h1 v hv
 rw[this];rfl
theorem ok18: @jan tabs Tryz.prog 18 (sp0 s18):=pureT okC18
end Go.Cs
end
noncomputable section
set_option maxHeartbeats 3200000
namespace Go.Cx
open Go Go.Ab Go.Proofs Go.Shelf Go.Px Go.Cv
open Go.Fx (Ty Vl check jbd most base pw bnd Fit fits tv vv tup V0 T0 jbh jbl jbe jby str0)
instance tabsT:Tabs:=tabs
def sz63(t:Ty):Prop:=t.s.size≤9223372036854775807
instance (t:Ty):Decidable (sz63 t):=by unfold sz63;infer_instance
def M0:Env:=(Env.nil.add 66 (sp1 s66)).add 67 (sp1 Px.s33)
theorem ok_M0:jax Tryz.prog M0:=jaj (jaj jao ok66) Px.ok33
def s20f(t:Ty):Bool×Value:=(decide (sz63 t),I (chk4 t))
def qf7(a:Fx.Ty)(d:Prop)(c:Value)(b:Value→Prop):Prop:=bif qek a 1 then b c else bif qek a 2 then b c else d
def qd0(a d:Bool)(e:ByteArray)(b:Fx.Ty)(c:Int):Bool:= !a || !(Fx.Ty.k b==Fx.Ty.k b&& (Fx.Ty.p b==c&& (qhn b&& (Fx.Ty.v b==d&& (qbo (Fx.Ty.s b) e&&true)))))
def qc6(c:Bool)(a:Fx.Ty)(b:Int)(d:Value→Prop):Prop:=bif qfv (Fx.Ty.p a) 0 then qcf (!qa2 (Fx.Ty.p a) 0 b || true) (qd0 (qa2 (Fx.Ty.p a) 0 b) c qgh a (Fx.Ty.p a)) (qbk 5) (qbk 0) d else False
theorem v20f(t:Ty)(R:Value→Prop):ja1 Tryz.prog M0 noL Tryz.f20 [Enc.enc t] (fun _=>none) 0 (fun v _ _=>R v)=(qf7 t (bif qek t 3 then qc6 (Fx.Ty.v t) t 255 R∧qc6 (Fx.Ty.v t) t 255 R else bif qek t 4 then qc6 false t 64 R else bif qek t 5 then bif qei (Fx.Ty.s t)then qcf (!pE (bz (Fx.Ty.s t))==0 || true) (qd0 (pE (bz (Fx.Ty.s t))==0) false (Fx.Ty.s t) t 0) (qbk 5) (qbk 0) R else False else bif qek t 6 then bif qd0 true false qgh t 0 then R (qbk 5)else R (qbk 0)else R (qbk 5)) (I (Fx.check t)) R):=by kernel_rfl
theorem ok20f:jan Tryz.prog 20 (sp1 s20f):=by
 refine jb9 ok_M0 hmix fn20 jai jag fun t hc=> ?_
 rw[ja2,v20f];delta qek qf7 qbk qbo qhn qd0 qgh qcf qei qa2 qfv qc6;have hc:(sz63 t):=jab hc
 try dsimp only[s20f]
 have hs:t.s.size≤9223372036854775807:=hc;have nvk:∀k:Int,t.k=k→k≠1→k≠2→ ¬jbd t:=fun k hk h1 h2 hv=>by have:=hv.1;omega
 have ck:t.k=1∨t.k=2→check t=chk4 t:=fun hk=>by
  unfold Fx.check chk4;by_cases hv:jbd t
  ·rw[if_pos hv,if_pos hv]
  ·rw[if_neg hv,if_neg hv,if_neg (by omega),if_neg (by omega),if_neg (by omega),if_neg (by omega)]
 refine cond_intro (fun hk=> ?_) (fun h1=> ?_)
 ·rw[ck (.inl (by simpa using hk))]
 refine cond_intro (fun hk=> ?_) (fun h2=> ?_)
 ·rw[ck (.inr (by simpa using hk))]
 have h1:t.k≠1:=by simpa using h1
 have h2:t.k≠2:=by simpa using h2
 have nv:¬jbd t:=nvk _ rfl h1 h2;apply cond_intro<;>intro h3
 ·have h3:t.k=3:=by simpa using h3
  have key:∀X:Prop,(bif !(decide (t.p≥0) &&decide (t.p≤255)) || !(t.k==t.k&& (t.p==t.p&& (t.q==0&& (t.v==t.v&& (t.s.toList==(ByteArray.mk #[]).toList&&true)))))then Value.int IntKind.i64 5=I (chk4 t)else Value.int IntKind.i64 0=I (chk4 t)):=fun _=>by
   rw[jct];unfold chk4;rw[if_neg nv];apply cond_intro<;>intro h
   ·rw[if_neg,if_neg (by omega),if_neg (by omega),if_neg (by omega)];rintro ⟨-,q1,q2,q3,q4⟩;simp[q1,q2,q3,q4]at h
   ·rw[if_pos];simp at h;exact⟨h3,h.2.1,h.2.2,h.1.1,h.1.2⟩
  exact⟨c_t (Bool.or_true _) (c_t (Bool.or_true _) (key True)),c_t (Bool.or_true _) (c_t (Bool.or_true _) (key True))⟩
 have h3:t.k≠3:=by simpa using h3
 apply cond_intro<;>intro h4
 ·have h4:t.k=4:=by simpa using h4
  refine c_t (Bool.or_true _) (c_t (Bool.or_true _) ?_);rw[jct];unfold chk4;rw[if_neg nv,if_neg (by omega)];apply cond_intro<;>intro h
  ·rw[if_neg,if_neg (by omega),if_neg (by omega)];rintro ⟨-,q1,q2,q3,q4,q5⟩;simp[q1,q2,q3,q4,q5]at h
  ·rw[if_pos];simp at h;exact⟨h4,h.2.1,h.2.2.2,h.2.2.1,h.1.1,h.1.2⟩
 have h4:t.k≠4:=by simpa using h4
 apply cond_intro<;>intro h5
 ·have h5:t.k=5:=by simpa using h5
  refine c_t (jaa hs) (c_t (Bool.or_true _) ?_);unfold chk4;rw[if_neg nv,if_neg (by omega),if_neg (by omega)];apply cond_intro<;>intro h
  ·rw[if_neg,if_neg (by omega)];rintro ⟨-,q1,q2,q3,q4⟩;simp[q1,q2,q3,q4]at h
  ·rw[if_pos];simp at h;exact⟨h5,h.2.1,h.2.2.1,h.2.2.2,h.1⟩
 have h5:t.k≠5:=by simpa using h5
 apply cond_intro<;>intro h6
 ·have h6:t.k=6:=by simpa using h6
  rw[jct];unfold chk4;rw[if_neg nv,if_neg (by omega),if_neg (by omega),if_neg (by omega)];apply cond_intro<;>intro h
  ·rw[if_neg];rintro ⟨-,q1,q2,q3,q4⟩;simp[q1,q2,q3,q4]at h
  ·rw[if_pos];simp at h;exact⟨h6,h.2.1,h.2.2.2,h.1,h.2.2.1⟩
 have h6:t.k≠6:=by simpa using h6
 unfold chk4;rw[if_neg nv,if_neg (by omega),if_neg (by omega),if_neg (by omega),if_neg (by omega)]
instance tabsT1:Tabs:=tabs
def Q0:Env:=(((Env.nil.add 20 (sp1 s20f)).add 70 (sp2 s70)).add 71 (sp1 s71)).add 72 (sp2 Px.s24)
theorem ok_Q0:jax Tryz.prog Q0:=jaj (jaj (jaj (jaj jao ok20f) ok70) ok71) Px.ok24
def s22f(v:Vl)(t:Ty):Bool×Value:=(decide (t.s.size≤9223372036854775807∧v.s.size≤9223372036854775807),I (fit4 v t))
theorem v22f(v:Vl)(t:Ty)(R:Value→Prop):ja1 Tryz.prog Q0 noL Tryz.f22 [Enc.enc v,Enc.enc t] (fun _=>none) 0 (fun v _ _=>R v)=(bif decide (sz63 t)then bif chk4 t !=0 then R (I (chk4 t))else qf7 t (qcz (qei (Fx.Vl.s v)) t v (bif !Fx.Vl.n v==0 then R (qbk 6)else R (qbk 0)) R) (I (Fx.fits v t)) R else False):=by kernel_rfl
theorem ok22f:jan Tryz.prog 22 (sp2 s22f):=by
 refine jc5 ok_Q0 hmix fn22 jai jag fun v t hc=> ?_
 rw[ja2,v22f];delta qek qf7 qcf qbk qd2 qa2 qfv qbo qgh qb8 qg2 qg7 qfu qcz qei;have hc:(t.s.size≤9223372036854775807∧v.s.size≤9223372036854775807):=jab hc
 try dsimp only[s22f]
 rw[jct];unfold fit4 is4;refine c_t (jaa hc.1) ?_
 have hk:chk4 t=0→(t.k=1∨t.k=2∨t.k=3∨t.k=4∨t.k=5∨t.k=6)∧((t.k=1∨t.k=2)→jbd t):=fun h=>by
  unfold chk4 at h;have hv:jbd t→t.k=1∨t.k=2:=fun h=>h.1
  grind
 apply cond_intro<;>intro h
 ·rw[if_pos (by simpa using h)]
 have h0:chk4 t=0:=by simpa using h
 rw[if_neg (fun z=>z h0)];obtain⟨hk,hval⟩:=hk h0;have hf:jbd t→Fx.fits v t=if Fit v t then 0 else 6:=fun h=>if_pos h
 simp only[Bool.or_true,Bool.and_true,Bool.cond_self,jaa hc,jaa hc.2]
 repeat' apply cond_intro<;>intro h
 all_goals first | (exfalso;simp at h;done) | (congr 1;grind) | (exfalso;grind)
instance tabsT2:Tabs:=tabs
theorem ex_ck3(t:Ty):∃x:Int,x=chk4 t:=⟨_,rfl⟩
def ckT(t:Ty):Int:=Classical.choose (ex_ck3 t)
theorem jka(t:Ty):ckT t=chk4 t:=Classical.choose_spec (ex_ck3 t)
theorem ex_ft3(v:Vl)(t:Ty):∃x:Int,x=fit4 v t:=⟨_,rfl⟩
def ftT(v:Vl)(t:Ty):Int:=Classical.choose (ex_ft3 v t)
theorem jim(v:Vl)(t:Ty):ftT v t=fit4 v t:=Classical.choose_spec (ex_ft3 v t)
def z20(t:Ty):Bool×Value:=(decide (t.s.size≤9223372036854775807),I (ckT t))
def z22(v:Vl)(t:Ty):Bool×Value:=(decide (t.s.size≤9223372036854775807∧v.s.size≤9223372036854775807),I (ftT v t))
def z19(t:Ty):Bool×Value:=(true,B (decide ((t.s.size:Int)≤200)))
def Q2:Env:=(((((Env.nil.add 18 (sp0 Cs.s18)).add 19 (sp1 z19)).add 20 (sp1 z20)).add 21 (sp1 z20)).add 22 (sp2 z22)).add 23 (sp2 z22)
theorem fn19s:Fn1 Tryz.prog 19 Tryz.f19:= .m Tryz.func19
theorem v19s(t:Ty)(R:Value→Prop):ja1 Tryz.prog Env.nil noL Tryz.f19 [Enc.enc t] (fun _=>none) 0 (fun v _ _=>R v)=R (B (decide ((t.s.size:Int)≤200))):=by kernel_rfl
theorem ok19s:jan Tryz.prog 19 (sp1 z19):=by
 refine jb9 jao hmix fn19s jai jag fun t hc=> ?_
 rw[ja2,v19s];rfl
theorem z20_eq:z20=s20f:=by funext t;simp only[z20,s20f,jka];rfl
theorem z20_eq2:z20=s21:=by funext t;simp only[z20,s21,jka]
theorem z22_eq:z22=s22f:=by funext v t;simp only[z22,s22f,jim]
theorem z22_eq2:z22=s23:=by funext v t;simp only[z22,s23,jim]
def s3(t:Ty)(v:Vl):Bool×Value:=(decide (t.s.size≤9223372036854775807∧v.s.size≤9223372036854775807),B true)
theorem v3(t:Ty)(v:Vl)(R:Value→Prop):ja1 Tryz.prog Q2 noL Tryz.f3 [Enc.enc t,Enc.enc v] (fun _=>none) 0 (fun v _ _=>R v)=(bif !decide ((t.s.size:Int)≤200)then R (B true)else bif decide (t.s.size≤9223372036854775807) && (decide (t.s.size≤9223372036854775807) &&bif ckT t==ckT t then decide (t.s.size≤9223372036854775807∧v.s.size≤9223372036854775807) && (decide (t.s.size≤9223372036854775807∧v.s.size≤9223372036854775807) &&true)else true)then R (B (ckT t==ckT t&&ftT v t==ftT v t))else False):=by kernel_rfl
def isR(s:ByteArray)(c:Int)(l:List Int):Prop:=bz s=List.replicate (s.size-l.length) c++l∧l.length≤s.size
instance (s:ByteArray)(c:Int)(l:List Int):Decidable (isR s c l):=by unfold isR;infer_instance
structure Sh where
 s:ByteArray
 p:ByteArray
instance:Enc Sh where
 enc x:= .agg ⟨[.string x.s,.string x.p]⟩
 dec | .agg ⟨[.string s,.string p]⟩=>some ⟨s,p⟩ | _=>none
 dec_some:=by
  intro v a h;split at h
  ·cases h;rfl
  ·cases h
 plain_enc _:=rfl
instance tabsT5:Tabs:=tabs
instance tabsU6:Tabs:=tabs
def jcq(v:Vl)(t:Ty):Fu:=if t.k=1∨t.k=2 then .w v.n t else if t.k=4 then .b v.s else if t.k=5∧pN (bz t.s)=true then .p v.s t.s else .c v.s
open Classical in
theorem cuK_ex:∃d:Bool→Fu→Ty→Bool,∀b f t,d b f t=true↔cuA f t∧(cuV f t).2.2.2.isNone=b:=⟨fun b f t=>decide (cuA f t∧(cuV f t).2.2.2.isNone=b),fun b f t=>by simp⟩
def cuK:Bool→Fu→Ty→Bool:=Classical.choose cuK_ex
theorem jid{b:Bool}{f:Fu}{t:Ty}:cuK b f t=true↔cuA f t∧(cuV f t).2.2.2.isNone=b:=Classical.choose_spec cuK_ex b f t
theorem cuO_ex:∃d:Fu→Ty→Int×ByteArray×Int×ByteArray,∀f t,d f t=((cuV f t).1,(cuV f t).2.1,(cuV f t).2.2.1,(cuV f t).2.2.2.getD ⟨#[]⟩):=⟨_,fun _ _=>rfl⟩
def cuO:Fu→Ty→Int×ByteArray×Int×ByteArray:=Classical.choose cuO_ex
theorem cuO_eq(f:Fu)(t:Ty):cuO f t=((cuV f t).1,(cuV f t).2.1,(cuV f t).2.2.1,(cuV f t).2.2.2.getD ⟨#[]⟩):=Classical.choose_spec cuO_ex f t
def s97w(v:Vl)(t:Ty):Bool×Value:=(decide (t.k=1∨t.k=2),.iface 174 (.agg ⟨[.int .i64 v.n,.int .i64 t.k,.int .i64 t.p,.int .i64 t.q,.bool t.v,.string t.s]⟩))
def s97b(v:Vl)(t:Ty):Bool×Value:=(decide (t.k=4),.iface 175 (.string v.s))
def s97p(v:Vl)(t:Ty):Bool×Value:=(decide (t.k=5∧pN (bz t.s)=true∧t.s.size≤9223372036854775807),.iface 177 (.agg ⟨[.string v.s,.string t.s]⟩))
def s97c(v:Vl)(t:Ty):Bool×Value:=(decide (¬(t.k=1∨t.k=2)∧t.k≠4∧(t.k=5→ ¬pN (bz t.s)=true)∧t.s.size≤9223372036854775807),.iface 178 (.string v.s))
def s99y:Ab.Spec:=fun args _=>match args with
 | [a,.agg ⟨[.int .i64 k,.int .i64 p,.int .i64 q,.bool w,.string u]⟩]=>match decU a with
  | some f=>some (cuK true f ⟨k,p,q,w,u⟩,tp3 (cuO f ⟨k,p,q,w,u⟩).1 (cuO f ⟨k,p,q,w,u⟩).2.1 (cuO f ⟨k,p,q,w,u⟩).2.2.1 .nilIface)
  | none=>none
 | _=>none
def s99n:Ab.Spec:=fun args _=>match args with
 | [a,.agg ⟨[.int .i64 k,.int .i64 p,.int .i64 q,.bool w,.string u]⟩]=>match decU a with
  | some f=>some (cuK false f ⟨k,p,q,w,u⟩,tp3 (cuO f ⟨k,p,q,w,u⟩).1 (cuO f ⟨k,p,q,w,u⟩).2.1 (cuO f ⟨k,p,q,w,u⟩).2.2.1 (er (cuO f ⟨k,p,q,w,u⟩).2.2.2))
  | none=>none
 | _=>none
def zrV(t:Ty):ByteArray:=if t.k=4 then szO (List.replicate t.p.toNat 48)else if t.k=5 then sz (zeS (bz t.s))else⟨#[]⟩
theorem zrO_ex:∃d:Ty→ByteArray,d=zrV:=⟨_,rfl⟩
def zrO:Ty→ByteArray:=Classical.choose zrO_ex
theorem zrO_eq:zrO=zrV:=Classical.choose_spec zrO_ex
def s101u(t:Ty):Bool×Value:=(decide (t.s.size≤9223372036854775807∧(t.k=4→0≤t.p∧t.p≤1000)),.agg ⟨[I 0,S (zrO t)]⟩)
def Uz:Env:=K9p.add 176 (sp1 Px.s54)
def Uv:Env:=(((Env.nil.add 22 (sp2 z22)).add 20 (sp1 z20)).add 101 (sp1 s101u)).addG 100 h100
def Uy(s97:Vl→Ty→Bool×Value):Env:=(Uv.add 97 (sp2 s97)).add 99 s99y
def Un(s97:Vl→Ty→Bool×Value):Env:=(Uv.add 97 (sp2 s97)).add 99 s99n
def v97:Env:=Env.nil.add 59 (sp1 Px.s31)
theorem u97(v:Vl)(t:Ty)(R:Value→Prop):ja1 Tryz.prog v97 noL Tryz.f97 [Enc.enc v,Enc.enc t] (fun _=>none) 0 (fun v _ _=>R v)=(qf7 t (bif qek t 4 then R (s97b v t).snd else bif qek t 5 then qcf (qei (Fx.Ty.s t)) (pN (bz (Fx.Ty.s t))) (s97p v t).snd (s97c v t).snd R else R (s97c v t).snd) (s97w v t).snd R):=by kernel_rfl
theorem u101(t:Ty)(R:Value→Prop):ja1 Tryz.prog Uz noL Tryz.f101 [Enc.enc t] (fun _=>none) 0 (fun v _ _=>R v)=(bif qek t 4 then bif qb7 qd6 (Fx.Ty.p t) 1000 1000 then∀a:ByteArray,szO (repZ (bz qd6) (Fx.Ty.p t).toNat)=a→R (.agg ⟨[Px.I 0,S a]⟩)else False else bif qek t 5 then qgf (qei (Fx.Ty.s t)) (.agg ⟨[Px.I 0,S (sz (zeS (bz (Fx.Ty.s t))))]⟩) R else R (.agg ⟨[Px.I 0,S qgh]⟩)):=by kernel_rfl
def hd34(R:Value→Prop)(v:Vl)(f t:Ty)(c:Bool)(X:Prop):Prop:=
 bif decide (ByteArray.size f.s≤9223372036854775807∧ByteArray.size v.s≤9223372036854775807)then bif ftT v f !=0 then R (tp3 0 ⟨#[]⟩ 0 (I (ftT v f)))else
 bif decide (ByteArray.size t.s≤9223372036854775807)then bif ckT t !=0 then R (tp3 0 ⟨#[]⟩ 0 (I (ckT t)))else
 bif f.k==6 || true then bif f.k==6 || t.k==6 then bif f.k !=t.k then R (tp3 0 ⟨#[]⟩ 0 (I 5))else R (tp3 v.n v.s 0 (I 0))else bif c then X else False else False else False else False
def tl34(R:Value→Prop)(g:Fu)(t:Ty):Prop:=bif cuK true g t then R (tp3 (cuO g t).1 (cuO g t).2.1 (cuO g t).2.2.1 (I 0))else False
def tn34(R:Value→Prop)(g:Fu)(t:Ty):Prop:=bif cuK false g t then bif decide (t.s.size≤9223372036854775807∧(t.k=4→0≤t.p∧t.p≤1000))then R (tp3 0 (zrO t) 4 (I 0))else False else False
theorem u34yw(v:Vl)(f t:Ty)(R:Value→Prop):ja1 Tryz.prog (Uy s97w) noL Tryz.f34 [Enc.enc v,Enc.enc f,Enc.enc t] (fun _=>none) 0 (fun v _ _=>R v)=hd34 R v f t (s97w v f).1 (tl34 R (.w v.n f) t):=by kernel_rfl
theorem u34yb(v:Vl)(f t:Ty)(R:Value→Prop):ja1 Tryz.prog (Uy s97b) noL Tryz.f34 [Enc.enc v,Enc.enc f,Enc.enc t] (fun _=>none) 0 (fun v _ _=>R v)=hd34 R v f t (s97b v f).1 (tl34 R (.b v.s) t):=by kernel_rfl
theorem u34yp(v:Vl)(f t:Ty)(R:Value→Prop):ja1 Tryz.prog (Uy s97p) noL Tryz.f34 [Enc.enc v,Enc.enc f,Enc.enc t] (fun _=>none) 0 (fun v _ _=>R v)=hd34 R v f t (s97p v f).1 (tl34 R (.p v.s f.s) t):=by kernel_rfl
theorem u34yc(v:Vl)(f t:Ty)(R:Value→Prop):ja1 Tryz.prog (Uy s97c) noL Tryz.f34 [Enc.enc v,Enc.enc f,Enc.enc t] (fun _=>none) 0 (fun v _ _=>R v)=hd34 R v f t (s97c v f).1 (tl34 R (.c v.s) t):=by kernel_rfl
theorem u34nw(v:Vl)(f t:Ty)(R:Value→Prop):ja1 Tryz.prog (Un s97w) noL Tryz.f34 [Enc.enc v,Enc.enc f,Enc.enc t] (fun _=>none) 0 (fun v _ _=>R v)=hd34 R v f t (s97w v f).1 (tn34 R (.w v.n f) t):=by kernel_rfl
theorem u34nb(v:Vl)(f t:Ty)(R:Value→Prop):ja1 Tryz.prog (Un s97b) noL Tryz.f34 [Enc.enc v,Enc.enc f,Enc.enc t] (fun _=>none) 0 (fun v _ _=>R v)=hd34 R v f t (s97b v f).1 (tn34 R (.b v.s) t):=by kernel_rfl
theorem u34np(v:Vl)(f t:Ty)(R:Value→Prop):ja1 Tryz.prog (Un s97p) noL Tryz.f34 [Enc.enc v,Enc.enc f,Enc.enc t] (fun _=>none) 0 (fun v _ _=>R v)=hd34 R v f t (s97p v f).1 (tn34 R (.p v.s f.s) t):=by kernel_rfl
theorem u34nc(v:Vl)(f t:Ty)(R:Value→Prop):ja1 Tryz.prog (Un s97c) noL Tryz.f34 [Enc.enc v,Enc.enc f,Enc.enc t] (fun _=>none) 0 (fun v _ _=>R v)=hd34 R v f t (s97c v f).1 (tn34 R (.c v.s) t):=by kernel_rfl
theorem ok_v97:jax Tryz.prog v97:=jaj jao Px.ok31
theorem ok_Uz:jax Tryz.prog Uz:=jaj ok_K9p Px.ok54
theorem ok97w:jan Tryz.prog 97 (sp2 s97w):=by
 refine jc5 ok_v97 hmix fn97 jai jag fun v t hc=> ?_
 have hc:t.k=1∨t.k=2:=jab hc;rw[ja2,u97];delta qek qf7 qcf qei;exact cond_intro (fun _=>rfl) fun h1=>cond_intro (fun _=>rfl) fun h2=>by simp at h1 h2;omega
theorem ok97b:jan Tryz.prog 97 (sp2 s97b):=by
 refine jc5 ok_v97 hmix fn97 jai jag fun v t hc=> ?_
 have hc:t.k=4:=jab hc;rw[ja2,u97];delta qek qf7 qcf qei;rw[hc];rfl
theorem ok97p:jan Tryz.prog 97 (sp2 s97p):=by
 refine jc5 ok_v97 hmix fn97 jai jag fun v t hc=> ?_
 have hc:t.k=5∧pN (bz t.s)=true∧t.s.size≤9223372036854775807:=jab hc;rw[ja2,u97];delta qek qf7 qcf qei;rw[hc.1,hc.2.1];refine cond_intro (fun h=>absurd h (by decide)) fun _=>cond_intro (fun h=>absurd h (by decide)) fun _=>cond_intro (fun h=>absurd h (by decide)) fun _=>c_t rfl (c_t (jaa hc.2.2) rfl)
theorem ok97c:jan Tryz.prog 97 (sp2 s97c):=by
 refine jc5 ok_v97 hmix fn97 jai jag fun v t hc=> ?_
 have hc:¬(t.k=1∨t.k=2)∧t.k≠4∧(t.k=5→ ¬pN (bz t.s)=true)∧t.s.size≤9223372036854775807:=jab hc;rw[ja2,u97];delta qek qf7 qcf qei;refine cond_intro (fun h=> ?_) fun h1=>cond_intro (fun h=> ?_) fun h2=>cond_intro (fun h=> ?_) fun h4=>cond_intro (fun h=> ?_) fun h5=>rfl
 ·exact absurd (.inl (by simpa using h)) hc.1
 ·exact absurd (.inr (by simpa using h)) hc.1
 ·exact absurd (by simpa using h) hc.2.1
 ·refine c_t (jaa hc.2.2.2) ?_;have:=hc.2.2.1 (by simpa using h);exact cond_intro (fun h=>absurd h this) fun _=>rfl
theorem s99_y{args:List Value}{bs:List (Option Blk)}{v:Value}(h:s99y args bs=some (true,v)):s99u args bs=some (true,v):=by
 unfold s99y at h;unfold s99u;split at h
 case h_2=>cases h
 split at h
 case h_2=>cases h
 rename_i f hf
 try simp only[hf]
 simp only[Option.some.injEq,Prod.mk.injEq]at h;obtain⟨h1,rfl⟩:=h;obtain⟨h2,h3⟩:=jid.1 h1;rw[jk1.2 h2,cuO_eq];refine congrArg some (congrArg (Prod.mk true) ?_);show tp3 _ _ _ _=tp3 _ _ _ _;cases e:(cuV f ⟨_,_,_,_,_⟩).2.2.2 with
 | none=>rfl
 | some _=>rw[e]at h3;cases h3
theorem s99_n{args:List Value}{bs:List (Option Blk)}{v:Value}(h:s99n args bs=some (true,v)):s99u args bs=some (true,v):=by
 unfold s99n at h;unfold s99u;split at h
 case h_2=>cases h
 split at h
 case h_2=>cases h
 rename_i f hf
 try simp only[hf]
 simp only[Option.some.injEq,Prod.mk.injEq]at h;obtain⟨h1,rfl⟩:=h;obtain⟨h2,h3⟩:=jid.1 h1;rw[jk1.2 h2,cuO_eq];refine congrArg some (congrArg (Prod.mk true) ?_);show tp3 _ _ _ _=tp3 _ _ _ _;cases e:(cuV f ⟨_,_,_,_,_⟩).2.2.2 with
 | none=>rw[e]at h3;cases h3
 | some _=>rfl
theorem jgo{ι:Type}{P:Program}{f:FuncId}{s:Ab.Spec}{T:ι→Ab.Spec}(i0:ι)(hT:∀i,jan P f (T i))(h:∀args bs v,s args bs=some (true,v)→ ∃i,T i args bs=some (true,v)):jan P f s:=
 ⟨(hT i0).1, fun args v N w0 m ι w hrel hs hv => by
  obtain⟨i,hi⟩:=h _ _ _ hs;exact(hT i).2 args v N w0 m ι w hrel hi hv⟩
theorem ok99y:jan Tryz.prog 99 s99y:=jgo () (fun _=>ok99u) fun _ _ _ h=>⟨(),s99_y h⟩
theorem ok99n:jan Tryz.prog 99 s99n:=jgo () (fun _=>ok99u) fun _ _ _ h=>⟨(),s99_n h⟩
theorem ok101u:jan Tryz.prog 101 (sp1 s101u):=by
 refine jb9 ok_Uz hmix fn101 jai jag fun t hc=> ?_
 have hc:t.s.size≤9223372036854775807∧(t.k=4→0≤t.p∧t.p≤1000):=jab hc;rw[ja2,u101];delta qgh qgf qei qek qd6 qb7;dsimp only[s101u];rw[zrO_eq];unfold zrV;refine cond_intro (fun h4=> ?_) fun h4=>cond_intro (fun h5=> ?_) fun h5=> ?_
 ·have h4:t.k=4:=by simpa using h4
  refine c_t (jaa ⟨(hc.2 h4).1,(hc.2 h4).2,by decide⟩) fun s' e=> ?_
  rw[←e,show bz (ByteArray.mk #[48])=[48]from rfl,jhq,if_pos h4]
 ·have h5:t.k=5:=by simpa using h5
  rw[if_neg (by omega),if_pos h5];exact c_t (jaa hc.1) rfl
 ·have h4:t.k≠4:=by simpa using h4
  have h5:t.k≠5:=by simpa using h5
  rw[if_neg h4,if_neg h5]
theorem ok_Uv:jax Tryz.prog Uv:=jam (jaj (jaj (jaj jao (z22_eq▸ok22f)) (z20_eq▸ok20f)) ok101u) gen100
def toV(v:Vl)(f t:Ty):Int×ByteArray×Int×Int:=
 if fit4 v f≠0 then(0,⟨#[]⟩,0,fit4 v f)else if chk4 t≠0 then(0,⟨#[]⟩,0,chk4 t)
 else if f.k=6∨t.k=6 then(if f.k≠t.k then(0,⟨#[]⟩,0,5)else(v.n,v.s,0,0))
 else if(cuV (jcq v f) t).2.2.2=none then((cuV (jcq v f) t).1,(cuV (jcq v f) t).2.1,(cuV (jcq v f) t).2.2.1,0)else(0,zrV t,4,0)
def toC(v:Vl)(f t:Ty):Prop:=t.s.size≤9223372036854775807∧f.s.size≤9223372036854775807∧v.s.size≤9223372036854775807
instance (v:Vl)(f t:Ty):Decidable (toC v f t):=by unfold toC;infer_instance
abbrev toR(v:Vl)(f t:Ty):Value:=tp3 (toV v f t).1 (toV v f t).2.1 (toV v f t).2.2.1 (I (toV v f t).2.2.2)
theorem hd_ok{v:Vl}{f t:Ty}{c:Bool}{X:Prop}(h:toC v f t)(hX:fit4 v f=0→chk4 t=0→f.k≠6→t.k≠6→c=true∧X):hd34 (fun x=>x=toR v f t) v f t c X:=by
 obtain⟨h1,h2,h3⟩:=h;unfold hd34;rw[jim,jka];refine c_t (jaa ⟨h2,h3⟩) (cond_intro (fun e=> ?_) (fun e=>c_t (jaa h1) (cond_intro (fun e'=> ?_) (fun e'=>c_t (Bool.or_true _) (cond_intro (fun e6=>cond_intro (fun g=> ?_) (fun g=> ?_)) (fun e6=> ?_))))))
 ·have e:fit4 v f≠0:=by simpa using e
  unfold toR toV;rw[if_pos e]
 ·have e:¬fit4 v f≠0:=by simpa using e
  have e':chk4 t≠0:=by simpa using e'
  unfold toR toV;rw[if_neg e,if_pos e']
 ·have e:¬fit4 v f≠0:=by simpa using e
  have e':¬chk4 t≠0:=by simpa using e'
  unfold toR toV;rw[if_neg e,if_neg e',if_pos (by simpa using e6),if_pos (by simpa using g)]
 ·have e:¬fit4 v f≠0:=by simpa using e
  have e':¬chk4 t≠0:=by simpa using e'
  unfold toR toV;rw[if_neg e,if_neg e',if_pos (by simpa using e6),if_neg (by simpa using g)]
 ·have e6:f.k≠6∧t.k≠6:=by simpa using e6
  obtain⟨a,b⟩:=hX (by simpa using e) (by simpa using e') e6.1 e6.2;exact c_t a b
def earl(v:Vl)(f t:Ty):Prop:=fit4 v f≠0∨chk4 t≠0∨f.k=6∨t.k=6
instance (v:Vl)(f t:Ty):Decidable (earl v f t):=by unfold earl;infer_instance
def s34i(c:Vl→Ty→Bool×Value)(b:Bool)(v:Vl)(f t:Ty):Bool×Value:=(decide (toC v f t) && (decide (earl v f t) || (c v f).1&&cuK b (jcq v f) t),toR v f t)
theorem i_c{c:Vl→Ty→Bool×Value}{b:Bool}{v:Vl}{f t:Ty}(h:(s34i c b v f t).1=true):toC v f t∧(fit4 v f=0→chk4 t=0→f.k≠6→t.k≠6→(c v f).1=true∧cuK b (jcq v f) t=true):=by
 have h:(decide (toC v f t) && (decide (earl v f t) || (c v f).1&&cuK b (jcq v f) t))=true:=h;rw[jaf,Bool.or_eq_true,jaf]at h;refine⟨jab h.1,fun h1 h2 h3 h4=>h.2.resolve_left fun e=> ?_⟩;rcases jab e with e | e | e | e
 ·exact e h1
 ·exact e h2
 ·exact h3 e
 ·exact h4 e
theorem tl_y{v:Vl}{f t:Ty}{g:Fu}(hg:jcq v f=g)(h1:fit4 v f=0)(h2:chk4 t=0)(h3:f.k≠6)(h4:t.k≠6)(hk:cuK true (jcq v f) t=true):tl34 (fun x=>x=toR v f t) g t:=by
 subst hg;refine c_t hk ?_;have hn:(cuV (jcq v f) t).2.2.2=none:=by simpa using(jid.1 hk).2
 rw[cuO_eq];unfold toR toV;rw[if_neg (by simp[h1]),if_neg (by simp[h2]),if_neg (by simp[h3,h4]),if_pos hn]
theorem tl_n{v:Vl}{f t:Ty}{g:Fu}(hs:t.s.size≤9223372036854775807)(hg:jcq v f=g)(h1:fit4 v f=0)(h2:chk4 t=0)(h3:f.k≠6)(h4:t.k≠6)(hk:cuK false (jcq v f) t=true):tn34 (fun x=>x=toR v f t) g t:=by
 subst hg;refine c_t hk (c_t (jaa ⟨hs,fun q=>p1000 h2 (.inr q)⟩) ?_)
 have hn:¬(cuV (jcq v f) t).2.2.2=none:=by
  have:=(jid.1 hk).2;intro e;rw[e]at this;cases this
 rw[zrO_eq];unfold toR toV;rw[if_neg (by simp[h1]),if_neg (by simp[h2]),if_neg (by simp[h3,h4]),if_neg hn]
theorem fm_w{v:Vl}{f:Ty}(h:(s97w v f).1=true):jcq v f= .w v.n f:=if_pos (jab h)
theorem fm_b{v:Vl}{f:Ty}(h:(s97b v f).1=true):jcq v f= .b v.s:=by
 have h:f.k=4:=jab h;unfold jcq;rw[if_neg (by omega),if_pos h]
theorem fm_p{v:Vl}{f:Ty}(h:(s97p v f).1=true):jcq v f= .p v.s f.s:=by
 have h:f.k=5∧pN (bz f.s)=true∧f.s.size≤9223372036854775807:=jab h;unfold jcq;rw[if_neg (by omega),if_neg (by omega),if_pos ⟨h.1,h.2.1⟩]
theorem fm_c{v:Vl}{f:Ty}(h:(s97c v f).1=true):jcq v f= .c v.s:=by
 have h:¬(f.k=1∨f.k=2)∧f.k≠4∧(f.k=5→ ¬pN (bz f.s)=true)∧f.s.size≤9223372036854775807:=jab h;unfold jcq;rw[if_neg h.1,if_neg h.2.1,if_neg fun q=>h.2.2.1 q.1 q.2]
theorem ok_Uy{c:Vl→Ty→Bool×Value}(h:jan Tryz.prog 97 (sp2 c)):jax Tryz.prog (Uy c):=jaj (jaj ok_Uv h) ok99y
theorem ok_Un{c:Vl→Ty→Bool×Value}(h:jan Tryz.prog 97 (sp2 c)):jax Tryz.prog (Un c):=jaj (jaj ok_Uv h) ok99n
theorem jk5{c:Vl→Ty→Bool×Value}{g:Vl→Ty→Fu}(h:jan Tryz.prog 97 (sp2 c))(hg:∀v f,(c v f).1=true→jcq v f=g v f)
  (hu:∀(v:Vl)(f t:Ty)(R:Value→Prop),ja1 Tryz.prog (Uy c) noL Tryz.f34 [Enc.enc v,Enc.enc f,Enc.enc t] (fun _=>none) 0 (fun v _ _=>R v)=hd34 R v f t (c v f).1 (tl34 R (g v f) t)):jan Tryz.prog 34 (sp3 (s34i c true)):=by
 refine jg6 (ok_Uy h) hmix fn34 jai jag fun v f t hc=> ?_
 obtain⟨h1,h2⟩:=i_c hc;rw[ja2,hu];exact hd_ok h1 fun a b d e=>⟨(h2 a b d e).1,tl_y (hg v f (h2 a b d e).1) a b d e (h2 a b d e).2⟩
theorem jld{c:Vl→Ty→Bool×Value}{g:Vl→Ty→Fu}(h:jan Tryz.prog 97 (sp2 c))(hg:∀v f,(c v f).1=true→jcq v f=g v f)
  (hu:∀(v:Vl)(f t:Ty)(R:Value→Prop),ja1 Tryz.prog (Un c) noL Tryz.f34 [Enc.enc v,Enc.enc f,Enc.enc t] (fun _=>none) 0 (fun v _ _=>R v)=hd34 R v f t (c v f).1 (tn34 R (g v f) t)):jan Tryz.prog 34 (sp3 (s34i c false)):=by
 refine jg6 (ok_Un h) hmix fn34 jai jag fun v f t hc=> ?_
 obtain⟨h1,h2⟩:=i_c hc;rw[ja2,hu];exact hd_ok h1 fun a b d e=>⟨(h2 a b d e).1,tl_n h1.1 (hg v f (h2 a b d e).1) a b d e (h2 a b d e).2⟩
def cF:Fin 4→Vl→Ty→Bool×Value
 | 0=>s97w
 | 1=>s97b
 | 2=>s97p
 | 3=>s97c
theorem ok34y:∀i,jan Tryz.prog 34 (sp3 (s34i (cF i) true))
 | 0=>jk5 ok97w (fun _ _=>fm_w) u34yw
 | 1=>jk5 ok97b (fun _ _=>fm_b) u34yb
 | 2=>jk5 ok97p (fun _ _=>fm_p) u34yp
 | 3=>jk5 ok97c (fun _ _=>fm_c) u34yc
theorem ok34n:∀i,jan Tryz.prog 34 (sp3 (s34i (cF i) false))
 | 0=>jld ok97w (fun _ _=>fm_w) u34nw
 | 1=>jld ok97b (fun _ _=>fm_b) u34nb
 | 2=>jld ok97p (fun _ _=>fm_p) u34np
 | 3=>jld ok97c (fun _ _=>fm_c) u34nc
def s34u(v:Vl)(f t:Ty):Bool×Value:=(decide (toC v f t),toR v f t)
theorem cuF_of{v:Vl}{f:Ty}(hf:f.s.size≤9223372036854775807)(hv:v.s.size≤9223372036854775807)(h:fit4 v f=0):cuF (jcq v f):=by
 unfold fit4 at h;split at h
 ·rename_i q;exact absurd h q
 rename_i c1;split at h
 case isFalse=>cases h
 rename_i i1;have c1:chk4 f=0:=by simpa using c1
 unfold is4 at i1;unfold jcq;by_cases k12:f.k=1∨f.k=2
 ·rw[if_pos k12]at i1 ⊢
  have hV:jbd f:=by
   unfold chk4 at c1;split at c1
   ·assumption
   ·rw[if_neg (by omega),if_neg (by omega),if_neg (by omega),if_neg (by omega)]at c1;cases c1
  have hb:=Fx.bnd_range hV;have i1:Fx.fits v f=0:=by simpa using i1
  unfold Fx.fits at i1;rw[if_pos hV]at i1;split at i1
  ·rename_i hF;obtain⟨-,g1,g2⟩:=hF;exact⟨hV,by omega,by omega⟩
  ·cases i1
 ·rw[if_neg k12]at i1 ⊢;by_cases k4:f.k=4
  ·rw[if_pos k4];rw[if_neg (by omega),if_pos k4]at i1;simp only[jaf,jae]at i1;have:=p1000 c1 (.inr k4)
   have h64:f.p≤64:=by
    unfold chk4 at c1;rw[if_neg (fun q=>k12 q.1),if_neg (by omega)]at c1;split at c1
    ·rename_i q;exact q.2.2.2.2.2
    ·rw[if_neg (by omega),if_neg (by omega)]at c1;cases c1
   exact⟨i1.2,by omega⟩
  ·rw[if_neg k4];split
   ·rename_i q;exact⟨q.2,hv,hf⟩
   ·exact hv
theorem ok34u:jan Tryz.prog 34 (sp3 s34u):=by
 refine jgo (T:=fun i:Fin 4×Bool=>sp3 (s34i (cF i.1) i.2)) (0,true) (fun i=> ?_) fun args bs r hs=> ?_
 ·obtain⟨i,b⟩:=i;cases b
  ·exact ok34n i
  ·exact ok34y i
 ·unfold sp3 at hs;split at hs
  case h_2=>cases hs
  split at hs
  case h_2=>cases hs
  rename_i v f t hv hf ht;simp only[s34u,Option.some.injEq,Prod.mk.injEq]at hs;obtain⟨hc,rfl⟩:=hs;have hC:=jab hc
  have key:∃i:Fin 4×Bool,(decide (earl v f t) || (cF i.1 v f).1&&cuK i.2 (jcq v f) t)=true:=by
   by_cases he:earl v f t
   ·exact⟨(0,true),by rw[jaa he];rfl⟩
   have h1:fit4 v f=0:=Classical.not_not.1 fun q=>he (.inl q)
   have h2:chk4 t=0:=Classical.not_not.1 fun q=>he (.inr (.inl q))
   have h4:t.k≠6:=fun q=>he (.inr (.inr (.inr q)))
   have hk:cuK (cuV (jcq v f) t).2.2.2.isNone (jcq v f) t=true:=jid.2 ⟨⟨cuF_of hC.2.1 hC.2.2 h1,h2,h4,hC.1⟩,rfl⟩
   have hi:∃i,(cF i v f).1=true:=by
    by_cases k12:f.k=1∨f.k=2
    ·exact⟨0,jaa k12⟩
    by_cases k4:f.k=4
    ·exact⟨1,jaa k4⟩
    by_cases k5:f.k=5∧pN (bz f.s)=true
    ·exact⟨2,jaa ⟨k5.1,k5.2,hC.2.1⟩⟩
    ·exact⟨3,jaa ⟨k12,k4,fun q w=>k5 ⟨q,w⟩,hC.2.1⟩⟩
   obtain⟨i,hi⟩:=hi;exact⟨(i,_),by rw[hi,hk];simp⟩
  obtain⟨i,hi⟩:=key;refine⟨i,?_⟩;unfold sp3;simp only[hv,hf,ht];refine congrArg some (Prod.ext ?_ rfl);show(decide (toC v f t) &&_)=true;rw[hc,hi];rfl
instance tabsU9:Tabs:=tabs
def Y0:Env:=Env.nil
theorem ok_Y0:jax Tryz.prog Y0:=jao
def s96(v:Vl):Bool×Value:=(true,B (decide ((v.s.size:Int)>2000)))
theorem fn96:Fn1 Tryz.prog 96 Tryz.f96:= .m Tryz.func96
theorem v96(v:Vl)(R:Value→Prop):ja1 Tryz.prog Y0 noL Tryz.f96 [Enc.enc v] (fun _=>none) 0 (fun v _ _=>R v)=(R (B (decide ((v.s.size:Int)>2000)))):=by kernel_rfl
theorem ok96:jan Tryz.prog 96 (sp1 s96):=by
 refine jb9 ok_Y0 hmix fn96 jai jag fun v hc=> ?_
 rw[ja2,v96]
 try dsimp only[s96]
def Y1:Env:=Env.nil.add 96 (sp1 s96)
theorem ok_Y1:jax Tryz.prog Y1:=jaj jao ok96
def Y1_165:Env:=Env.nil.addG 165 (inlQ Tryz.prog Y1 noL Tryz.f165)
theorem fn165:Fn1 Tryz.prog 165 Tryz.f165:= .m Tryz.func165
theorem ok_Y1_165:jax Tryz.prog Y1_165:=jam jao (jas ok_Y1 hmix fn165 jai)
def Y1_95:Env:=(Env.nil.add 96 (sp1 s96)).addG 95 (inlQ Tryz.prog Y1_165 noL Tryz.f95)
theorem fn95:Fn1 Tryz.prog 95 Tryz.f95:= .m Tryz.func95
theorem ok_Y1_95:jax Tryz.prog Y1_95:=jam (jaj jao ok96) (jas ok_Y1_165 hmix fn95 jai)
def Y1_31:Env:=((Env.nil.add 19 (sp1 z19)).add 23 (sp2 z22)).addG 31 (inlQ Tryz.prog Y1_95 noL Tryz.f31)
theorem fn31:Fn1 Tryz.prog 31 Tryz.f31:= .m Tryz.func31
theorem ok_Y1_31:jax Tryz.prog Y1_31:=jam (jaj (jaj jao ok19s) (z22_eq2▸ok23)) (jas ok_Y1_95 hmix fn31 jai)
def s47(v:Vl)(t:Ty):Bool×Value:=(decide (t.s.size≤9223372036854775807∧v.s.size≤9223372036854775807),B (decide (t.s.size≤200∧v.s.size≤2000) &&ftT v t==0))
theorem fn47:Fn1 Tryz.prog 47 Tryz.f47:= .m Tryz.func47
theorem v47(v:Vl)(t:Ty)(R:Value→Prop):ja1 Tryz.prog Y1_31 noL Tryz.f47 [Enc.enc v,Enc.enc t] (fun _=>none) 0 (fun v _ _=>R v)=(bif decide (qg2 (Fx.Ty.s t)≤200)then bif qfu 0 (natO 1)then bif decide (qg2 (Fx.Vl.s v)>2000)then qgr R else bif qfu 1 (natO 1)then False else qdt (Fx.Vl.s v) (Fx.Ty.s t) (ftT v t) R else qdt (Fx.Vl.s v) (Fx.Ty.s t) (ftT v t) R else qgr R):=by kernel_rfl
theorem ok47:jan Tryz.prog 47 (sp2 s47):=by
 refine jc5 ok_Y1_31 hmix fn47 jai jag fun v t hc=> ?_
 rw[ja2,v47];delta qgr qb8 qdt qfu qg2;have hc:(t.s.size≤9223372036854775807∧v.s.size≤9223372036854775807):=jab hc
 try dsimp only[s47]
 have n1:∀k:Nat,decide ((k:Int)<natO 1)=decide (k<1):=fun k=>by rw[jb4,decide_eq_decide];omega
 have a0:decide ((0:Int)<natO 1)=true:=by rw[jb4];decide
 have a1:decide ((1:Int)<natO 1)=false:=by rw[jb4];decide
 rw[a0,a1];apply cond_intro<;>intro h
 ·have h:=jab h;refine c_t rfl (cond_intro (fun q=> ?_) (fun q=> ?_))
  ·have q:=jab q;rw[jad (fun z=>by omega)];rfl
  ·have q:=jac q;refine c_f rfl (c_t (jaa hc) ?_);rw[jaa (show t.s.size≤200∧v.s.size≤2000 by omega)];rfl
 ·have h:=jac h;rw[jad (fun z=>by omega)];rfl
theorem ex_to(v:Vl)(f t:Ty):∃x:Int×ByteArray×Int×Int,x=toV v f t:=⟨_,rfl⟩
def toH(v:Vl)(f t:Ty):Int×ByteArray×Int×Int:=Classical.choose (ex_to v f t)
theorem toH_eq(v:Vl)(f t:Ty):toH v f t=toV v f t:=Classical.choose_spec (ex_to v f t)
def s34h(v:Vl)(f t:Ty):Bool×Value:=(decide (toC v f t),tp3 (toH v f t).1 (toH v f t).2.1 (toH v f t).2.2.1 (I (toH v f t).2.2.2))
theorem s34h_eq:s34h=s34u:=by funext v f t;unfold s34h s34u;rw[toH_eq]
theorem tk_c(b:Int):∀(l:List Int)(x k:Int),(tkGo b l x k).2=k∨(tkGo b l x k).2=1
 | [],_,_=> .inl rfl
 | d::r,x,k=>by
  unfold tkGo;split
  ·exact .inr ((tk_c b r _ 1).elim id id)
  ·exact tk_c b r _ k
theorem tkV_c(g:Bool)(l:List Int)(c:Int)(t:Ty):(tkV g l c t).2.1=0∨(tkV g l c t).2.1=1:=by
 unfold tkV;split
 ·exact .inl rfl
 split
 ·exact .inl rfl
 ·exact tk_c _ _ _ _
theorem fill_self(l:List Int)(c:Int):jfw l l.length c=l:=by
 unfold jfw;rw[List.take_of_length_le (Nat.le_refl _),Nat.sub_self];simp
theorem fill_isB{l:List Int}(hl:IsB l){q:Nat}{c:Int}(hc:0≤c∧c<256):IsB (jfw l q c):=(hl.take _).append fun x hx=>by rw[List.eq_of_mem_replicate hx];omega
theorem bz_fi{s:ByteArray}{n c:Int}(hc:0≤c∧c<256):bz (fiU s n c)=jfw (bz s) n.toNat c:=jdd (fill_isB (jd0 s) hc)
instance tabsU10:Tabs:=tabs
def QA:Env:=Env.nil.add 34 (sp3 s34h)
theorem ok_QA:jax Tryz.prog QA:=jaj jao (s34h_eq▸ok34u)
def s48(v:Vl)(f:Ty)(t:Ty)(w:Vl)(c:Int):Bool×Value:=(decide (toC v f t),B (decide ((toH v f t).1=w.n∧bz (toH v f t).2.1=bz w.s∧(toH v f t).2.2.1=c∧(toH v f t).2.2.2=0)))
theorem fn48:Fn1 Tryz.prog 48 Tryz.f48:= .m Tryz.func48
def qet(b c:Fx.Ty)(a:Fx.Vl):Prod Int Int:=(toH a b c).snd.snd
theorem v48(v:Vl)(f:Ty)(t:Ty)(w:Vl)(c:Int)(R:Value→Prop):ja1 Tryz.prog QA noL Tryz.f48 [Enc.enc v,Enc.enc f,Enc.enc t,Enc.enc w,Enc.enc c] (fun _=>none) 0 (fun v _ _=>R v)=(bif decide (toC v f t)then qfo ((qet f t v).snd==0) ((toH v f t).fst==Fx.Vl.n w&& (qbo (toH v f t).snd.fst (Fx.Vl.s w) &&true) || true) (B ((qet f t v).snd==0&& ((toH v f t).fst==Fx.Vl.n w&& (qbo (toH v f t).snd.fst (Fx.Vl.s w) &&true) && (qet f t v).fst==c))) R else False):=by kernel_rfl
theorem ok48:jan Tryz.prog 48 (sp5 s48):=by
 refine qure5 ok_QA hmix fn48 jai jag fun v f t w c hc=> ?_
 rw[ja2,v48];delta qfo qet qbo;have hc:(toC v f t):=jab hc
 try dsimp only[s48]
 refine c_t (jaa hc) ?_;simp only[Bool.or_true,beq_iff_eq,Bool.and_true,jch];refine c_t (by cases((toH v f t).2.2.2==0) <;>rfl) ?_;congr 1;rw[Bool.eq_iff_iff];simp only[jaf,jae,beq_iff_eq];constructor
 ·rintro ⟨h1,⟨h2,h3⟩,h4⟩;exact⟨h2,h3,h4,h1⟩
 ·rintro ⟨h2,h3,h4,h1⟩;exact⟨h1,⟨h2,h3⟩,h4⟩
def QB:Env:=(((((Env.nil.add 18 (sp0 Cs.s18)).add 19 (sp1 z19)).add 21 (sp1 z20)).add 34 (sp3 s34h)).add 47 (sp2 s47)).add 48 (sp5 s48)
theorem ok_QB:jax Tryz.prog QB:=jaj (jaj (jaj (jaj (jaj (jaj jao Cs.ok18) ok19s) (z20_eq2▸ok21)) (s34h_eq▸ok34u)) ok47) ok48
theorem fn9:Fn1 Tryz.prog 9 Tryz.f9:= .m Tryz.func9
def qgq(a:ByteArray)(b:Fx.Ty)(c:Fx.Vl):Bool:=qb8 a (Fx.Ty.s b).size 200 2000&&ftT c b==0
def qcs(c d e g h:Bool)(b:Fx.Ty)(a:Fx.Vl)(i j:Prop)(f:Value→Prop):Prop:=bif qb8 (Fx.Vl.s a) (Fx.Ty.s b).size 9223372036854775807 9223372036854775807&& (!qgq (Fx.Vl.s a) b a || (!c || d))then bif !qgq (Fx.Vl.s a) b a || (!c || e)then f (B true)else qf8 g h i j else False
def qf5(b c:Fx.Ty)(a:Fx.Vl):Fx.Vl:=Fx.Vl.mk (toH a b c).fst (toH a b c).snd.fst
def qbv(e:ByteArray)(b c:Fx.Ty)(a:Fx.Vl)(d:Int):Bool:=decide ((toH a b c).fst=d∧bz (toH a b c).snd.fst=bz e∧(qet b c a).fst=0∧(qet b c a).snd=0)
theorem v9t(v:Vl)(f:Ty)(t:Ty)(R:Value→Prop):(ja1 Tryz.prog QB noL Tryz.f9 [Enc.enc v,Enc.enc f,Enc.enc t] (fun _=>none) 0 (fun v _ _=>R v))=(qcs (decide (qg2 (Fx.Ty.s t)≤200)) (qei (Fx.Ty.s t) &&true) (ckT t !=0) (decide (toC v f f)) (!qbv (Fx.Vl.s v) f f v (Fx.Vl.n v)) f v (qgr R) (bif decide (toC v f t)then bif !qek f 6==qek t 6 then R (B ((qet f t v).snd==5))else qfo ((qet f t v).snd==0) (qb8 (toH v f t).snd.fst (Fx.Ty.s t).size 9223372036854775807 9223372036854775807&&qg7 (qgq (toH v f t).snd.fst t (qf5 f t v)) ((qet f t v).fst==0 || ((qet f t v).fst==4 || true)) true) (B ((qet f t v).snd==0&& (qgq (toH v f t).snd.fst t (qf5 f t v) && ((qet f t v).fst==0 || ((qet f t v).fst==4 || (qet f t v).fst==1))))) R else False) R):=by kernel_rfl
theorem cuN_c{f:Fu}{C:Num→Cu}(h:∀x,(C x).2.2.1=0∨(C x).2.2.1=1):(cuN f C).2.2.1=0∨(cuN f C).2.2.1=1:=by
 unfold cuN;split
 ·exact h _
 ·exact .inl rfl
theorem cu_c(f:Fu)(t:Ty):(cuV f t).2.2.1=0∨(cuV f t).2.2.1=1:=by
 unfold cuV;split
 ·exact cuN_c fun x=>tkV_c _ _ _ _
 split
 ·exact .inl rfl
 split
 ·exact .inl rfl
 split
 ·refine cuN_c fun x=> ?_
  show(if _=true then _ else(1:Int))=0∨(if _=true then _ else(1:Int))=1;split
  ·exact tkV_c _ _ _ _
  ·exact .inr rfl
 split
 ·exact .inl rfl
 ·exact .inl rfl
theorem to_c(v:Vl)(f t:Ty):(toV v f t).2.2.1=0∨(toV v f t).2.2.1=4∨(toV v f t).2.2.1=1:=by
 unfold toV;split
 ·exact .inl rfl
 split
 ·exact .inl rfl
 split
 ·split
  ·exact .inl rfl
  ·exact .inl rfl
 split
 ·rcases cu_c (jcq v f) t with h | h
  ·exact .inl h
  ·exact .inr (.inr h)
 ·exact .inr (.inl rfl)
theorem to_err{v:Vl}{f t:Ty}(hv:fit4 v f=0)(ht:chk4 t=0):(toV v f t).2.2.2=if(f.k=6)=(t.k=6)then 0 else 5:=by
 unfold toV;rw[if_neg (by simp[hv]),if_neg (by simp[ht])];by_cases h1:f.k=6<;>by_cases h2:t.k=6
 ·rw[if_pos (.inl h1),if_neg (by omega)];simp[h1,h2]
 ·rw[if_pos (.inl h1),if_pos (by omega)];simp[h1,h2]
 ·rw[if_pos (.inr h2),if_pos (by omega)];simp[h1,h2]
 ·rw[if_neg (by omega)];simp only[h1,h2];split<;>rfl
end Go.Cx
end
noncomputable section
namespace Go.Px
open Go Go.Ab Go.Proofs
def cel0(le fill dr:Int)(neg:Bool)(m c d o:Int):Int:=
 bif m==100 then fmZ c d neg else bif m==99 then(bif decide (o<le)then fill else d)
 else bif m==105 then(bif c==66 then 32 else bif decide (o<le)then fill else c)else ssZ c dr neg
def celZ(le fill dr:Int)(neg:Bool)(m c d o:Int):Int:=bif dr !=0&&o==le-1 then sgZ dr neg else cel0 le fill dr neg m c d o
def fsGo(le fill dr:Int)(neg:Bool):List Int→List Int→List Int→Int→List Int
 | [],_,_,_=> []
 | m::r,sp,ds,o=>bif m==118 then fsGo le fill dr neg r sp.tail ds o
  else celZ le fill dr neg m (sp.headD 0) (ds.headD 0) o::fsGo le fill dr neg r sp.tail (bif isP m then ds.tail else ds) (o+1)
theorem fd_cons(le fill dr:Int)(neg:Bool)(m:Int)(r sp ds:List Int)(o:Int):fdGo le fill dr neg (m::r) sp ds o=
  bif m==118 then fdGo le fill dr neg r sp.tail ds o else cel0 le fill dr neg m (sp.headD 0) (ds.headD 0) o::fdGo le fill dr neg r sp.tail (bif isP m then ds.tail else ds) (o+1):=by
 rw[fdGo,cel0,isP];by_cases h1:m=100
 ·subst h1;rfl
 by_cases h2:m=99
 ·subst h2;rfl
 by_cases h3:m=105
 ·subst h3;rfl
 have e1:(m==100)=false:=beq_eq_false_iff_ne.2 h1;have e2:(m==99)=false:=beq_eq_false_iff_ne.2 h2;have e3:(m==105)=false:=beq_eq_false_iff_ne.2 h3;rw[e1,e2,e3];by_cases h4:m=118
 ·subst h4;rfl
 have e4:(m==118)=false:=beq_eq_false_iff_ne.2 h4;have e5:(m !=118)=true:=by rw[bne,e4];rfl
 rw[e4,e5];rfl
theorem jjc{le fill dr:Int}{neg:Bool}:∀(ms sp ds:List Int)(o:Int),dr=0∨le-1<o→fsGo le fill dr neg ms sp ds o=fdGo le fill dr neg ms sp ds o
 | [],_,_,_,_=>rfl
 | m::r,sp,ds,o,h=>by
  have hc:(dr !=0&&o==le-1)=false:=by
   rcases h with rfl | h
   ·rfl
   ·have:(o==le-1)=false:=beq_eq_false_iff_ne.2 (by omega);rw[this,Bool.and_false]
  rw[fsGo,fd_cons,celZ,hc,cond_false,jjc r _ _ (o+1) (by omega),jjc r _ _ o h]
theorem jj6{le fill dr:Int}{neg:Bool}(hd:dr≠0):∀(ms sp ds:List Int)(o:Int),o≤le-1→le-1<o+nv ms→fsGo le fill dr neg ms sp ds o=(fdGo le fill dr neg ms sp ds o).set (le-1-o).toNat (sgZ dr neg)
 | [],_,_,o,h1,h2=>by simp[nv]at h2;omega
 | m::r,sp,ds,o,h1,h2=>by
  rw[jdq]at h2;rw[fsGo,fd_cons];by_cases hm:m=118
  ·subst hm;rw[if_pos rfl]at h2;exact jj6 hd r _ _ o h1 (by omega)
  ·have e:(m==118)=false:=beq_eq_false_iff_ne.2 hm;rw[if_neg hm]at h2;rw[e,cond_false,cond_false,celZ];have hd':(dr !=0)=true:=bne_iff_ne.2 hd;by_cases ho:o=le-1
   ·have e2:(o==le-1)=true:=beq_iff_eq.2 ho;rw[hd',e2,jjc r _ _ (o+1) (.inr (by omega))];have:(le-1-o).toNat=0:=by omega
    rw[this];rfl
   ·have e2:(o==le-1)=false:=beq_eq_false_iff_ne.2 ho;have:(le-1-o).toNat=(le-1-(o+1)).toNat+1:=by omega
    rw[e2,Bool.and_false,cond_false,jj6 hd r _ _ (o+1) (by omega) (by omega),this];rfl
theorem jin(le fill dr:Int)(neg:Bool):∀(ms sp ds:List Int)(o:Int),(fsGo le fill dr neg ms sp ds o).length=nv ms
 | [],_,_,_=>rfl
 | m::r,sp,ds,o=>by
  rw[fsGo,jdq];by_cases hm:m=118
  ·subst hm;rw[if_pos rfl,Nat.zero_add];exact jin le fill dr neg r _ _ _
  ·have e:(m==118)=false:=beq_eq_false_iff_ne.2 hm;rw[e,cond_false,List.length_cons,jin,if_neg hm];omega
theorem jgi{sp:List Int}{w:Int}{k:Nat}{n:Int}(h:fdOK sp w k n=true):jdp sp w k n=
  bif fdBl sp w k n then rep1 (fdFl sp) w.toNat else fsGo (fdLe sp w k n) (fdFl sp) (fdDr sp) (decide (n<0)) (jar sp) sp (digZ n.natAbs k) 0:=by
 unfold jdp;cases hb:fdBl sp w k n with
 | true=>rfl
 | false=>
  rw[cond_false,cond_false];unfold fdOK at h;rw[hb,Bool.false_or]at h;by_cases h0:fdDr sp=0
  ·have e:(fdDr sp !=0)=false:=by rw[h0];rfl
   rw[e,cond_false,jej,jjc _ _ _ _ (.inl h0)]
  ·have e:(fdDr sp !=0)=true:=bne_iff_ne.2 h0;have e2:(fdDr sp==0)=false:=beq_eq_false_iff_ne.2 h0;rw[e2,Bool.false_or,jae,jej,jfy]at h;rw[e,cond_true,jej,jj6 h0 _ _ _ _ (by omega) (by omega),Int.sub_zero]
def ldOK(le:Int):List Int→List Int→Int→Prop
 | [],_,_=>True
 | m::r,ds,o=>(o<le→m≠100∧(m=99→ds.headD 0=48))∧ldOK le r (bif isP m then ds.tail else ds) (bif m==118 then o else o+1)
theorem jkm{le:Int}:∀(ms ds:List Int)(o:Int),le≤o→ldOK le ms ds o
 | [],_,_,_=>trivial
 | m::r,ds,o,h=>⟨fun q=>by omega,jkm r _ _ (by cases m==118<;>simp<;>omega)⟩
theorem ld_end:∀(ms ds:List Int)(o:Int),ldOK (jdi ms ds o) ms ds o
 | [],_,_=>trivial
 | m::r,ds,o=>by
  rw[jdi];cases h:((m==118 || m==100) || (m==99&&ds.headD 0 !=48))with
  | true=>exact jkm _ _ _ (by rw[cond_true];omega)
  | false=>
   rw[cond_false];simp only[Bool.or_eq_false_iff,beq_eq_false_iff_ne,Bool.and_eq_false_imp,beq_iff_eq,bne_eq_false_iff_eq]at h;obtain⟨⟨h1,h2⟩,h3⟩:=h;have e1:(m==118)=false:=beq_eq_false_iff_ne.2 h1;have e2:isP m=(m==99):=by rw[isP,beq_eq_false_iff_ne.2 h2,Bool.false_or]
   have:=ld_end r (bif m==99 then ds.tail else ds) (o+1);rw[ldOK,e1,e2,cond_false];exact⟨fun _=>⟨h2,h3⟩,this⟩
theorem jet(m:Int)(r:List Int):pdGo (m::r)=(if isP m=true then 1 else 0)+pdGo r:=by
 rw[pdGo];cases isP m<;>rfl
theorem jhz{m:Int}:isP m=true↔m=100∨m=99:=by simp[isP]
theorem ld_zero{le:Int}:∀(ms ds:List Int)(o:Int),100∉ms→(∀c∈ds,c=48)→pdGo ms≤ds.length→ldOK le ms ds o
 | [],_,_,_,_,_=>trivial
 | m::r,ds,o,h1,h2,h3=>by
  have hr:100∉r:=fun q=>h1 (List.mem_cons_of_mem _ q)
  have hm:m≠100:=fun q=>h1 (by rw[q];exact List.mem_cons_self)
  rw[jet]at h3;have hn:=jg7 r;refine⟨fun _=>⟨hm,fun h99=> ?_⟩,?_⟩
  ·rw[if_pos (jhz.2 (.inr h99))]at h3;cases ds with
   | nil=>simp at h3;omega
   | cons d ds=>exact h2 d List.mem_cons_self
  ·refine ld_zero r _ _ hr ?_ ?_
   ·cases isP m with
    | true=>exact fun c hc=>h2 c (List.mem_of_mem_tail hc)
    | false=>exact h2
   ·cases hp:isP m with
    | true=>rw[hp,if_pos rfl]at h3;rw[cond_true,List.length_tail];omega
    | false=>rw[hp]at h3;simp at h3;exact h3
theorem ld_law{sp:List Int}{w:Int}{k:Nat}{n:Int}(hp:pdGo (jar sp)≤k):ldOK (fdLe sp w k n) (jar sp) (digZ n.natAbs k) 0:=by
 unfold fdLe endZ;cases h9:hasZ (jar sp) 99 with
 | false=>exact jkm _ _ _ (by simp)
 | true=>
  rw[Bool.not_true,cond_false];cases hq:(!hasZ (jar sp) 100&&decide (digZ n.natAbs k=rep1 48 k))with
  | false=>exact ld_end _ _ _
  | true=>
   simp only[jaf,Bool.not_eq_true',jae]at hq;refine ld_zero _ _ _ (fun q=>by rw[jbc.2 q]at hq;cases hq.1) ?_ (by rw[jcn];exact hp);exact(jjy (jcn _ _)).1 hq.2
theorem dg10{d:Int}(h:48≤d∧d≤57):d=48∨d=49∨d=50∨d=51∨d=52∨d=53∨d=54∨d=55∨d=56∨d=57:=by omega
theorem rd_fm(c:Int){d:Int}(neg:Bool)(h:48≤d∧d≤57):rdD (fmZ c d neg)=d-48:=by
 unfold fmZ;split
 ·rename_i q;rw[q.2];decide
 ·split
  ·rcases dg10 h with rfl | rfl | rfl | rfl | rfl | rfl | rfl | rfl | rfl | rfl<;>cases neg<;>decide
  ·rcases dg10 h with rfl | rfl | rfl | rfl | rfl | rfl | rfl | rfl | rfl | rfl<;>decide
theorem rd_d{d:Int}(h:48≤d∧d≤57):rdD d=d-48:=by
 rcases dg10 h with rfl | rfl | rfl | rfl | rfl | rfl | rfl | rfl | rfl | rfl<;>decide
theorem dr_four{dr:Int}(h:hasZ [36,83,43,45] dr=true):dr=36∨dr=83∨dr=43∨dr=45:=by
 simpa using jbc.1 h
theorem rd_sg{dr:Int}(h:hasZ [36,83,43,45] dr=true)(neg:Bool):rdD (sgZ dr neg)=0:=by
 rcases dr_four h with rfl | rfl | rfl | rfl<;>cases neg<;>decide
theorem rd_fl(sp:List Int):rdD (fdFl sp)=0:=by
 unfold fdFl;split<;>decide
theorem rd_fs{le fill dr:Int}{neg:Bool}(hf:rdD fill=0)(hd:dr=0∨hasZ [36,83,43,45] dr=true):∀(ms sp ds:List Int)(o a:Int),dgL ds=true→pdGo ms≤ds.length→ldOK le ms ds o→
  rdGo ms (fsGo le fill dr neg ms sp ds o) a=numZ (ds.take (pdGo ms).toNat) a
 | [],_,_,_,_,_,_,_=>by simp[rdGo,pdGo,numZ]
 | m::r,sp,ds,o,a,h1,h2,h3=>by
  have hn:=jg7 r;rw[jet]at h2;rw[fsGo,rdGo,jet];obtain⟨g1,g2⟩:=h3;by_cases hm:m=118
  ·subst hm;exact rd_fs hf hd r _ ds o a h1 (by simpa[isP]using h2) (by simpa[isP]using g2) |>.trans (by simp[isP])
  ·have e:(m==118)=false:=beq_eq_false_iff_ne.2 hm;rw[e,cond_false]at g2;rw[e,cond_false,cond_false,List.tail_cons,List.headD_cons];cases hp:isP m with
   | false=>
    have hp2:(m==100 || m==99)=false:=hp;rw[hp]at g2 h2;rw[hp2,cond_false,cond_false,rd_fs hf hd r _ ds (o+1) a h1 (by simpa using h2) g2];simp
   | true=>
    have hp2:(m==100 || m==99)=true:=hp;rw[hp,if_pos rfl]at h2;rw[hp]at g2;cases ds with
    | nil=>simp at h2;omega
    | cons d ds=>
     obtain⟨hdd,hds⟩:=jgj.1 h1;rw[List.length_cons]at h2;rw[hp2,cond_true,cond_true,List.tail_cons,List.headD_cons,rd_fs hf hd r _ ds (o+1) _ hds (by omega) g2];have et:(1+pdGo r).toNat=(pdGo r).toNat+1:=by omega
     have hc:rdD (celZ le fill dr neg m (sp.headD 0) d o)=d-48:=by
      unfold celZ;cases hs:(dr !=0&&o==le-1)with
      | true=>
       simp only[jaf,bne_iff_ne,beq_iff_eq]at hs;obtain⟨k1,k2⟩:=g1 (by omega);have h99:m=99:=(jhz.1 hp).resolve_left k1;have:d=48:=k2 h99;rw[cond_true,rd_sg (hd.resolve_left hs.1),this];rfl
      | false=>
       rw[cond_false,cel0];rcases jhz.1 hp with rfl | rfl
       ·exact rd_fm _ _ hdd
       ·show rdD (bif decide (o<le)then fill else d)=_;by_cases ho:o<le
        ·have:d=48:=(g1 ho).2 rfl;rw[jaa ho,cond_true,hf,this];rfl
        ·rw[jad ho,cond_false,rd_d hdd]
     rw[hc];simp only[if_true];rw[et,List.take_succ_cons,numZ]
theorem jkg:∀(ms l:List Int),(∀c∈l,rdD c=0)→rdGo ms l 0=0
 | [],_,_=>rfl
 | m::r,l,h=>by
  rw[rdGo];cases m==118 with
  | true=>exact jkg r l h
  | false=>
   rw[cond_false]
   have h0:rdD (l.headD 0)=0:=by
    cases l with
    | nil=>decide
    | cons c l=>exact h c List.mem_cons_self
   rw[h0];have:(bif m==100 || m==99 then(0:Int)*10+0 else 0)=0:=by cases(m==100 || m==99) <;>rfl
   rw[this];exact jkg r _ fun c hc=>h c (List.mem_of_mem_tail hc)
theorem fdDr_sign(sp:List Int):fdDr sp=0∨hasZ [36,83,43,45] (fdDr sp)=true:=by
 unfold fdDr;cases(!hasZ sp 90&& (!hasZ sp 42&&hasZ (jar sp) 99))with
 | false=>exact .inl rfl
 | true=>exact(jff sp sp).imp id And.left
theorem jh5{sp:List Int}{w:Int}{k:Nat}{n:Int}(h:fdBl sp w k n=true):n=0:=by
 simp only[fdBl,jaf,beq_iff_eq]at h;exact h.2.2.1
theorem rdA_field{l:List Int}(hl:IsB (pS l)∧(pS l).length≤32)(h:pN l=true){n:Int}(hn:(n.natAbs:Int)<tenZ (pD l).toNat):rdA l (fdN l n)=n.natAbs:=by
 obtain⟨_,_,p3,p4,_,p6⟩:=jhu hl h n;have hp:=jd4 h;rw[rdA,fdN,jgi p6];cases hb:fdBl (pS l) (pW l) (pD l).toNat n with
 | true=>
  rw[cond_true,jh5 hb];exact jkg _ _ fun c hc=>by rw[List.eq_of_mem_replicate hc];exact rd_fl _
 | false=>
  have hlen:=jcn (pD l).toNat n.natAbs;rw[cond_false,rd_fs (rd_fl _) (fdDr_sign _) _ _ _ _ _ (jd8 _ _) (by rw[hlen];omega) (ld_law (by omega)),List.take_of_length_le (by rw[hlen];omega)];have:=jhe (pD l).toNat n.natAbs (by omega);rw[dval,Int.emod_eq_of_lt (by omega) hn]at this;exact this
theorem jli(le fill dr:Int)(neg:Bool):∀(a b sp ds:List Int)(o:Int),fsGo le fill dr neg (a++b) sp ds o=
  fsGo le fill dr neg a sp ds o++fsGo le fill dr neg b (sp.drop a.length) (ds.drop (pdGo a).toNat) (o+nv a)
 | [],b,sp,ds,o=>by simp[fsGo,pdGo,nv]
 | m::r,b,sp,ds,o=>by
  have hn:=jg7 r;have et:∀x:List Int,x.tail.drop r.length=x.drop (r.length+1):=fun x=>by rw[List.drop_tail]
  rw[List.cons_append,fsGo,fsGo,jet,jdq,List.length_cons];by_cases hm:m=118
  ·subst hm;have e:((118:Int)==118)=true:=rfl;have ip:isP 118=false:=rfl;rw[e,cond_true,cond_true,ip,if_pos rfl,if_neg (by decide),Int.zero_add,Nat.zero_add,jli le fill dr neg r b,et]
  ·have e:(m==118)=false:=beq_eq_false_iff_ne.2 hm;rw[e,cond_false,cond_false,jli le fill dr neg r b,et,if_neg hm,List.cons_append];have eo:o+1+(nv r:Int)=o+((1+nv r:Nat):Int):=by omega
   rw[eo];cases hp:isP m with
   | false=>rw[cond_false,if_neg (by decide),Int.zero_add]
   | true=>
    have e1:(1+pdGo r).toNat=(pdGo r).toNat+1:=by omega
    rw[cond_true,if_pos rfl,e1,List.drop_tail]
theorem jle(dr:Int):∀(a b:List Int)(seen:Bool),mkGo dr seen (a++b)=mkGo dr seen a++mkGo dr (seen || (dr !=0&&decide (dr∈a))) b
 | [],b,seen=>by simp[mkGo]
 | c::r,b,seen=>by
  rw[List.cons_append,mkGo,mkGo,jle dr r b,List.cons_append];congr 3
  have:decide (dr∈c::r)=(c==dr || decide (dr∈r)):=by
   rw[Bool.eq_iff_iff,jae,Bool.or_eq_true,jae,beq_iff_eq,List.mem_cons];exact⟨fun h=>h.imp Eq.symm id,fun h=>h.imp Eq.symm id⟩
  rw[this];cases seen<;>cases dr !=0<;>simp
theorem pd_zero{a:List Int}:pdGo a=0↔ ∀m∈a,isP m=false:=by
 induction a with
 | nil=>simp[pdGo]
 | cons m r ih=>
  have:=jg7 r;rw[jet];cases hp:isP m with
  | true=>simp[hp];omega
  | false=>simp[hp,ih]
theorem ld_at{le m:Int}:∀{a b ds:List Int}{o:Int},ldOK le (a++m::b) ds o→o+nv a<le→m≠100∧(m=99→(ds.drop (pdGo a).toNat).headD 0=48)
 | [],b,ds,o,h,ho=>by
  have:=h.1 (by simpa[nv]using ho);simpa[pdGo]using this
 | x::r,b,ds,o,h,ho=>by
  have hn:=jg7 r;rw[jdq]at ho
  have:=ld_at (a:=r) (b:=b) h.2 (by
   by_cases hm:x=118
   ·subst hm;simpa using ho
   ·have e:(x==118)=false:=beq_eq_false_iff_ne.2 hm;rw[if_neg hm]at ho;rw[e,cond_false];omega)
  rw[jet];cases hp:isP x with
  | false=>
   rw[hp]at this;simpa using this
  | true=>
   rw[hp,cond_true,List.drop_tail]at this;have e1:(1+pdGo r).toNat=(pdGo r).toNat+1:=by omega
   rw[if_pos rfl,e1];exact this
theorem jkt:∀(a b ds:List Int)(o:Int),jdi (a++b) ds o≤o+nv a∨
  (118∉a∧100∉a∧(∀c∈ds.take (pdGo a).toNat,c=48)∧jdi (a++b) ds o=jdi b (ds.drop (pdGo a).toNat) (o+nv a))
 | [],b,ds,o=> .inr ⟨by simp,by simp,by simp[pdGo],by simp[pdGo,nv]⟩
 | m::r,b,ds,o=>by
  have hn:=jg7 r;rw[List.cons_append,jdi,jdq,jet];cases h:((m==118 || m==100) || (m==99&&ds.headD 0 !=48))with
  | true=>left;rw[cond_true];omega
  | false=>
   rw[cond_false];simp only[Bool.or_eq_false_iff,beq_eq_false_iff_ne,Bool.and_eq_false_imp,beq_iff_eq,bne_eq_false_iff_eq]at h;obtain⟨⟨h1,h2⟩,h3⟩:=h;have eo:o+1+(nv r:Int)=o+((1+nv r:Nat):Int):=by omega
   rw[if_neg h1,←eo];rcases jkt r b (bif m==99 then ds.tail else ds) (o+1)with g | ⟨g1,g2,g3,g4⟩
   ·exact .inl g
   ·refine .inr ⟨?_,?_,?_,?_⟩
    ·simp only[List.mem_cons,not_or];exact⟨Ne.symm h1,g1⟩
    ·simp only[List.mem_cons,not_or];exact⟨Ne.symm h2,g2⟩
    ·by_cases h9:m=99
     ·subst h9;have e1:(1+pdGo r).toNat=(pdGo r).toNat+1:=by omega
      have hp:isP 99=true:=rfl;rw[hp,if_pos rfl,e1];cases ds with
      | nil=>simp
      | cons d ds=>
       rw[List.take_succ_cons];intro c hc;rcases List.mem_cons.1 hc with rfl | hc
       ·exact h3 rfl
       ·exact g3 c hc
     ·have e:(m==99)=false:=beq_eq_false_iff_ne.2 h9;have hp:isP m=false:=by simp[isP,h2,h9]
      rw[e,cond_false]at g3;rw[hp];simpa using g3
    ·rw[g4];by_cases h9:m=99
     ·subst h9;have e1:(1+pdGo r).toNat=(pdGo r).toNat+1:=by omega
      have hp:isP 99=true:=rfl;rw[hp,if_pos rfl,e1];show jdi b (ds.tail.drop _) _=_;rw[List.drop_tail]
     ·have e:(m==99)=false:=beq_eq_false_iff_ne.2 h9;have hp:isP m=false:=by simp[isP,h2,h9]
      rw[e,hp];simp
theorem drift_C{b:List Int}(h:jcf b=true)(h0:drZ b≠0):drC b (drZ b)=true:=by
 obtain⟨_,hm⟩:=(jel b b).resolve_left h0;have hm:drZ b∈b:=hm;simp only[jcf,Bool.or_eq_true,beq_iff_eq,jaf]at h;obtain⟨h1,h2⟩:=h.resolve_left h0;obtain⟨q1,q2⟩:=df1_fl b (drZ b) b 0 (-1) (-1) (by omega) h1;rw[if_pos (by omega),if_pos hm,Int.zero_add]at q1;rw[if_pos hm,Int.zero_add]at q2;rw[q1,q2,d2_drC hm]at h2;exact h2
theorem jiz(dr x:Int):∀(a am b bm:List Int)(j:Int)(p q:Bool),a.length=am.length→
  stIn dr x (a++b) (am++bm) j p q=stIn dr x b bm (j+a.length) (stIn dr x a am j p q).1 (stIn dr x a am j p q).2
 | [],[],b,bm,j,p,q,_=>by simp[stIn]
 | c::r,m::ms,b,bm,j,p,q,h=>by
  rw[List.cons_append,List.cons_append,stIn,stIn];have hl:r.length=ms.length:=by simpa using h
  have e:j+((c::r).length:Int)=j+1+r.length:=by rw[List.length_cons];omega
  rw[e];cases m==100 || (m==99 || c==dr)with
  | true=>exact jiz dr x r ms b bm _ _ _ hl
  | false=>exact jiz dr x r ms b bm _ _ _ hl
theorem jga(dr x:Int):∀(a am:List Int)(j:Int)(p q:Bool),(p=true→(stIn dr x a am j p q).1=true)∧(q=true→(stIn dr x a am j p q).2=true)
 | [],_,_,p,q=>by simp[stIn]
 | _::_,[],_,p,q=>by simp[stIn]
 | c::r,m::ms,j,p,q=>by
  rw[stIn];have h:=fun p q=>jga dr x r ms (j+1) p q
  cases m==100 || (m==99 || c==dr)with
  | true=>exact⟨fun e=>(h _ _).1 (by rw[e];rfl),fun e=>(h _ _).2 (by rw[e];rfl)⟩
  | false=>exact⟨fun e=>(h _ _).1 e,fun e=>(h _ _).2 e⟩
theorem stIn_lo(dr x:Int):∀(a am:List Int)(j:Int)(p q:Bool),a.length=am.length→((∃m∈am,isP m=true)∨dr∈a)→j+a.length≤x→(stIn dr x a am j p q).1=true
 | [],[],_,_,_,_,h,_=>by simp at h
 | c::r,m::ms,j,p,q,hl,h,hx=>by
  rw[List.length_cons]at hx;have hl':r.length=ms.length:=by simpa using hl
  rw[stIn];cases hm:m==100 || (m==99 || c==dr)with
  | true=>exact(jga dr x r ms _ _ _).1 (by rw[jaa (by omega)];simp)
  | false=>
   refine stIn_lo dr x r ms _ _ _ hl' ?_ (by omega);simp only[Bool.or_eq_false_iff,beq_eq_false_iff_ne]at hm;rcases h with⟨y,hy,hp⟩ | h
   ·rcases List.mem_cons.1 hy with rfl | hy
    ·rcases jhz.1 hp with rfl | rfl
     ·exact absurd rfl hm.1
     ·exact absurd rfl hm.2.1
    ·exact .inl ⟨y,hy,hp⟩
   ·rcases List.mem_cons.1 h with e | h
    ·exact absurd e.symm hm.2.2
    ·exact .inr h
theorem stIn_hi(dr x:Int):∀(a am:List Int)(j:Int)(p q:Bool),a.length=am.length→((∃m∈am,isP m=true)∨dr∈a)→x<j→(stIn dr x a am j p q).2=true
 | [],[],_,_,_,_,h,_=>by simp at h
 | c::r,m::ms,j,p,q,hl,h,hx=>by
  have hl':r.length=ms.length:=by simpa using hl
  rw[stIn];cases hm:m==100 || (m==99 || c==dr)with
  | true=>exact(jga dr x r ms _ _ _).2 (by rw[jaa (show j>x by omega)];simp)
  | false=>
   refine stIn_hi dr x r ms _ _ _ hl' ?_ (by omega);simp only[Bool.or_eq_false_iff,beq_eq_false_iff_ne]at hm;rcases h with⟨y,hy,hp⟩ | h
   ·rcases List.mem_cons.1 hy with rfl | hy
    ·rcases jhz.1 hp with rfl | rfl
     ·exact absurd rfl hm.1
     ·exact absurd rfl hm.2.1
    ·exact .inl ⟨y,hy,hp⟩
   ·rcases List.mem_cons.1 h with e | h
    ·exact absurd e.symm hm.2.2
    ·exact .inr h
theorem stGo_at(dr:Int)(body ms:List Int):∀{a b:List Int}{c i:Int},stGo dr body ms (a++c::b) i=true→hasZ [36,83,43,45] c=true→c≠dr→
  ((stIn dr (i+a.length) body ms 0 false false).1&& (stIn dr (i+a.length) body ms 0 false false).2)=false
 | [],b,c,i,h,h4,hc=>by
  rw[List.nil_append,stGo,h4,beq_eq_false_iff_ne.2 hc]at h;have:=(Bool.and_eq_true_iff.1 h).1;have e:((([]:List Int).length:Nat):Int)=0:=rfl;rw[e,Int.add_zero];cases q:((stIn dr i body ms 0 false false).1&& (stIn dr i body ms 0 false false).2)with
  | false=>rfl
  | true=>rw[q]at this;cases this
 | x::a,b,c,i,h,h4,hc=>by
  rw[List.cons_append,stGo]at h;have e:i+((x::a).length:Int)=i+1+a.length:=by rw[List.length_cons];omega
  rw[e];exact stGo_at dr body ms (Bool.and_eq_true_iff.1 h).2 h4 hc
theorem jgg:∀(a b:List Int)(fm bh pt:Bool)(dg:Int),(ldGo (a++100::b) fm bh pt dg).1=true→99∉b
 | [],b,fm,bh,pt,dg,h,h9=>by
  have key:(ldGo (100::b) fm bh pt dg).1=(ldGo b true bh pt (dg+1)).1:=rfl;rw[List.nil_append,key,jgr b _ _ _ h9]at h;cases h
 | m::a,b,fm,bh,pt,dg,h,h9=>by
  rw[List.cons_append,ldGo]at h;cases hm:m==118 with
  | true=>rw[hm]at h;exact jgg a b _ _ _ _ h h9
  | false=>
   rw[hm,cond_false]at h;cases hm2:m==100 with
   | true=>rw[hm2]at h;exact jgg a b _ _ _ _ h h9
   | false=>
    rw[hm2,cond_false]at h;cases hm3:m==99 with
    | false=>rw[hm3]at h;exact jgg a b _ _ _ _ h h9
    | true=>
     rw[hm3,cond_true]at h;cases fm with
     | true=>cases h
     | false=>exact jgg a b _ _ _ _ h h9
theorem mk1_99{dr:Int}{seen:Bool}{c:Int}(h:mk1 dr seen c=99):hasZ [90,42] c=true∨(dr≠0∧c=dr∧seen=true):=by
 unfold mk1 at h;cases h1:hasZ [57,89,84,73,82] c with
 | true=>rw[h1,cond_true]at h;exact absurd h (by decide)
 | false=>
  rw[h1,cond_false]at h;cases h2:hasZ [90,42] c || (dr !=0&& (c==dr&&seen))with
  | true=>
   rcases Bool.or_eq_true_iff.1 h2 with q | q
   ·exact .inl q
   ·simp only[jaf,bne_iff_ne,beq_iff_eq]at q;exact .inr q
  | false=>
   rw[h2,cond_false]at h;cases h3:c==86<;>cases h4:c==36<;>cases h5:hasZ [83,43,45] c<;>rw[h3]at h<;>simp[h4,h5]at h
theorem mk_99_mem{dr:Int}:∀{l:List Int}{seen:Bool},99∈mkGo dr seen l→(∃c∈l,hasZ [90,42] c=true)∨(dr≠0∧dr∈l)
 | c::r,seen,h=>by
  rw[mkGo]at h;rcases List.mem_cons.1 h with h | h
  ·rcases mk1_99 h.symm with q | ⟨q1,q2,_⟩
   ·exact .inl ⟨c,List.mem_cons_self,q⟩
   ·exact .inr ⟨q1,by rw[←q2];exact List.mem_cons_self⟩
  ·rcases mk_99_mem h with⟨x,hx,q⟩ | ⟨q1,q2⟩
   ·exact .inl ⟨x,List.mem_cons_of_mem _ hx,q⟩
   ·exact .inr ⟨q1,List.mem_cons_of_mem _ q2⟩
theorem NumP.noZ{s:List Int}(h:NumP s)(h0:drZ (jal s)≠0):∀c∈jal s,hasZ [90,42] c=false:=by
 have hld:=h.ld;unfold jdk at hld;intro c hc;cases e:hasZ [90,42] c with
 | false=>rfl
 | true=>
  exfalso
  have hm:hasZ (jal s) 90=true∨hasZ (jal s) 42=true:=by
   have:=jbc.1 e;rcases List.mem_cons.1 this with rfl | this
   ·exact .inl (jbc.2 hc)
   ·rcases List.mem_cons.1 this with rfl | this
    ·exact .inr (jbc.2 hc)
    ·cases this
  have:(hasZ (jal s) 90 || hasZ (jal s) 42)=true:=by rcases hm with q | q<;>rw[q] <;>simp
  rw[this,bne_iff_ne.2 h0]at hld;cases h9:hasZ (jal s) 90&&hasZ (jal s) 42 with
  | true=>rw[h9]at hld;cases hld
  | false=>rw[h9]at hld;cases hld
theorem NumP.ld1{s:List Int}(h:NumP s):(ldGo (mkGo (drZ (jal s)) false (jal s)) false false false 0).1=true:=by
 have hld:=h.ld;unfold jdk at hld;cases h1:hasZ (jal s) 90&&hasZ (jal s) 42 with
 | true=>rw[h1]at hld;cases hld
 | false=>
  rw[h1,cond_false]at hld;cases h2:(hasZ (jal s) 90 || hasZ (jal s) 42) &&drZ (jal s) !=0 with
  | true=>rw[h2]at hld;cases hld
  | false=>
   rw[h2,cond_false]at hld;exact(Bool.and_eq_true_iff.1 hld).1
theorem idx_ge{d:Int}:∀{a b:List Int},d∉a→d∈b→(a.length:Int)≤idxZ (a++b) d
 | a,b,ha,hb=>by
  rw[jkq,if_neg ha,if_pos hb];have:=(jf5 d b).2.2 hb;omega
def tmZ(s:List Int):List Int:=if crZ s=true then [115,115]else []
theorem jhc(s:List Int):jar s=mkGo (drZ (jal s)) false (jal s)++tmZ s:=rfl
theorem tm_pd(s:List Int):pdGo (tmZ s)=0:=by unfold tmZ;split<;>rfl
theorem still_ne{s:List Int}(h:NumP s){k:Nat}{n w:Int}(hk:pdGo (jar s)=k)(hn:¬ ∀c∈digZ n.natAbs k,c=48){pre suf:List Int}{c:Int}(hb:jal s=pre++c::suf)(hc:c=83∨c=43∨c=45∨c=36)(h0:drZ (jal s)≠0)(hne:c≠drZ (jal s)):
  fdLe s w k n-1≠nv (mkGo (drZ (jal s)) false pre):=by
 have hlen:=jcn k n.natAbs;generalize hds:digZ n.natAbs k=ds at*;have hnz:=h.noZ h0;have hld:=h.ld1;have hst:=h.st;have hD:=drift_C h.dr h0;have hms:=jhc s;have ht:=tm_pd s;have htm:tmZ s=[]∨tmZ s=[115,115]:=by unfold tmZ;split<;>simp
 have hdm:drZ (jal s)∈jal s:=((jel (jal s) (jal s)).resolve_left h0).2;unfold fdLe endZ;rw[hds];have hrep:decide (ds=rep1 48 k)=false:=jad fun q=>hn ((jjy hlen).1 q)
 rw[hrep,Bool.and_false,cond_false];unfold je6 at hst;generalize hdr:drZ (jal s)=dr at*;cases h9:hasZ (jar s) 99 with
 | false=>rw[Bool.not_false,cond_true];omega
 | true=>
  rw[Bool.not_true,cond_false];have h4:hasZ [36,83,43,45] c=true:=by rcases hc with rfl | rfl | rfl | rfl<;>decide
  have hmk:∀seen,mk1 dr seen c=115∨mk1 dr seen c=109:=fun seen=>by
   have:(c==dr)=false:=beq_eq_false_iff_ne.2 hne;unfold mk1;rw[this];rcases hc with rfl | rfl | rfl | rfl<;>simp[hasZ]
  rw[hb]at hst;have hst':=stGo_at dr (pre++c::suf) _ hst h4 hne;rw[Int.zero_add]at hst';rw[hb]at hms hld;rw[jle,mkGo]at hms hld hst';generalize hsn:(false || (dr !=0&&decide (dr∈pre)))=sn at*;generalize hM:mk1 dr sn c=M at*;have hM':M=115∨M=109:=by rw[←hM];exact hmk sn
  have hl1:=jg0 dr pre false;have hl2:=jg0 dr suf (sn || (dr !=0&&c==dr));generalize hA:mkGo dr false pre=A at*;generalize hB:mkGo dr (sn || (dr !=0&&c==dr)) suf=B at*;rw[List.append_assoc,List.cons_append]at hms;have hPM:isP M=false:=by rcases hM' with rfl | rfl<;>rfl
  rcases jkt A (M::(B++tmZ s)) ds 0 with g | ⟨g1,g2,g3,g4⟩
  ·rw[hms];omega
  ·have hpB:pdGo B≠0:=fun q=>by
    refine hn fun x hx=>g3 x ?_
    have:pdGo (jar s)=pdGo A:=by rw[hms,jht,jet,jht,hPM,q,ht];simp
    rw[List.take_of_length_le (by rw[hlen];omega)];exact hx
   have hPB:∃m∈B,isP m=true:=by
    apply Classical.byContradiction;intro q;refine hpB (pd_zero.2 fun m hm=> ?_);cases e:isP m with
    | false=>rfl
    | true=>exact absurd ⟨m,hm,e⟩ q
   by_cases hdp:dr∈pre
   ·exfalso;rw[jiz _ _ _ _ _ _ _ _ _ hl1.symm,Int.zero_add]at hst';rw[stIn]at hst';have e1:=stIn_lo dr pre.length pre A 0 false false hl1.symm (.inr hdp) (by omega)
    have e3:(M==100 || (M==99 || c==dr))=false:=by
     rw[beq_eq_false_iff_ne.2 hne];rcases hM' with rfl | rfl<;>rfl
    rw[e3,cond_false,e1]at hst';have e2:=fun p q=>stIn_hi dr pre.length suf B (pre.length+1) p q hl2.symm (.inl hPB) (by omega)
    rw[(jga dr pre.length suf B _ true _).1 rfl,e2]at hst';cases hst'
   ·have h99A:99∉A:=fun q=>by
     rw[←hA]at q;rcases mk_99_mem q with⟨x,hx,e⟩ | ⟨_,e⟩
     ·rw[hnz x (by rw[hb];exact List.mem_append_left _ hx)]at e;cases e
     ·exact hdp e
    have hsnf:(sn || (dr !=0&&c==dr))=false:=by
     rw[←hsn,beq_eq_false_iff_ne.2 hne,jad hdp];simp
    have h99B:99∈B:=by
     have:=jbc.1 h9;rw[hms]at this;simp only[List.mem_append,List.mem_cons]at this;rcases this with q | q | q | q
     ·exact absurd q h99A
     ·rcases hM' with rfl | rfl<;>cases q
     ·exact q
     ·rcases htm with e | e<;>rw[e]at q<;>simp at q
    rw[hsnf]at hB;cases suf with
    | nil=>rw[←hB]at h99B;cases h99B
    | cons c1 s1=>
     rw[mkGo]at hB
     have n99:mk1 dr false c1≠99:=fun q=>by
      rcases mk1_99 q with e | ⟨_,_,e⟩
      ·rw[hnz c1 (by rw[hb];simp)]at e;cases e
      ·cases e
     have n100:mk1 dr false c1≠100:=fun q=>by
      rw[q]at hB;rw[←hB]at hld h99B;have:=jgg (A++ [M]) (mkGo dr (false || (dr !=0&&c1==dr)) s1) false false false 0 (by simpa using hld);rcases List.mem_cons.1 h99B with e | e
      ·cases e
      ·exact this e
     have n118:mk1 dr false c1≠118:=fun q=>by
      have h4d:=(jff (jal s) (jal s))
      have h4d:dr=0∨hasZ [36,83,43,45] dr=true:=by
       rw[←hdr];exact h4d.imp id And.left
      have e86:=(jj2 h4d false c1).1 q;subst e86;simp only[drC,jaf,Bool.not_eq_true']at hD
      have hd86:dr≠86:=fun e=>by
       rw[e]at h4d;rcases h4d with e | e
       ·cases e
       ·exact absurd e (by decide)
      have hbb:jal s=(pre++ [c,86])++s1:=by rw[hb];simp
      have hdp2:dr∉pre++ [c,86]:=by
       simp only[List.mem_append,List.mem_cons,List.not_mem_nil,or_false,not_or];exact⟨hdp,Ne.symm hne,hd86⟩
      have hds1:dr∈s1:=by
       rw[hbb]at hdm;exact(List.mem_append.1 hdm).resolve_left hdp2
      have hi:=idx_ge hdp2 hds1;rw[←hbb]at hi
      have:hasZ ((jal s).take (idxZ (jal s) dr).toNat) 86=true:=by
       apply jbc.2;have e:=List.take_append_drop (idxZ (jal s) dr).toNat (jal s);rw[hbb,List.take_append,List.mem_append];left;rw[List.take_of_length_le (by rw[←hbb];omega)];simp
      rw[this]at hD;cases hD.1
     rw[hms,g4];have hM1:∀d:List Int,((M==118 || M==100) || (M==99&&d.headD 0 !=48))=false:=fun d=>by rcases hM' with rfl | rfl<;>rfl
     have hM9:(M==99)=false:=by rcases hM' with rfl | rfl<;>rfl
     rw[jdi,hM1,cond_false,hM9,cond_false,←hB,List.cons_append,jdi];have e1:(mk1 dr false c1==118)=false:=beq_eq_false_iff_ne.2 n118;have e2:(mk1 dr false c1==100)=false:=beq_eq_false_iff_ne.2 n100;have e3:(mk1 dr false c1==99)=false:=beq_eq_false_iff_ne.2 n99;rw[e1,e2,e3];have:=(jj8 (mkGo dr (false || (dr !=0&&c1==dr)) s1++tmZ s) (ds.drop (pdGo A).toNat) (0+nv A+1+1)).1;show jdi _ (ds.drop (pdGo A).toNat) (0+nv A+1+1)-1≠_;omega
theorem fdLe_neg(s:List Int)(w:Int)(k:Nat)(n:Int):fdLe s w k (0-n)=fdLe s w k n:=by
 have:(0-n).natAbs=n.natAbs:=by omega
 rw[fdLe,fdLe,this]
theorem cel_eq{le fl dr:Int}{ms s ds A B P R:List Int}{m c:Int}(h:fsGo le fl dr false ms s ds 0=fsGo le fl dr true ms s ds 0)(hm:ms=A++m::B)(hs:s=P++c::R)(hl:A.length=P.length)(h1:m≠118):
  celZ le fl dr false m c ((ds.drop (pdGo A).toNat).headD 0) (nv A)=celZ le fl dr true m c ((ds.drop (pdGo A).toNat).headD 0) (nv A):=by
 have e1:(m==118)=false:=beq_eq_false_iff_ne.2 h1;have e2:s.drop A.length=c::R:=by rw[hs,hl,List.drop_left]
 rw[hm,jli,jli,e2,fsGo,fsGo,e1,cond_false,cond_false]at h;have:=(List.append_inj h (by rw[jin,jin])).2;have:=(List.cons.inj this).1;rw[Int.zero_add,List.headD_cons]at this;exact this
theorem le_body{s:List Int}{k:Nat}{n w:Int}(hk:pdGo (jar s)=k)(hn:¬ ∀c∈digZ n.natAbs k,c=48):fdLe s w k n≤nv (mkGo (drZ (jal s)) false (jal s)):=by
 have hlen:=jcn k n.natAbs;generalize hds:digZ n.natAbs k=ds at*;have ht:=tm_pd s;unfold fdLe endZ;rw[hds];have hrep:decide (ds=rep1 48 k)=false:=jad fun q=>hn ((jjy hlen).1 q)
 rw[hrep,Bool.and_false,cond_false];cases h9:hasZ (jar s) 99 with
 | false=>rw[Bool.not_false,cond_true];omega
 | true=>
  rw[Bool.not_true,cond_false,jhc];rcases jkt (mkGo (drZ (jal s)) false (jal s)) (tmZ s) ds 0 with g | ⟨_,_,g,_⟩
  ·omega
  ·rw[jhc,jht,ht]at hk;exact absurd (fun x hx=>g x (by rw[List.take_of_length_le (by omega)];exact hx)) hn
theorem mk1_firm{dr:Int}{seen:Bool}{c:Int}(h:hasZ [57,89,84,73,82] c=true):mk1 dr seen c=100:=by
 unfold mk1;rw[h];rfl
theorem jjp{l:List Int}{c:Int}(h:0<cntZ l c):c∈l:=by
 apply Classical.byContradiction;intro q;rw[cnt_none q]at h;omega
theorem hd_dig{ds:List Int}(h:dgL ds=true){i:Nat}(hi:i<ds.length):48≤(ds.drop i).headD 0∧(ds.drop i).headD 0≤57:=by
 rw[List.drop_eq_getElem_cons hi,List.headD_cons];simp only[dgL,List.all_eq_true,jae]at h;exact h _ (List.getElem_mem _)
theorem fm_ne{c d:Int}(hc:c=84∨c=73∨c=82)(hd:48≤d∧d≤57):fmZ c d false≠fmZ c d true:=by
 rcases hc with rfl | rfl | rfl<;>rcases dg10 hd with rfl | rfl | rfl | rfl | rfl | rfl | rfl | rfl | rfl | rfl<;>decide
theorem mk1_sign{dr:Int}{seen:Bool}{c:Int}(hc:c=83∨c=43∨c=45)(hne:c≠dr):mk1 dr seen c=115:=by
 have:(c==dr)=false:=beq_eq_false_iff_ne.2 hne;unfold mk1;rw[this];rcases hc with rfl | rfl | rfl<;>simp[hasZ]
theorem sg_ne{c:Int}(hc:c=83∨c=43∨c=45):sgZ c false≠sgZ c true:=by
 rcases hc with rfl | rfl | rfl<;>decide
theorem field_ne{l:List Int}(hl:IsB (pS l)∧(pS l).length≤32)(h:pN l=true)(hg:pG l=true){n:Int}(hn:(n.natAbs:Int)<tenZ (pD l).toNat)(h0:0<n):fdN l n≠fdN l (0-n):=by
 obtain⟨_,_,p3,p4,_,p6⟩:=jhu hl h n;obtain⟨_,_,_,_,_,p7⟩:=jhu hl h (0-n);have hp:=jd4 h;have hS:pS l=exZ l:=by rw[pS,if_pos (jdc h)]
 have hnp:NumP (pS l):=by rw[hS];exact jgz h
 have hsg:jdf (pS l)=1:=by
  simp only[pG,jaf,beq_iff_eq]at hg;rw[hS];exact hg.2
 have hz:¬ ∀c∈digZ n.natAbs (pD l).toNat,c=48:=fun q=>by have:=(jjk hn).1 q;omega
 have b1:fdBl (pS l) (pW l) (pD l).toNat n=false:=by
  cases e:fdBl (pS l) (pW l) (pD l).toNat n with
  | false=>rfl
  | true=>have:=jh5 e;omega
 have b2:fdBl (pS l) (pW l) (pD l).toNat (0-n)=false:=by
  cases e:fdBl (pS l) (pW l) (pD l).toNat (0-n)with
  | false=>rfl
  | true=>have:=jh5 e;omega
 have ea:(0-n).natAbs=n.natAbs:=by omega
 intro heq;rw[fdN,fdN,jgi p6,jgi p7,b1,b2,fdLe_neg,ea,jad (show¬n<0 by omega),jaa (show 0-n<0 by omega),cond_false,cond_false]at heq;have hk:pdGo (jar (pS l))=(pD l).toNat:=by omega
 have hlen:=jcn (pD l).toNat n.natAbs;have hdg:=jd8 (pD l).toNat n.natAbs;have hld:=ld_law (sp:=pS l) (w:=pW l) (k:=(pD l).toNat) (n:=n) (by omega);have hle:=le_body (w:=pW l) hk hz;obtain⟨f1,f2⟩:=jji hnp
 have hfd:fdDr (pS l)=drZ (jal (pS l)):=by
  by_cases e:drZ (jal (pS l))=0
  ·rw[f2 e,e]
  ·exact(f1 e).1
 have hd4:drZ (jal (pS l))=0∨hasZ [36,83,43,45] (drZ (jal (pS l)))=true:=(jff _ _).imp id And.left;obtain⟨t,ht,ht2⟩:=jd6 (pS l);have hms:=jhc (pS l);have hml:=jg0 (drZ (jal (pS l))) (jal (pS l)) false
 -- a firm digit with a sign
 have caseT:∀c,c=84∨c=73∨c=82→c∈jal (pS l)→False:=fun c hc hm=>by
  obtain⟨pre,suf,hb⟩:=List.append_of_mem hm;have hf:hasZ [57,89,84,73,82] c=true:=by rcases hc with rfl | rfl | rfl<;>decide
  have hmm:jar (pS l)=mkGo (drZ (jal (pS l))) false pre++100::(mkGo (drZ (jal (pS l))) ((false || (drZ (jal (pS l)) !=0&&decide (drZ (jal (pS l))∈pre))) || (drZ (jal (pS l)) !=0&&c==drZ (jal (pS l)))) suf++tmZ (pS l)):=by
   rw[hms]
   conv=>lhs;arg 1;arg 3;rw[hb]
   rw[jle,mkGo,mk1_firm hf,List.append_assoc,List.cons_append]
  have hss:pS l=pre++c::(suf++t):=by
   conv=>lhs;rw[ht,hb]
   simp
  have hq:=cel_eq heq hmm hss (jg0 _ _ _) (by decide);rw[hmm]at hld;have hno:¬((0:Int)+nv (mkGo (drZ (jal (pS l))) false pre)<fdLe (pS l) (pW l) (pD l).toNat n):=fun q=>(ld_at hld q).1 rfl
  have es:∀d:Int,(d !=0&& ((nv (mkGo (drZ (jal (pS l))) false pre):Int)==fdLe (pS l) (pW l) (pD l).toNat n-1))=false:=fun d=>by
   have:((nv (mkGo (drZ (jal (pS l))) false pre):Int)==fdLe (pS l) (pW l) (pD l).toNat n-1)=false:=beq_eq_false_iff_ne.2 (by omega);rw[this,Bool.and_false]
  rw[celZ,celZ,es,cond_false,cond_false]at hq;have hpd:=congrArg pdGo hmm;rw[jht,jet]at hpd;have h1:=jg7 (mkGo (drZ (jal (pS l))) false pre);have h2:=jg7 (mkGo (drZ (jal (pS l))) ((false || (drZ (jal (pS l)) !=0&&decide (drZ (jal (pS l))∈pre))) || (drZ (jal (pS l)) !=0&&c==drZ (jal (pS l)))) suf++tmZ (pS l));have i100:isP 100=true:=rfl;rw[i100,if_pos rfl]at hpd;exact fm_ne hc (hd_dig hdg (by omega)) hq
 -- a sign
 have caseS:∀c,c=83∨c=43∨c=45→c∈jal (pS l)→False:=fun c hc hm=>by
  by_cases hcd:c=drZ (jal (pS l))
  ·have hd0:fdDr (pS l)≠0:=by rw[hfd,←hcd];omega
   have e2:(fdDr (pS l)==0)=false:=beq_eq_false_iff_ne.2 hd0;unfold fdOK at p6;rw[b1,Bool.false_or,e2,Bool.false_or,jae,jej,jfy]at p6;rw[jj6 hd0 _ _ _ _ (by omega) (by omega),jj6 hd0 _ _ _ _ (by omega) (by omega)]at heq;have:=congrArg (fun x:List Int=>x[(fdLe (pS l) (pW l) (pD l).toNat n-1-0).toNat]?) heq;rw[List.getElem?_set_self (by rw[jfy];omega),List.getElem?_set_self (by rw[jfy];omega),hfd,←hcd]at this;exact sg_ne hc (Option.some.inj this)
  ·obtain⟨pre,suf,hb⟩:=List.append_of_mem hm
   have hmm:jar (pS l)=mkGo (drZ (jal (pS l))) false pre++115::(mkGo (drZ (jal (pS l))) ((false || (drZ (jal (pS l)) !=0&&decide (drZ (jal (pS l))∈pre))) || (drZ (jal (pS l)) !=0&&c==drZ (jal (pS l)))) suf++tmZ (pS l)):=by
    rw[hms]
    conv=>lhs;arg 1;arg 3;rw[hb]
    rw[jle,mkGo,mk1_sign hc hcd,List.append_assoc,List.cons_append]
   have hss:pS l=pre++c::(suf++t):=by
    conv=>lhs;rw[ht,hb]
    simp
   have hq:=cel_eq heq hmm hss (jg0 _ _ _) (by decide)
   have es:(fdDr (pS l) !=0&& ((nv (mkGo (drZ (jal (pS l))) false pre):Int)==fdLe (pS l) (pW l) (pD l).toNat n-1))=false:=by
    by_cases e0:drZ (jal (pS l))=0
    ·rw[hfd,e0];rfl
    ·have:=still_ne hnp (w:=pW l) hk hz hb (by omega) e0 hcd;have:((nv (mkGo (drZ (jal (pS l))) false pre):Int)==fdLe (pS l) (pW l) (pD l).toNat n-1)=false:=beq_eq_false_iff_ne.2 (by omega);rw[this,Bool.and_false]
   rw[celZ,celZ,es,cond_false,cond_false]at hq
   have hss2:∀m,cel0 (fdLe (pS l) (pW l) (pD l).toNat n) (fdFl (pS l)) (fdDr (pS l)) m 115 c (((digZ n.natAbs (pD l).toNat).drop (pdGo (mkGo (drZ (jal (pS l))) false pre)).toNat).headD 0) (nv (mkGo (drZ (jal (pS l))) false pre))=sgZ c m:=fun m=>by
    show ssZ c (fdDr (pS l)) m=sgZ c m;have e1:(c==fdDr (pS l))=false:=beq_eq_false_iff_ne.2 (by rw[hfd];exact hcd);have e2:hasZ [67,82,68,66] c=false:=by rcases hc with rfl | rfl | rfl<;>decide
    rw[ssZ,e1,e2,Bool.and_false];rfl
   rw[hss2,hss2]at hq;exact sg_ne hc hq
 unfold jdf at hsg;cases hcr:crZ (pS l)with
 | true=>
  have ht3:t=[67,82]∨t=[68,66]:=by
   rcases ht2 with⟨_,q⟩ | ⟨q,_⟩
   ·rw[hcr]at q;cases q
   ·exact q
  obtain⟨c,c2,rfl,hcc⟩:∃c c2,t=[c,c2]∧(c=67∨c=68):=by
   rcases ht3 with rfl | rfl
   ·exact⟨_,_,rfl,.inl rfl⟩
   ·exact⟨_,_,rfl,.inr rfl⟩
  have htm:tmZ (pS l)=[115,115]:=by unfold tmZ;rw[if_pos hcr]
  rw[htm]at hms;have hq:=cel_eq heq hms ht hml (by decide)
  have es:(fdDr (pS l) !=0&& ((nv (mkGo (drZ (jal (pS l))) false (jal (pS l))):Int)==fdLe (pS l) (pW l) (pD l).toNat n-1))=false:=by
   have:((nv (mkGo (drZ (jal (pS l))) false (jal (pS l))):Int)==fdLe (pS l) (pW l) (pD l).toNat n-1)=false:=beq_eq_false_iff_ne.2 (by omega);rw[this,Bool.and_false]
  rw[celZ,celZ,es,cond_false,cond_false]at hq
  have hss2:∀m,cel0 (fdLe (pS l) (pW l) (pD l).toNat n) (fdFl (pS l)) (fdDr (pS l)) m 115 c (((digZ n.natAbs (pD l).toNat).drop (pdGo (mkGo (drZ (jal (pS l))) false (jal (pS l)))).toNat).headD 0) (nv (mkGo (drZ (jal (pS l))) false (jal (pS l))))=bif m then c else 32:=fun m=>by
   show ssZ c (fdDr (pS l)) m=_
   have e1:(c==fdDr (pS l))=false:=by
    apply beq_eq_false_iff_ne.2;rw[hfd];intro q;rw[←q]at hd4;rcases hcc with rfl | rfl<;>rcases hd4 with e | e<;>exact absurd e (by decide)
   have e2:hasZ [67,82,68,66] c=true:=by rcases hcc with rfl | rfl<;>decide
   rw[ssZ,e1,e2,Bool.and_false];rfl
  rw[hss2,hss2]at hq;rcases hcc with rfl | rfl<;>exact absurd hq (by decide)
 | false=>
  rw[hcr]at hsg;have e0:b2i false=0:=rfl;have e1:b2i true=1:=rfl;rw[e0]at hsg;cases h83:hasZ (jal (pS l)) 83 with
  | true=>exact caseS 83 (by omega) (jbc.1 h83)
  | false=>
   cases h43:hasZ (jal (pS l)) 43 with
   | true=>exact caseS 43 (by omega) (jbc.1 h43)
   | false=>
    cases h45:hasZ (jal (pS l)) 45 with
    | true=>exact caseS 45 (by omega) (jbc.1 h45)
    | false=>
     rw[h83,h43,h45,e0]at hsg;by_cases c84:0<cntZ (jal (pS l)) 84
     ·exact caseT 84 (by omega) (jjp c84)
     ·by_cases c73:0<cntZ (jal (pS l)) 73
      ·exact caseT 73 (by omega) (jjp c73)
      ·exact caseT 82 (by omega) (jjp (by omega))
theorem jkh{l:List Int}(hl:IsB (pS l)∧(pS l).length≤32)(h:pN l=true){n:Int}(hn:(n.natAbs:Int)<tenZ (pD l).toNat)(hg:n<0→pG l=true):rdV l (fdN l n)=(n,0):=by
 have hlen:((fdN l n).length:Int)=pW l:=by
  obtain⟨_,_,p3,p4,_,p6⟩:=jhu hl h n;rw[fdN,jgi p6];cases fdBl (pS l) (pW l) (pD l).toNat n with
  | true=>simp[rep1];omega
  | false=>rw[cond_false,jin,pN_nv h]
 rw[rdV,if_pos h,if_pos hlen,rdA_field hl h hn];by_cases h0:0≤n
 ·have:(n.natAbs:Int)=n:=by omega
  rw[this,if_pos rfl]
 ·have e:(n.natAbs:Int)=0-n:=by omega
  have hne:=field_ne hl h (hg (by omega)) (n:=0-n) (by omega) (by omega);have e2:0-(0-n)=n:=by omega
  rw[e2]at hne;rw[e,if_neg hne,e2,if_pos ⟨hg (by omega),by omega,rfl⟩]
theorem fdN_len{l:List Int}(hl:IsB (pS l)∧(pS l).length≤32)(h:pN l=true)(n:Int):((fdN l n).length:Int)=pW l:=by
 obtain⟨_,_,p3,p4,_,p6⟩:=jhu hl h n;rw[fdN,jgi p6];cases fdBl (pS l) (pW l) (pD l).toNat n with
 | true=>simp[rep1];omega
 | false=>rw[cond_false,jin,pN_nv h]
theorem jhh(n q:Int):cuM n q q=n.natAbs:=by
 rw[cuM,if_pos (by omega),Int.sub_self];exact Int.ediv_one _
theorem cu_in{l:List Int}{n:Int}(hn:(n.natAbs:Int)<tenZ (pD l).toNat)(hg:n<0→pG l=true):cuN n (pQ l) (pQ l) (pD l) (pG l)=n∧cuF n (pQ l) (pQ l) (pD l) (pG l)=true:=by
 have e:cuV n (pQ l) (pQ l) (pD l)=n.natAbs:=by rw[cuV,jhh,Int.emod_eq_of_lt (by omega) hn]
 constructor
 ·rw[cuN,e];by_cases h0:n<0
  ·rw[if_pos ⟨h0,hg h0⟩];omega
  ·rw[if_neg (fun q=>h0 q.1)];omega
 ·rw[cuF,jhh,jaa hn,Bool.true_and];by_cases h0:n<0
  ·rw[hg h0];simp
  ·rw[jaa (show n≥0 by omega)];rfl
theorem ed_in{l:List Int}(h:pN l=true){n:Int}(hn:(n.natAbs:Int)<tenZ (pD l).toNat)(hg:n<0→pG l=true):edS l n (pQ l)=fdN l n∧edF l n (pQ l)=true∧edE l (pQ l)=0:=by
 have hp:=jd4 h;have hq:0≤pQ l∧pQ l≤9:=by omega
 obtain⟨e1,e2⟩:=cu_in hn hg;rw[edS,edF,edE,if_pos ⟨h,hq⟩,if_pos ⟨h,hq⟩,if_pos h,if_pos hq,e1,e2];exact⟨rfl,rfl,rfl⟩
theorem ho_rd{l t:List Int}(h:pN l=true):hoZ l t=decide ((rdV l t).2=0):=by
 rw[hoZ,if_pos (jdc h),if_pos h]
theorem rd_val{s t:ByteArray}(h:pN (bz s)=true):((rdV (bz s) (bz t)).1.natAbs:Int)<tenZ (pD (bz s)).toNat∧((rdV (bz s) (bz t)).1<0→pG (bz s)=true)∧((rdV (bz s) (bz t)).2=0→fdN (bz s) (rdV (bz s) (bz t)).1=bz t):=by
 obtain⟨_,u2,u3,_⟩:=gs_use (t:=t) h;have hp:=jcl (pD (bz s)).toNat;rw[rdV,if_pos h];split
 ·split
  ·rename_i h1;exact⟨by dsimp only;omega,fun q=>by dsimp only at q;omega,fun _=>h1⟩
  ·split
   ·rename_i h1;exact⟨by dsimp only;omega,fun _=>h1.1,fun _=>h1.2.2⟩
   ·exact⟨by dsimp only;omega,fun q=>by dsimp only at q;omega,fun q=>by cases q⟩
 ·exact⟨by dsimp only;omega,fun q=>by dsimp only at q;omega,fun q=>by cases q⟩
theorem fdN_isB{s:ByteArray}(n:Int):IsB (fdN (bz s) n):=jgh (jed s).1 _ _ _
theorem bz_fdN(s:ByteArray)(n:Int):bz (sz (fdN (bz s) n))=fdN (bz s) n:=jc6 (fdN_isB n)
theorem size_fdN{s:ByteArray}(h:pN (bz s)=true)(n:Int):((sz (fdN (bz s) n)).size:Int)=pW (bz s):=by
 rw[jcm,fdN_len (jed s) h n]
theorem cu_rng{l:List Int}(n q:Int):((cuN n q (pQ l) (pD l) (pG l)).natAbs:Int)=cuM n q (pQ l)%tenZ (pD l).toNat∧((cuN n q (pQ l) (pD l) (pG l)).natAbs:Int)<tenZ (pD l).toNat∧(cuN n q (pQ l) (pD l) (pG l)<0→pG l=true∧n<0):=by
 have hp:=jcl (pD l).toNat;have h1:=Int.emod_nonneg (cuM n q (pQ l)) (b:=tenZ (pD l).toNat) (by omega);have h2:=Int.emod_lt_of_pos (cuM n q (pQ l)) hp;unfold cuN cuV;split
 ·rename_i h;exact⟨by omega,by omega,fun _=>⟨h.2,h.1⟩⟩
 ·exact⟨by omega,by omega,fun q=>by omega⟩
end Go.Px
end
noncomputable section
set_option maxHeartbeats 3200000
namespace Go.Cx
open Go Go.Ab Go.Proofs Go.Shelf Go.Px Go.Cv
open Go.Fx (Ty Vl check jbd most base pw bnd Fit fits tv vv tup V0 T0 jbh jbl jbe jby str0 scl cutN cutC InB)
theorem fit0{v:Vl}{t:Ty}:fit4 v t=0↔chk4 t=0∧is4 v t=true:=by
 unfold fit4;split
 ·rename_i h;exact⟨fun q=>absurd q h,fun q=>absurd q.1 h⟩
 ·rename_i h;have h:chk4 t=0:=by simpa using h
  split
  ·rename_i g;exact⟨fun _=>⟨h,g⟩,fun _=>rfl⟩
  ·rename_i g;exact⟨fun q=>absurd q (by decide),fun q=>absurd q.2 g⟩
theorem chk_v{t:Ty}(h:chk4 t=0)(h1:t.k=1∨t.k=2):jbd t:=by
 unfold chk4 at h;split at h
 ·assumption
 ·rw[if_neg (by omega),if_neg (by omega),if_neg (by omega),if_neg (by omega)]at h;cases h
theorem chk_p{t:Ty}(h:chk4 t=0)(h1:t.k=5):vOK (bz t.s)=true:=(k5_of h (by omega) (by omega) (by omega) (by omega)).2
theorem fill_n(l:List Int)(n:Nat)(c:Int):(jfw l n c).length=n:=by
 unfold jfw;rw[List.length_append,List.length_take,List.length_replicate];omega
theorem jh4(s:ByteArray)(n c:Int):(fiU s n c).size=n.toNat:=by rw[fiU,jcx,fill_n]
theorem jks(s:ByteArray)(n c:Int)(h:n=s.size):fiU s n c=s:=by
 have e:n.toNat=(bz s).length:=by rw[jap];omega
 rw[fiU,e,fill_self,jc0,jg5]
theorem fill_bits{l:List Int}{n:Nat}(h:jcb l=true):jcb (jfw l n 48)=true:=by
 unfold jfw jcb at*;rw[List.all_append,jaf];refine⟨List.all_eq_true.2 fun x hx=>List.all_eq_true.1 h x (List.mem_of_mem_take hx),List.all_eq_true.2 fun x hx=> ?_⟩;rw[List.eq_of_mem_replicate hx];rfl
theorem ji8:∀(k:Nat)(n:Int),jcb (inB k n)=true
 | 0,_=>rfl
 | k+1,n=>by
  have:=ji8 k (n/2);unfold jcb at*;rw[inB,List.all_append,this];simp;omega
theorem bit_bits{f:Fu}(h:cuF f){s:ByteArray}(hs:bitU f=some s):jcb (bz s)=true:=by
 cases f with
 | w n t=>cases hs;rw[jdd (jko _ _)];exact ji8 _ _
 | b s'=>cases hs;exact h.1
 | c s'=>
  simp only[bitU]at hs;split at hs
  ·cases hs;assumption
  ·cases hs
 | p s' pc=>cases hs;rw[jdd (jko _ _)];exact ji8 _ _
theorem tkV_in{g:Bool}{l:List Int}{c:Int}{t:Ty}(hv:jbd t):InB (tkV g l c t).1 t:=by
 have hb:=Fx.bnd_range hv;unfold tkV InB;split
 ·constructor<;>simp<;>omega
 rename_i hn
 have hd:jbu l=true:=by
  unfold jf4 at hn;split at hn
  ·rename_i e;rw[e];rfl
  ·simp at hn;exact hn.2.1
 have hr:=jf8 (b:=bnd t) (by omega) (plcR l c t.q) 0 0 (jes hd) (by omega);unfold tkR;simp only;split<;>omega
theorem ar_fit{n:Int}{t:Ty}(hv:jbd t)(h:InB n t):is4 ⟨n,⟨#[]⟩⟩ t=true:=by
 unfold is4;rw[if_pos hv.1]
 have:fits ⟨n,⟨#[]⟩⟩ t=0:=by
  unfold fits;rw[if_pos hv,if_pos ⟨by kernel_rfl,h.1,h.2⟩]
 rw[this];rfl
theorem ji5{t:Ty}{s:ByteArray}(hk:t.k=5)(h:hoZ (bz t.s) (bz s)=true):is4 ⟨0,s⟩ t=true:=by
 unfold is4;rw[if_neg (by omega),if_neg (by omega),if_neg (by omega),if_pos hk,h];rfl
theorem bit_fit{t:Ty}{s:ByteArray}(hk:t.k=4)(h1:(s.size:Int)=t.p)(h:jcb (bz s)=true):is4 ⟨0,s⟩ t=true:=by
 unfold is4;rw[if_neg (by omega),if_neg (by omega),if_pos hk,h,jaa (show(0:Int)=0∧(s.size:Int)=t.p from⟨rfl,h1⟩)];rfl
theorem ed_ho{s:ByteArray}(h:pN (bz s)=true)(n:Int):hoZ (bz s) (bz (sz (edS (bz s) n (pQ (bz s)))))=true∧((sz (edS (bz s) n (pQ (bz s)))).size:Int)=pW (bz s):=by
 have hp:=jd4 h
 have e:edS (bz s) n (pQ (bz s))=fdN (bz s) (Px.cuN n (pQ (bz s)) (pQ (bz s)) (pD (bz s)) (pG (bz s))):=by
  rw[edS,if_pos ⟨h,by omega⟩];rfl
 obtain⟨-,c2,c3⟩:=cu_rng (l:=bz s) n (pQ (bz s));rw[e,bz_fdN,ho_rd h,jkh (jed s) h c2 (fun q=>(c3 q).1)];exact⟨rfl,size_fdN h _⟩
theorem fd0_ho{s:ByteArray}(h:pN (bz s)=true):hoZ (bz s) (bz (sz (fdN (bz s) 0)))=true:=by
 rw[bz_fdN,ho_rd h,jkh (jed s) h (by have:=jcl (pD (bz s)).toNat;simpa using this) (fun q=>absurd q (by decide))];rfl
theorem on_blank:∀(l:List Int)(k:Nat),k≤l.length→onGo l (rep1 32 k)=true
 | l,0,_=>by cases l<;>rfl
 | [],k+1,h=>by simp at h
 | c::r,k+1,h=>by
  rw[rep1,List.replicate_succ,onGo,←rep1,on_blank r k (by simpa using h)];unfold oneZ;rw[if_pos (.inr rfl)];rfl
theorem ze_ho{s:ByteArray}(h:vOK (bz s)=true):hoZ (bz s) (bz (sz (zeS (bz s))))=true∧(sz (zeS (bz s))).size≤32:=by
 unfold zeS;rw[if_pos h];have hw:=jjz (s:=s);split
 ·rename_i hn;refine⟨fd0_ho hn,?_⟩;have:=size_fdN hn 0;omega
 ·rename_i hn;have hn:pN (bz s)=false:=by simpa using hn
  have hb:IsB (rep1 32 (pW (bz s)).toNat):=fun x hx=>by rw[List.eq_of_mem_replicate hx];decide
  have hc:=pCh h hn;rw[jc6 hb,jcm,hoZ,if_pos h,hn,if_neg (by decide),on_blank _ _ (by omega),rep1,List.length_replicate];exact⟨by rw[jaa (by omega)];rfl,by omega⟩
theorem cu_fit{f:Fu}{t:Ty}(hf:cuF f)(ht:chk4 t=0)(h6:t.k≠6)(hn:(cuV f t).2.2.2=none):is4 ⟨(cuV f t).1,(cuV f t).2.1⟩ t=true∧(cuV f t).2.1.size≤2000:=by
 revert hn;unfold cuV;split
 ·rename_i h1;have hv:=chk_v ht h1;unfold cuN;split
  ·exact fun _=>⟨ar_fit hv (tkV_in hv),by show(ByteArray.mk #[]).size≤2000;decide⟩
  ·intro q;cases q
 rename_i n12;split
 ·rename_i h3;intro _;have hp:=p1000 ht (.inl h3)
  have hF:∀x:ByteArray,(x.size:Int)=t.p∨t.v=true∧(x.size:Int)<t.p→is4 ⟨0,x⟩ t=true:=fun x hx=>by
   unfold is4;rw[if_neg n12,if_pos h3];exact jaa ⟨rfl,hx⟩
  split
  ·rename_i q;exact⟨hF _ (by have:=q.2;have:=q.1;simp only[this,true_and];omega),by show(txtU f).size≤2000;omega⟩
  ·exact⟨hF _ (.inl (by rw[jh4];omega)),by show(fiU _ _ _).size≤2000;rw[jh4];omega⟩
 rename_i n3;split
 ·rename_i h4;have hp:=p1000 ht (.inr h4);show(if _ then _ else _)=none→_;split
  ·rename_i hs;intro _;obtain⟨s,hs⟩:=Option.isSome_iff_exists.1 hs;refine⟨bit_fit h4 (by rw[jh4];omega) ?_,by show(fiU _ _ _).size≤2000;rw[jh4];omega⟩;show jcb (bz (fiU _ _ _))=true;rw[bz_fi (by decide),hs];exact fill_bits (bit_bits hf hs)
  ·intro q;cases q
 rename_i n4;obtain⟨h5,hv⟩:=k5_of ht h6 n12 n3 n4;have hw:=jjz (s:=t.s);split
 ·rename_i hN;unfold cuN;split
  ·intro _;obtain⟨a,b⟩:=ed_ho hN (tkU ‹Num› (pT t.s)).1;exact⟨ji5 h5 a,by show(sz _).size≤2000;omega⟩
  ·intro q;cases q
 ·rename_i hN;have hN:pN (bz t.s)=false:=by simpa using hN
  split
  ·rename_i hh;intro _;refine⟨ji5 h5 hh,?_⟩;show(fiU _ _ _).size≤2000;rw[jh4];have:tyP (bz t.s)=pW (bz t.s):=by rw[tyP,if_pos hv,hN];rfl
   omega
  ·intro q;cases q
theorem zr_fit{t:Ty}(ht:chk4 t=0)(h3:t.k≠3)(h6:t.k≠6):is4 ⟨0,zrV t⟩ t=true∧(zrV t).size≤2000:=by
 unfold zrV;split
 ·rename_i h4;have hp:=p1000 ht (.inr h4);refine⟨bit_fit h4 (by rw[jcx,List.length_replicate];omega) ?_,by rw[jcx,List.length_replicate];omega⟩;rw[jdd fun x hx=>by rw[List.eq_of_mem_replicate hx];decide];exact List.all_eq_true.2 fun x hx=>by rw[List.eq_of_mem_replicate hx];rfl
 split
 ·rename_i h5;have:=ze_ho (chk_p ht h5);exact⟨ji5 h5 this.1,by omega⟩
 ·rename_i n4 n5
  have h1:t.k=1∨t.k=2:=by
   apply Classical.byContradiction;intro n12;exact n5 (k5_of ht h6 n12 h3 n4).1
  have hv:=chk_v ht h1;have hb:=Fx.bnd_range hv;exact⟨ar_fit hv ⟨by omega,by omega⟩,by decide⟩
theorem cu_ch{f:Fu}{t:Ty}(h:t.k=3):(cuV f t).2.2.2=none:=by
 unfold cuV;rw[if_neg (by omega),if_pos h]
theorem to_fit{v:Vl}{f t:Ty}(hF:f.s.size≤9223372036854775807)(hV:v.s.size≤9223372036854775807)(hs:v.s.size≤2000)(hv:fit4 v f=0)(ht:chk4 t=0)(h6:f.k=6↔t.k=6):fit4 ⟨(toV v f t).1,(toV v f t).2.1⟩ t=0∧(toV v f t).2.1.size≤2000:=by
 rw[fit0];unfold toV;rw[if_neg (by simp[hv]),if_neg (by simp[ht])];split
 ·rename_i h;have hf6:f.k=6:=by omega
  have ht6:t.k=6:=by omega
  rw[if_neg (by omega)];refine⟨⟨ht,?_⟩,hs⟩;have:=(fit0.1 hv).2;unfold is4 at this ⊢;rw[if_neg (by omega),if_neg (by omega),if_neg (by omega),if_neg (by omega)]at this ⊢;exact this
 ·rename_i h;have hc:=cuF_of hF hV hv;split
  ·rename_i hn;have:=cu_fit hc ht (by omega) hn;exact⟨⟨ht,this.1⟩,this.2⟩
  ·rename_i hn;have:=zr_fit ht (fun q=>hn (cu_ch q)) (by omega);exact⟨⟨ht,this.1⟩,this.2⟩
theorem tkU_num{n q:Int}{t:Ty}(hv:jbd t)(hn: -2147483648≤n∧n≤2147483648)(hq:0≤q∧q≤9):tkU (numA n q) t=(cutN (scl n (t.q-q)) t,cutC (scl n (t.q-q)) t 1,0):=by
 have hm:0≤(if n<0 then -n else n)∧(if n<0 then -n else n)≤2147483648:=by split<;>omega
 obtain⟨d1,d2⟩:=ito_digs hm;have dl:=jf2 hm;have hN:=norm_isNum (g:=decide (n<0)) (q:=q) d1 (by omega) (by omega);have hD:jbu (numA n q).2.1=true:=(jex hN).2.1;unfold tkU;rw[jdd (digs_isB hD)];exact tk_num hv hn hq
theorem jiv{n q:Int}{t:Ty}(hv:jbd t)(hq:q=t.q)(h:InB n t):tkU (numA n q) t=(n,0,0):=by
 have hb:=Fx.bnd_range hv;have hq9:=hv.2.2.2;obtain⟨h1,h2⟩:=h
 have hm:0≤t.q∧t.q≤9:=by
  obtain⟨hk,-,h4,h5,h6,h7,-⟩:=hv;unfold most at h4;rcases hk with hk | hk
  ·rw[if_pos hk]at h4;omega
  ·have:=h7 hk;omega
 rw[tkU_num hv (by omega) (by omega),hq,Int.sub_self];have e:scl n 0=n:=by unfold scl;rw[if_pos (show(0:Int)≤0 from Int.le_refl 0),jbh _ (Int.le_refl 0),Int.mul_one]
 rw[e];unfold cutN cutC;rw[if_pos ⟨h1,h2⟩,if_pos ⟨h1,h2⟩]
theorem to_id{v:Vl}{f:Ty}(hv:fit4 v f=0):toV v f f=(v.n,v.s,0,0):=by
 obtain⟨hc,hi⟩:=fit0.1 hv;unfold toV;rw[if_neg (by simp[hv]),if_neg (by simp[hc])];by_cases h6:f.k=6
 ·rw[if_pos (.inl h6),if_neg (by simp)]
 rw[if_neg (by omega)]
 have key:cuV (jcq v f) f=(v.n,v.s,0,none):=by
  unfold is4 at hi;by_cases h1:f.k=1∨f.k=2
  ·have hV:=chk_v hc h1;rw[if_pos h1]at hi
   have hF:Fit v f:=by
    unfold fits at hi;rw[if_pos hV]at hi;split at hi
    ·assumption
    ·cases hi
   have hs:v.s=⟨#[]⟩:=bz_inj (by have:=hF.1;rw[ByteArray.toList_eq]at this;show v.s.data.toList.map _=_;rw[this];rfl);unfold jcq;rw[if_pos h1,cuV,if_pos h1,cuN,numU];simp only;rw[jiv hV rfl ⟨hF.2.1,hF.2.2⟩,hs]
  rw[if_neg h1]at hi;by_cases h3:f.k=3
  ·rw[if_pos h3]at hi;have hi:=jab hi;unfold jcq;rw[if_neg h1,if_neg (by omega),if_neg (by omega),cuV,if_neg h1,if_pos h3];split
   ·rw[hi.1];rfl
   ·rename_i q
    have:(v.s.size:Int)=f.p:=by
     rcases hi.2 with h | h
     ·exact h
     ·exact absurd ⟨h.1,by show¬(v.s.size:Int)>f.p;omega⟩ q
    show((0:Int),fiU v.s f.p 32,(0:Int),(none:Option ByteArray))=_;rw[jks _ _ _ this.symm,hi.1]
  rw[if_neg h3]at hi;by_cases h4:f.k=4
  ·rw[if_pos h4,jaf]at hi;have hi1:=jab hi.1;unfold jcq;rw[if_neg h1,if_pos h4,cuV,if_neg h1,if_neg h3,if_pos h4];show((0:Int),fiU v.s f.p 48,(0:Int),(none:Option ByteArray))=_;rw[jks _ _ _ hi1.2.symm,hi1.1]
  rw[if_neg h4]at hi;obtain⟨h5,hk⟩:=k5_of hc h6 h1 h3 h4;rw[if_pos h5,jaf]at hi;have h0:v.n=0:=jab hi.1;have hh:=hi.2;unfold jcq;rw[if_neg h1,if_neg h4];by_cases hN:pN (bz f.s)=true
  ·rw[if_pos ⟨h5,hN⟩,cuV,if_neg h1,if_neg h3,if_neg h4,if_pos hN,cuN,numU];obtain⟨r1,r2,r3⟩:=rd_val (t:=v.s) hN;rw[ho_rd hN]at hh;have r3:=r3 (jab hh);obtain⟨p1,-,-⟩:=pT_v hN
   have hI:InB (rdV (bz f.s) (bz v.s)).1 (pT f.s):=by
    have e:bnd (pT f.s)=tenZ (pD (bz f.s)).toNat:=by
     have ek:tyK (bz f.s)=1∧tyP (bz f.s)=pD (bz f.s):=by
      unfold tyK tyP;rw[if_pos hk,if_pos hk,if_pos hN,if_pos hN];exact⟨rfl,rfl⟩
     unfold bnd;show pw (base (tyK (bz f.s))) (tyP (bz f.s))=_;rw[ek.1,ek.2];rfl
    unfold InB;rw[e];omega
   simp only;rw[jiv p1 rfl hI];obtain⟨e1,e2,-⟩:=ed_in hN r1 r2;simp only[e1,e2,r3,jg5,if_true,h0]
  ·have hN':pN (bz f.s)=false:=by simpa using hN
   rw[if_neg (fun q=>hN q.2),cuV,if_neg h1,if_neg h3,if_neg h4,if_neg hN]
   have hw:((v.s.size:Nat):Int)=pW (bz f.s):=by
    have:=hh;rw[hoZ,if_pos hk,if_neg hN,jaf]at this;have:=jab this.1;rwa [jap]at this
   have et:tyP (bz f.s)=pW (bz f.s):=by rw[tyP,if_pos hk,if_neg hN]
   have e:fiU (txtU (.c v.s)) (tyP (bz f.s)) 32=v.s:=by
    show fiU v.s _ _=_;exact jks _ _ _ (by omega)
   rw[e,if_pos hh,h0]
 rw[key,if_pos rfl]
end Go.Cx
end
noncomputable section
set_option maxHeartbeats 3200000
namespace Go.Cx
open Go Go.Ab Go.Proofs Go.Shelf Go.Px Go.Cv
open Go.Fx (Ty Vl check jbd most base pw bnd Fit fits tv vv tup V0 T0 jbh jbl jbe jby str0)
def s9(v:Vl)(f t:Ty):Bool×Value:=(decide (toC v f t),B true)
theorem ok9:jan Tryz.prog 9 (sp3 s9):=by
 refine jg6 ok_QB hmix fn9 jai jag fun v f t hc=> ?_
 rw[ja2,v9t];delta qf8 qb8 qgq qcs qfo qet qf5 qg7 qek qgr qbv qei qg2;have hC:toC v f t:=jab hc;have⟨hT,hF,hV⟩:=hC;refine c_t (by rw[jaa (show f.s.size≤9223372036854775807∧v.s.size≤9223372036854775807 from⟨hF,hV⟩),jaa hT];simp) ?_;refine cond_intro (fun _=>rfl) (fun h=> ?_);simp only[Bool.or_eq_false_iff,Bool.not_eq_false',jaf,jae,beq_iff_eq,bne_eq_false_iff_eq,jim,jka]at h;obtain⟨⟨⟨hfs,hvs⟩,hv⟩,hts,ht⟩:=h;have hid:=to_id hv;simp only[toH_eq,hid];refine c_t (jaa ⟨hF,hF,hV⟩) (c_f (by simp) (c_t (jaa hC) ?_));have he:=to_err hv ht;apply cond_intro<;>intro h6
 ·have h6:¬((f.k=6)=(t.k=6)):=by
   intro q;have:(f.k==6)=(t.k==6):=by rw[Bool.eq_iff_iff,beq_iff_eq,beq_iff_eq,q]
   rw[this]at h6;simp at h6
  rw[he,if_neg h6];rfl
 ·have h6:f.k=6↔t.k=6:=by
   have h6:(f.k==6)=(t.k==6):=by
    cases a:(f.k==6) <;>cases b:(t.k==6) <;>simp[a,b]at h6 ⊢
   rw[←beq_iff_eq,h6,beq_iff_eq]
  rw[if_pos (propext h6)]at he;obtain⟨g1,g2⟩:=to_fit hF hV hvs hv ht h6;have hcc:=to_c v f t;have d1:decide (t.s.size≤9223372036854775807∧(toV v f t).2.1.size≤9223372036854775807)=true:=jaa ⟨hT,by omega⟩;have d2:decide (t.s.size≤200∧(toV v f t).2.1.size≤2000)=true:=jaa ⟨by omega,g2⟩
  have d3:((toV v f t).2.2.1==0 || ((toV v f t).2.2.1==4 || (toV v f t).2.2.1==1))=true:=by
   rcases hcc with h | h | h<;>rw[h] <;>rfl
  rw[jim,g1,he,d1,d2];refine c_t (by simp) ?_;show Value.bool _=Value.bool true;rw[d3];rfl
end Go.Cx
end
noncomputable section
set_option maxHeartbeats 3200000
namespace Go.Cx
open Go Go.Ab Go.Proofs Go.Shelf Go.Px Go.Cv
open Go.Fx (Ty Vl check jbd most base pw bnd Fit fits tv vv tup V0 T0 jbh jbl jbe jby str0 scl cutN cutC InB)
theorem jk8{p:ByteArray}(h:pN (bz p)=true):tyK (bz p)=1∧tyP (bz p)=pD (bz p):=by
 have hk:=jdc h;unfold tyK tyP;rw[if_pos hk,if_pos hk,if_pos h,if_pos h];exact⟨rfl,rfl⟩
theorem bnd_pic{p:ByteArray}(h:pN (bz p)=true):bnd (pT p)=tenZ (pD (bz p)).toNat:=by
 unfold bnd;show pw (base (tyK (bz p))) (tyP (bz p))=_;rw[(jk8 h).1,(jk8 h).2];rfl
abbrev pcT(p:ByteArray):Ty:=⟨5,0,0,false,p⟩
theorem chk_pc{p:ByteArray}(h:pN (bz p)=true):chk4 (pcT p)=0:=by
 unfold chk4;rw[if_neg (fun q=>by have:=q.1;simp at this),if_neg (fun q=>by have:=q.1;simp at this),if_neg (fun q=>by have:=q.1;simp at this),if_pos ⟨rfl,rfl,rfl,rfl,by rw[pE,if_pos (jdc h)]⟩]
theorem chk_ar{t:Ty}(h:jbd t):chk4 t=0:=by unfold chk4;rw[if_pos h]
theorem to_pic{v:Vl}{f:Ty}{p:ByteArray}(hv:fit4 v f=0)(hk:f.k=1∨f.k=2)(hp:pN (bz p)=true):
  ∃c,toV v f (pcT p)=(0,sz (edS (bz p) (cutN (scl v.n (pQ (bz p)-f.q)) (pT p)) (pQ (bz p))),c,0)∧(c=0∨c=1)∧
   (c=0→InB (scl v.n (pQ (bz p)-f.q)) (pT p)∧edF (bz p) (scl v.n (pQ (bz p)-f.q)) (pQ (bz p))=true):=by
 obtain⟨hc,hi⟩:=fit0.1 hv;have hV:=chk_v hc hk
 have hF:Fit v f:=by
  unfold is4 at hi;rw[if_pos hk]at hi;unfold fits at hi;rw[if_pos hV]at hi;split at hi
  ·assumption
  ·cases hi
 have hb:=Fx.bnd_range hV
 have hq:0≤f.q∧f.q≤9:=by
  obtain⟨hk,-,h4,h5,h6,h7,-⟩:=hV;unfold most at h4;rcases hk with hk | hk
  ·rw[if_pos hk]at h4;omega
  ·have:=h7 hk;omega
 obtain⟨-,g1,g2⟩:=hF;have hx:=tkU_num (n:=v.n) (q:=f.q) (t:=pT p) (pT_v hp).1 (by omega) hq
 have e:cuV (.w v.n f) (pcT p)=(0,sz (edS (bz p) (cutN (scl v.n (pQ (bz p)-f.q)) (pT p)) (pQ (bz p))),if edF (bz p) (cutN (scl v.n (pQ (bz p)-f.q)) (pT p)) (pQ (bz p))=true then cutC (scl v.n (pQ (bz p)-f.q)) (pT p) 1 else 1,none):=by
  unfold cuV;rw[if_neg (by show¬((5:Int)=1∨(5:Int)=2);decide),if_neg (by show¬(5:Int)=3;decide),if_neg (by show¬(5:Int)=4;decide),if_pos hp,cuN,numU];simp only;rw[hx]
 refine⟨if edF (bz p) (cutN (scl v.n (pQ (bz p)-f.q)) (pT p)) (pQ (bz p))=true then cutC (scl v.n (pQ (bz p)-f.q)) (pT p) 1 else 1,?_,?_,?_⟩
 ·have ef:jcq v f= .w v.n f:=if_pos hk;unfold toV;rw[if_neg (by simp[hv]),if_neg (by simp[chk_pc hp]),if_neg (fun h=>h.elim (fun h=>by omega) (fun h=>absurd h (by show¬(5:Int)=6;decide))),ef,e,if_pos rfl]
 ·split
  ·unfold cutC;split<;>simp
  ·exact .inr rfl
 ·split
  ·rename_i hE;unfold cutC;split
   ·rename_i hI;unfold cutN at hE;rw[if_pos hI]at hE;exact fun _=>⟨hI,hE⟩
   ·intro q;cases q
  ·intro q;cases q
theorem edF_sg{l:List Int}{n:Int}(h:pN l=true)(hE:edF l n (pQ l)=true):n<0→pG l=true:=by
 have hp:=jd4 h;rw[edF,if_pos ⟨h,by omega⟩]at hE;unfold Px.cuF at hE;intro h0;cases hg:pG l with
 | true=>rfl
 | false=>
  rw[jaf]at hE;have h1:=jab hE.1;rw[jhh]at h1;have e:Px.cuV n (pQ l) (pQ l) (pD l)=n.natAbs:=by rw[Px.cuV,jhh,Int.emod_eq_of_lt (by omega) h1]
  have h2:=hE.2;rw[hg,e,Bool.false_or,Bool.or_eq_true]at h2;rcases h2 with h2 | h2
  ·have:=jab h2;omega
  ·have:=eq_of_beq h2;omega
theorem pic_back{p:ByteArray}{m:Int}(hp:pN (bz p)=true)(hI:InB m (pT p))(hE:edF (bz p) m (pQ (bz p))=true)(hs:p.size≤200):
  toV ⟨0,sz (edS (bz p) m (pQ (bz p)))⟩ (pcT p) (pT p)=(m,⟨#[]⟩,0,0):=by
 have hn:(m.natAbs:Int)<tenZ (pD (bz p)).toNat:=by
  rw[←bnd_pic hp];obtain⟨h1,h2⟩:=hI;omega
 have hg:=edF_sg hp hE;obtain⟨e1,-,-⟩:=ed_in hp hn hg;have hr:=jkh (jed p) hp hn hg;rw[e1];have hf:fit4 ⟨0,sz (fdN (bz p) m)⟩ (pcT p)=0:=fit0.2 ⟨chk_pc hp,ji5 rfl (by rw[bz_fdN];show hoZ (bz p) _=true;rw[ho_rd hp,hr];rfl)⟩;have hT:=(pT_v hp).1
 have ef:jcq ⟨0,sz (fdN (bz p) m)⟩ (pcT p)= .p (sz (fdN (bz p) m)) p:=by
  unfold jcq;rw[if_neg (by show¬((5:Int)=1∨(5:Int)=2);decide),if_neg (by show¬(5:Int)=4;decide),if_pos ⟨rfl,hp⟩]
 unfold toV;rw[if_neg (by simp[hf]),if_neg (by simp[chk_ar hT]),if_neg (fun h=>h.elim (fun h=>absurd h (by show¬(5:Int)=6;decide)) (fun h=>absurd h (by show¬tyK (bz p)=6;rw[(jk8 hp).1];decide))),ef]
 have e:cuV (.p (sz (fdN (bz p) m)) p) (pT p)=(m,⟨#[]⟩,0,none):=by
  unfold cuV;rw[if_pos (.inl (jk8 hp).1),cuN,numU];simp only;rw[bz_fdN,hr,jiv hT rfl hI]
 rw[e,if_pos rfl]
end Go.Cx
end
noncomputable section
set_option maxHeartbeats 3200000
namespace Go.Cx
open Go Go.Ab Go.Proofs Go.Shelf Go.Px Go.Cv
open Go.Fx (Ty Vl check jbd most base pw bnd Fit fits tv vv tup V0 T0 jbh jbl jbe jby str0)
instance tabsA2:Tabs:=tabs
theorem mul_rng{n p:Int}(h: -2147483648≤n∧n≤2147483648)(hp:0≤p∧p≤9): -9223372036854775808≤n*pw 10 p∧n*pw 10 p≤9223372036854775807:=by
 have tab:∀k:Nat,k<10→(1:Int)≤10^k∧(10:Int) ^k≤1000000000:=by decide
 obtain⟨h1,h2⟩:=tab p.toNat (by omega);unfold pw;generalize (10:Int) ^p.toNat=m at*;have a1: -2147483648*m≤n*m:=Int.mul_le_mul_of_nonneg_right h.1 (by omega);have a2:n*m≤2147483648*m:=Int.mul_le_mul_of_nonneg_right h.2 (by omega);omega
theorem tdiv_rng{n m:Int}(hm:1≤m)(h: -2147483648≤n∧n≤2147483648): -9223372036854775808≤n.tdiv m∧n.tdiv m≤9223372036854775807:=by
 have key:∀k:Int,0≤k→0≤k.tdiv m∧k.tdiv m≤k:=fun k hk=>by
  rw[Int.tdiv_eq_ediv_of_nonneg hk];exact⟨Int.ediv_nonneg hk (by omega),Int.ediv_le_self _ hk⟩
 by_cases h0:0≤n
 ·have:=key n h0;omega
 ·have:=key (-n) (by omega);rw[Int.neg_tdiv]at this;omega
theorem scl_r{n d:Int}(h: -2147483648≤n∧n≤2147483648)(hd: -9≤d∧d≤9): -4000000000000000000≤Fx.scl n d∧Fx.scl n d≤4000000000000000000:=by
 unfold Fx.scl;have hp:=Fx.pw_pos (b:=10) (by omega) (-d);split
 ·have tab:∀k:Nat,k<10→(1:Int)≤10^k∧(10:Int) ^k≤1000000000:=by decide
  obtain⟨h1,h2⟩:=tab d.toNat (by omega);unfold pw;generalize (10:Int) ^d.toNat=m at*;have a1: -2147483648*m≤n*m:=Int.mul_le_mul_of_nonneg_right h.1 (by omega);have a2:n*m≤2147483648*m:=Int.mul_le_mul_of_nonneg_right h.2 (by omega);omega
 ·have key:∀k:Int,0≤k→0≤k.tdiv (pw 10 (-d))∧k.tdiv (pw 10 (-d))≤k:=fun k hk=>by
   rw[Int.tdiv_eq_ediv_of_nonneg hk];exact⟨Int.ediv_nonneg hk (by omega),Int.ediv_le_self _ hk⟩
  by_cases h0:0≤n
  ·have:=key n h0;omega
  ·have:=key (-n) (by omega);rw[Int.neg_tdiv]at this;omega
def s132:Ab.Spec:=fun args bs=>match args,bs with
 | [.slice (some ⟨_,0,some 1⟩) 2 cap],[some ⟨[.int .i64 x,.int .i64 y],ty,own⟩]=>some (true,I (Fx.fst2 x y))
 | _,_=>none
theorem fn132:Fn1 Tryz.prog 132 Tryz.f132:= .m Tryz.func132
theorem v132_0(x:Int)(y:Int)(cap:Nat)(ty:TypeId)(own:Bool)(R:Value→Prop):bodyR Tryz.prog K3 noL Tryz.f132 [.slice (some ⟨0,0,some 1⟩) 2 cap] (jit [some ⟨[I x,I y],ty,own⟩]) 1 (fun v _ _=>R v)=(bif qfu 0 (natO 2)then bif x !=0 then R (qbk x)else bif qfu 1 (natO 2)then bif y !=0 then R (qbk y)else bif qfu 2 (natO 2)then False else R (qbk 0)else R (qbk 0)else R (qbk 0)):=by kernel_rfl
theorem k132_0(x:Int)(y:Int)(cap:Nat)(ty:TypeId)(own:Bool)(hc:(true)=true):DoesV Tryz.prog K3 noL Tryz.f132 [.slice (some ⟨0,0,some 1⟩) 2 cap] [some ⟨[I x,I y],ty,own⟩] 1 (I (Fx.fst2 x y)):=by
 rw[DoesV,v132_0];delta qbk qfu;simp only[jb4]
 repeat' apply cond_intro<;>intro h
 all_goals grind [Fx.fst2]
theorem ok132:jan Tryz.prog 132 s132:=by
 refine pure_view ok_K3 hmix fn132 jai fun args bs v hs=> ?_
 simp only[s132]at hs;split at hs
 ·simp only[Option.some.injEq,Prod.mk.injEq]at hs;obtain⟨hc,rfl⟩:=hs;exact⟨_,1,rfl,rfl,jag,k132_0 _ _ _ _ _ (by first | rfl | exact hc)⟩
 ·cases hs
def s134(n:Int)(q:Int)(o:Int):Bool×Value:=(decide (0≤q∧q≤9∧0≤o∧o≤9∧ -2147483648≤n∧n≤2147483648),I (Fx.scl n (o-q)))
theorem fn134:Fn1 Tryz.prog 134 Tryz.f134:= .m Tryz.func134
theorem v134(n:Int)(q:Int)(o:Int)(R:Value→Prop):ja1 Tryz.prog K3 noL Tryz.f134 [Enc.enc n,Enc.enc q,Enc.enc o] (fun _=>none) 0 (fun v _ _=>R v)=(bif decide (o≥q)then bif qbm (qdu o q) 19&&jbt .i64 Fx.tensL (qdu o q).toNat then qeo (n*jau Fx.tensL (qdu o q).toNat) R else False else qhh (qbm (qdu q o) 19) (jbt .i64 Fx.tensL (qdu q o).toNat) (decide (jau Fx.tensL (qdu q o).toNat≠0)) (qeo (n.tdiv (jau Fx.tensL (qdu q o).toNat)) R) False):=by kernel_rfl
theorem ok134:jan Tryz.prog 134 (sp3 s134):=by
 refine jg6 ok_K3 hmix fn134 jai jag fun n q o hc=> ?_
 rw[ja2,v134];delta qhh qfx qeo qdu qbm;have hc:(0≤q∧q≤9∧0≤o∧o≤9∧ -2147483648≤n∧n≤2147483648):=jab hc
 try dsimp only[s134]
 by_cases hq:q≤o
 ·have t1:=Fx.tens_at (p:=o-q) (by omega) (by omega);have hs:Fx.scl n (o-q)=n*pw 10 (o-q):=if_pos (by omega);have hb:=mul_rng (n:=n) (p:=o-q) (by omega) (by omega);refine c_t (jaa (by omega)) ?_;rw[Fx.w64 (n:=o-q) (by omega),hs,t1.1,t1.2,Fx.w64 hb];exact c_t (by rw[jaa (show 0≤o-q∧o-q<19 by omega)];rfl) rfl
 ·have t1:=Fx.tens_at (p:=q-o) (by omega) (by omega)
  have hs:Fx.scl n (o-q)=n.tdiv (pw 10 (q-o)):=by
   rw[Fx.scl,if_neg (by omega),show -(o-q)=q-o by omega]
  have hp:=Fx.pw_pos (b:=10) (by omega) (q-o);refine c_f (jad (by omega)) ?_;rw[Fx.w64 (n:=q-o) (by omega),hs,t1.1,t1.2];refine c_t (by rw[jaa (show 0≤q-o∧q-o<19 by omega)];rfl) (c_t (jaa (by omega)) ?_);rw[Fx.w64 (tdiv_rng hp (by omega))]
def s133(n:Int)(t:Ty)(c:Int):Bool×Value:=(decide (jbd t∧ -4000000000000000000≤n∧n≤4000000000000000000),.tuple ⟨[.agg ⟨[I (Fx.cutN n t),S ⟨#[]⟩]⟩,I (Fx.cutC n t c)]⟩)
theorem fn133:Fn1 Tryz.prog 133 Tryz.f133:= .m Tryz.func133
theorem v133(n:Int)(t:Ty)(c:Int)(R:Value→Prop):ja1 Tryz.prog K3 noL Tryz.f133 [Enc.enc n,Enc.enc t,Enc.enc c] (fun _=>none) 0 (fun v _ _=>R v)=(bif decide (Fx.jbd t)then qdn (decide (n>qe5 0 (Fx.bnd t))) true (decide (n>qe5 0 (Fx.bnd t)) &&qfu n (Fx.bnd t)) (R (qgy [.agg ⟨[qbk n,qfr]⟩,qbk 0])) (qgf (decide (Fx.bnd t≠0)) (qgy [.agg ⟨[I (n.tmod (Fx.bnd t)),qfr]⟩,qbk c]) R)else False):=by kernel_rfl
theorem ok133:jan Tryz.prog 133 (sp3 s133):=by
 refine jg6 ok_K3 hmix fn133 jai jag fun n t c hc=> ?_
 rw[ja2,v133];delta qdn qgf qgy qbk qgh qfr qfu qe5;have hc:(jbd t∧ -4000000000000000000≤n∧n≤4000000000000000000):=jab hc
 try dsimp only[s133]
 obtain⟨hv,h1,h2⟩:=hc;have br:=Fx.bnd_range hv;rw[Fx.w64 (n:=0-bnd t) (by omega)];refine c_t (jaa hv) (c_t (Bool.or_true _) ?_);unfold Fx.cutN Fx.cutC;by_cases hi:Fx.InB n t
 ·have h3: -bnd t<n∧n<bnd t:=hi;rw[if_pos hi,if_pos hi];exact c_t (by rw[jaa (show n>0-bnd t by omega),jaa h3.2];rfl) rfl
 ·have h3:¬(-bnd t<n∧n<bnd t):=hi;rw[if_neg hi,if_neg hi];refine c_f ?_ (c_t (jaa (by omega)) rfl);rw[Bool.and_eq_false_iff,decide_eq_false_iff_not,decide_eq_false_iff_not];omega
def A1:Env:=((((Env.nil.add 66 (sp1 s66)).add 70 (sp2 s70)).add 132 s132).add 134 (sp3 s134)).add 133 (sp3 s133)
theorem ok_A1:jax Tryz.prog A1:=jaj (jaj (jaj (jaj (jaj jao ok66) ok70) ok132) ok134) ok133
def s57(v:Vl)(f:Ty)(t:Ty):Bool×Value:=(decide (Fx.fits v f=0∧jbd t),.tuple ⟨[.agg ⟨[I (Fx.cutN (Fx.scl v.n (t.q-f.q)) t),S ⟨#[]⟩]⟩,I (Fx.cutC (Fx.scl v.n (t.q-f.q)) t 1),I 0]⟩)
theorem fn57:Fn1 Tryz.prog 57 Tryz.f57:= .m Tryz.func57
def qga(c:Fx.Ty)(a:Fx.Vl)(b:Int):Int:=Fx.scl (Fx.Vl.n a) (b-Fx.Ty.q c)
theorem v57(v:Vl)(f:Ty)(t:Ty)(R:Value→Prop):ja1 Tryz.prog A1 noL Tryz.f57 [Enc.enc v,Enc.enc f,Enc.enc t] (fun _=>none) 0 (fun v _ _=>R v)=(bif Fx.fst2 (Fx.fits v f) (Fx.check t) !=0 then R (qgy [.agg ⟨[qbk 0,qfr]⟩,qbk 0,I (Fx.fst2 (Fx.fits v f) (Fx.check t))])else bif decide (0≤Fx.Ty.q f∧Fx.Ty.q f≤9∧0≤Fx.Ty.q t∧Fx.Ty.q t≤9∧ -(2147483648:Int)≤Fx.Vl.n v∧Fx.Vl.n v≤2147483648)then qgf (qds t 4000000000000000000 (qga f v (Fx.Ty.q t))) (qgy (qd9 (Fx.cutN (qga f v (Fx.Ty.q t)) t) (Fx.cutC (qga f v (Fx.Ty.q t)) t 1))) R else False):=by kernel_rfl
theorem ok57:jan Tryz.prog 57 (sp3 s57):=by
 refine jg6 ok_A1 hmix fn57 jai jag fun v f t hc=> ?_
 rw[ja2,v57];delta qgf qgy qbk qgh qfr qd9 qga qds;have hc:(Fx.fits v f=0∧jbd t):=jab hc
 try dsimp only[s57]
 obtain⟨hf,ht⟩:=hc
 have hv:jbd f:=by
  unfold Fx.fits at hf;split at hf
  ·assumption
  ·cases hf
 have hn: -bnd f<v.n∧v.n<bnd f:=by
  unfold Fx.fits at hf;rw[if_pos hv]at hf;split at hf
  ·rename_i h;exact h.2
  ·cases hf
 have br:=Fx.bnd_range hv;obtain⟨v1,v2,v3,v4,v5⟩:=Fx.valid_r hv;obtain⟨u1,u2,u3,u4,u5⟩:=Fx.valid_r ht;refine c_f (by rw[hf,Fx.fst2,Fx.check,if_pos ht];rfl) (c_t (jaa (by omega)) (c_t (jaa ⟨ht,scl_r (by omega) (by omega)⟩) rfl))
instance tabsU16:Tabs:=tabs
def s49(t:Ty):Bool×Value:=(true,B (decide (t.k=1∨t.k=2)))
theorem fn49:Fn1 Tryz.prog 49 Tryz.f49:= .m Tryz.func49
theorem v49(t:Ty)(R:Value→Prop):ja1 Tryz.prog QB noL Tryz.f49 [Enc.enc t] (fun _=>none) 0 (fun v _ _=>R v)=(bif t.k==1 || true then R (B (t.k==1 || t.k==2))else False):=by kernel_rfl
theorem ok49:jan Tryz.prog 49 (sp1 s49):=by
 refine jb9 ok_QB hmix fn49 jai jag fun t hc=> ?_
 rw[ja2,v49]
 try dsimp only[s49]
 refine c_t (Bool.or_true _) ?_;congr 1;rw[Bool.eq_iff_iff];simp
def s60(p:ByteArray):Bool×Value:=(true,.agg ⟨[I 5,I 0,I 0,B false,S p]⟩)
theorem fn60:Fn1 Tryz.prog 60 Tryz.f60:= .m Tryz.func60
theorem v60(p:ByteArray)(R:Value→Prop):ja1 Tryz.prog QB noL Tryz.f60 [Enc.enc p] (fun _=>none) 0 (fun v _ _=>R v)=(R (.agg ⟨[qbk 5,qbk 0,qbk 0,B false,S p]⟩)):=by kernel_rfl
theorem ok60:jan Tryz.prog 60 (sp1 s60):=by
 refine jb9 ok_QB hmix fn60 jai jag fun p hc=> ?_
 rw[ja2,v60];delta qbk
 try dsimp only[s60]
def Q16:Env:=(((((((((Env.nil.add 18 (sp0 Cs.s18)).add 21 (sp1 z20)).add 34 (sp3 s34h)).add 47 (sp2 s47)).add 48 (sp5 s48)).add 60 (sp1 s60)).add 49 (sp1 s49)).add 57 (sp3 s57)).add 59 (sp1 s31)).add 61 (sp1 s46)
theorem ok_Q16:jax Tryz.prog Q16:=jaj (jaj (jaj (jaj (jaj (jaj (jaj (jaj (jaj (jaj jao Cs.ok18) (z20_eq2▸ok21)) (s34h_eq▸ok34u)) ok47) ok48) Cx.ok60) Cx.ok49) Cx.ok57) ok31) ok46
def s16(v:Vl)(f:Ty)(p:ByteArray):Bool×Value:=(decide (f.s.size≤9223372036854775807∧v.s.size≤9223372036854775807∧p.size≤9223372036854775807),B true)
theorem fn16:Fn1 Tryz.prog 16 Tryz.f16:= .m Tryz.func16
def qdl(a:ByteArray):Fx.Ty:=Fx.Ty.mk 5 0 0 false a
theorem v16(v:Vl)(f:Ty)(p:ByteArray)(R:Value→Prop):ja1 Tryz.prog Q16 noL Tryz.f16 [Enc.enc v,Enc.enc f,Enc.enc p] (fun _=>none) 0 (fun v _ _=>R v)=(qcs (decide (Fx.Ty.k f=1∨Fx.Ty.k f=2)) (decide (qfq p>200) || qei p&& (!pN (bz p) || qei p&&true)) (decide (qfq p>200) || (!pN (bz p) || ckT (qdl p) !=0)) (qei p) (decide (toC v f (qdl p))) f v (qdn (pE (bz p) !=0) ((qet f (qdl p) v).snd !=0 || ((qet f (qdl p) v).fst !=0 || true)) (pE (bz p) !=0 || ((qet f (qdl p) v).snd !=0 || (qet f (qdl p) v).fst !=0&& (qet f (qdl p) v).fst !=1)) (qgr R) (bif (qet f (qdl p) v).fst !=0 then R (B true)else bif decide (Fx.fits v f=0∧Fx.jbd (qdb p))then qfo (Fx.cutC (qga f v (pQ (bz p))) (qdb p) 1==0) (decide (toC (qf5 f (qdl p) v) (qdl p) (qdb p)) &&true) (B (0==0&& (Fx.cutC (qga f v (pQ (bz p))) (qdb p) 1==0&&qbv qgh (qdl p) (qdb p) (qf5 f (qdl p) v) (Fx.cutN (qga f v (pQ (bz p))) (qdb p))))) R else False)) False R):=by kernel_rfl
theorem ok16:jan Tryz.prog 16 (sp3 s16):=by
 refine jg6 ok_Q16 hmix fn16 jai jag fun v f p hc=> ?_
 rw[ja2,v16];delta qf8 qb8 qgq qcs qdn qfo qet qbv qgh qdb qga qf5 qdl qgr qei qfq;have hc:(f.s.size≤9223372036854775807∧v.s.size≤9223372036854775807∧p.size≤9223372036854775807):=jab hc
 try dsimp only[s16]
 obtain⟨hF,hV,hp⟩:=hc;refine c_t (by rw[jaa (show f.s.size≤9223372036854775807∧v.s.size≤9223372036854775807 from⟨hF,hV⟩),jaa hp];simp) ?_;refine cond_intro (fun _=>rfl) (fun h=> ?_);simp only[Bool.or_eq_false_iff,Bool.not_eq_false',jaf,jae,decide_eq_false_iff_not,beq_iff_eq,bne_eq_false_iff_eq,jim,jka]at h;obtain⟨⟨-,hv⟩,hk,hps,hN,-⟩:=h;obtain⟨c,e1,e2,e3⟩:=to_pic hv hk hN;have e1:toV v f ⟨5,0,0,false,p⟩=_:=e1;simp only[toH_eq,e1];have hE:pE (bz p)=0:=by rw[pE,if_pos (jdc hN)]
 have d1:toC v f ⟨5,0,0,false,p⟩:=⟨hp,hF,hV⟩
 have d2:(pE (bz p) !=0 || ((0:Int) !=0 || c !=0&&c !=1))=false:=by rw[hE];rcases e2 with h | h<;>rw[h] <;>rfl
 refine c_t (jaa hp) (c_t (jaa d1) (c_t (by rw[hE];simp) (c_f d2 (cond_intro (fun _=>by trivial) (fun hc0=> ?_)))));have c0:c=0:=by simpa using hc0
 obtain⟨hI,hEd⟩:=e3 c0;have hT:=(pT_v hN).1
 have hft:fits v f=0:=by
  have:=(fit0.1 hv).2;unfold is4 at this;rw[if_pos hk]at this;simpa using this
 have eN:Fx.cutN (Fx.scl v.n (pQ (bz p)-f.q)) (pT p)=Fx.scl v.n (pQ (bz p)-f.q):=if_pos hI;have eC:Fx.cutC (Fx.scl v.n (pQ (bz p)-f.q)) (pT p) 1=0:=if_pos hI;have hb:=pic_back hN hI hEd (by omega);have hb:toV ⟨0,sz (edS (bz p) (Fx.scl v.n (pQ (bz p)-f.q)) (pQ (bz p)))⟩ ⟨5,0,0,false,p⟩ (pT p)=_:=hb
 have hz:(sz (edS (bz p) (Fx.scl v.n (pQ (bz p)-f.q)) (pQ (bz p)))).size≤9223372036854775807:=by
  have h1:=(ed_ho hN (Fx.scl v.n (pQ (bz p)-f.q))).2;have h2:=jjz (s:=p);omega
 rw[eN,eC,hb];have d3:toC ⟨0,sz (edS (bz p) (Fx.scl v.n (pQ (bz p)-f.q)) (pQ (bz p)))⟩ ⟨5,0,0,false,p⟩ (pT p):=⟨by show(ByteArray.mk #[]).size≤_;decide,hp,hz⟩
 exact c_t (jaa ⟨hft,hT⟩) (c_t (by rw[jaa d3];rfl) (by simp))
end Go.Cx
end
noncomputable section
namespace Go.Px
open Go Go.Proofs
open Go.Proofs.YtpflidodnhbeoaaGreatDoor
theorem q_laid:laidOutB Tryz.prog=true:=by kernel_rfl
theorem q_maps:mapsRowed Tryz.prog=true:=by kernel_rfl
theorem q_stop:(Tryz.prog.stops==[])=true:=by kernel_rfl
theorem q_knob:(Tryz.prog.stopKnobs==[])=true:=by kernel_rfl
theorem q_keys:(Rows.convertTypesRow.plainKeys==Tryz.prog.plainKeys)=true:=by kernel_rfl
theorem q_heard:Tryz.prog.stopsHeard=true:=by kernel_rfl
theorem q_enter:Tryz.prog.mayEnter=true:=by kernel_rfl
theorem q_lifts:(Rows.convertTypesRow.lifted==Tryz.prog.liftsFinal)=true:=by kernel_rfl
theorem q_make:(Tryz.prog.make==some Rows.convertTypesRow.make)=true:=by kernel_rfl
theorem main_is : Tryz.pinned.checked.prog.mainIs = some (true, ("2cb47cbf95087f7cc8d5ede91c198a947601d35cfd546d8bdc61f47b13d7b636" : String).toList) := by kernel_rfl
theorem looks_is:true=Tryz.pinned.checked.prog.looks []:=by kernel_rfl
end Go.Px
end
