/-
  Part 4: the run and laws.
-/
import Derived.Test.YtiahilhlpmohoaaGreatDoorS13
set_option linter.unusedVariables false
set_option linter.unusedSimpArgs false
set_option linter.unusedSectionVars false
noncomputable section
namespace Go.Cx
open Go Go.Ab Go.Proofs Go.RowKit
def h100:J→Lk→Nat→(Value→Lk→Nat→Prop)→Prop:=fun args m n K=>match args with
 | [.nilIface,_]=>K (.bool false) m n
 | [.iface t (.agg ⟨[.string s]⟩),.iface t' (.pointer (some ⟨k,0,some _⟩))]=>match Nat.beq t 210,Nat.beq t' 212,m k with
  | true,true,some ⟨[.string _],ty,true⟩=>match Nat.ble itTy ty with
   | false=>K (.bool true) (m.upd k ⟨[.string s],ty,true⟩) n
   | true=>False
  | _,_,_=>False
 | _=>False
theorem c100:jbt Tryz.prog 168:=⟨_,Tryz.func168,by kernel_rfl,rfl⟩
theorem tab_as{w:World}(h:TabsIn w.heap.size w):w.cell? ⟨0,0,none⟩=some (.iface 304 (.agg #[.pointer (some ⟨10,157,none⟩)])):=
 h.cell (b:=0) rfl (i:=0) rfl
theorem gen100:jcw Tryz.prog 168 h100:=by
 refine⟨c100,fun args m n K hh N w0 ι w hrel hwf hargs=> ?_⟩;unfold h100 at hh;split at hh
 ·rename_i t;refine(as_nil (ren ι t) w).mono fun e w' ⟨h1,h2⟩=> ?_
  subst h2;exact⟨.bool false,m,n,ι,by rw[h1];rfl,hh,Kv _,fun _ _=>rfl,hrel,hwf,by simp[ids]⟩
 ·rename_i t s t' k sp;split at hh
  case h_2=>exact hh.elim
  rename_i old ty ht ht' hk;split at hh
  case h_2=>exact hh.elim
  rename_i hty;have ht:=jah ht;have ht':=jah ht';subst ht ht';obtain⟨h1,h2,h3⟩:=hrel.blk k _ hk rfl;rw[objOf_cells hty]at h3
  have e1:([.iface 210 (.agg ⟨[.string s]⟩),.iface 212 (.pointer (some ⟨k,0,some sp⟩))]:J).map (ren ι)=[.iface 210 (.agg ⟨[.string s]⟩),.iface 212 (.pointer (some ⟨(ι k).1,0,none⟩))]:=by
   simp[ren,renL,ren1,h1]
  rw[e1]
  have hc:w.cell? ⟨(ι k).1,0,none⟩=some (.string old):=by
   simp only[World.cell?,h3];rfl
  have hf:w.frozen? ⟨(ι k).1,0,none⟩=false:=by
   simp[World.frozen?,h3]
  refine(as_hit s ⟨(ι k).1,0,none⟩ (.string old) w (tab_as hrel.tabs) rfl hc hf).mono fun e w' ⟨g1,g2⟩=> ?_
  have hb:Below w.heap.size w ((((w.alloc (.cells #[.pointer (some ⟨(ι k).1,0,none⟩)] 212)).alloc (.cells #[.pointer (some ⟨10,212,none⟩),.pointer (some ⟨w.heap.size,0,none⟩),.int .u64 150] 261)).alloc (.cells #[.pointer (some ⟨10,212,none⟩),.pointer (some ⟨w.heap.size,0,none⟩),.int .u64 150] 261)).alloc (.cells #[.string s] 210)):=
   ((((Below.refl _ _).alloc (Kv _) _).alloc (by simp) _).alloc (by simp;omega) _).alloc (by simp;omega) _
  have hr:=hrel.grow hb;obtain⟨_,_,h4⟩:=hr.blk k _ hk rfl;rw[objOf_cells hty]at h4;have hw:=hr.write hk rfl (b':=⟨[.string s],ty,true⟩) rfl rfl rfl (it_ble hty);refine⟨.bool true,_,n,ι,by rw[g1];rfl,hh,Kv _,fun _ _=>rfl,?_,fun j b hj=> ?_,by simp[ids]⟩
  ·rw[g2,setCell_eq_setRow _ _ _ _ _ _ _ h4];exact hw
  ·by_cases e:j=k
   ·subst e;rw[Lk.upd_same]at hj;cases hj;exact⟨(hwf j _ hk).1,by simp[idsL,ids]⟩
   ·rw[Lk.upd_other _ _ e]at hj;exact hwf j b hj
 ·exact hh.elim
end Go.Cx
end
noncomputable section
namespace Go.Cx
open Go Go.Ab Go.Proofs Go.Shelf Go.Px Go.Cv
def RdN(s:Y)(b g:Bool)(d:Y)(c:Int):Prop:=rdN (bz s)=none∧b=false∧g=false∧d=⟨#[]⟩∧c=0∨ ∃l,rdN (bz s)=some (g,l,c)∧d=szO l∧b=true
def hidN:J→Lk→Nat→(Value→Lk→Nat→Prop)→Prop:=fun args m n K=>match args with
 | [.string s]=>match cnd (decide (s.size≤9223372036854775807))with
  | true=>∀(b g:Bool)(d:Y)(c:Int),RdN s b g d c→K (.tuple ⟨[.agg ⟨[.bool g,.string d,.int .i64 c]⟩,.bool b]⟩) m n
  | false=>False
 | _=>False
theorem gen_hidN:jcw Tryz.prog 173 hidN:=by
 obtain⟨hc,hp⟩:=ok24;refine⟨hc,fun args m n K hh N w0 ι w hrel hwf hargs=> ?_⟩;unfold hidN at hh;split at hh
 case h_2=>exact hh.elim
 rename_i s;split at hh
 case h_2=>exact hh.elim
 rename_i hcc;have hs:(sp1 s24) [.string s] ([Value.string s].map (blkOf m))=some (true,onV (rdN (bz s))):=congrArg some (Prod.ext (show(s24 s).1=true from hcc) rfl);refine(hp [.string s] _ N w0 m ι w hrel hs rfl).mono fun e' w' ⟨h1,h2⟩=> ?_
 refine⟨onV (rdN (bz s)),m,n,ι,by rw[h1];rfl,?_,Kv _,fun _ _=>rfl,hrel.grow h2,hwf,by simp[ids,idsL,onV]⟩;cases hr:rdN (bz s)with
 | none=>
  have:=hh false false ⟨#[]⟩ 0 (.inl ⟨hr,rfl,rfl,rfl,rfl⟩);rw[←jdi]at this;exact this
 | some x=>exact hh true x.1 (szO x.2.1) x.2.2 (.inr ⟨x.2.1,by rw[hr],rfl,rfl⟩)
end Go.Cx
end
noncomputable section
set_option maxHeartbeats 3200000
namespace Go.Cx
open Go Go.Ab Go.Proofs Go.Shelf Go.Px Go.Cv
open Go.Fx (Ty Vl check jbi most base pw bnd Fit fits tv vv tup V0 T0 jbw jbx jbp jcf str0)
def s322(s:Y):Bool×Value:=(true,S s)
theorem v322(s:Y)(R:Value→Prop):jax Tryz.prog K6 noL Tryz.f340 [Enc.enc s] (fun _=>none) 0 (fun v _ _=>R v)=(R (S s)):=by kernel_rfl
theorem ok322:jan Tryz.prog 340 (sp1 s322):=by
 refine jb6 ok_K6 hmix (.m Tryz.func340) jal jag fun s hc=> ?_
 rw[ja4,v322]
 try dsimp only[s322]
def s324(s:Y):Bool×Value:=(true,S s)
theorem v324(s:Y)(R:Value→Prop):jax Tryz.prog K6 noL Tryz.f342 [Enc.enc s] (fun _=>none) 0 (fun v _ _=>R v)=(R (S s)):=by kernel_rfl
theorem ok324:jan Tryz.prog 342 (sp1 s324):=by
 refine jb6 ok_K6 hmix (.m Tryz.func342) jal jag fun s hc=> ?_
 rw[ja4,v324]
 try dsimp only[s324]
def K7:Env:=Env.nil
theorem ok_K7:ja3 Tryz.prog K7:=jav
def s115(t:Ty):Bool×Value:=(decide (t.q≤t.p∧t.p≤1000∧0≤t.q),I (if t.k=2 then t.p else(332*(t.p-t.q)+99)/100))
theorem v115(t:Ty)(R:Value→Prop):jax Tryz.prog K7 noL Tryz.f280 [Enc.enc t] (fun _=>none) 0 (fun v _ _=>R v)=(bif dl t 2 then R (I (Fx.Ty.p t))else R (I (IntKind.i64.wrap ((fp (jl 332 (cm (Fx.Ty.p t) (Fx.Ty.q t))) 99).tdiv 100)))):=by kernel_rfl
theorem ok115:jan Tryz.prog 280 (sp1 s115):=by
 refine jb6 ok_K7 hmix (.m Tryz.func280) jal jag fun t hc=> ?_
 rw[ja4,v115];delta fp jl cm dl;have hc:(t.q≤t.p∧t.p≤1000∧0≤t.q):=jab hc
 try dsimp only[s115]
 apply Ka<;>intro h
 ·have h:t.k=2:=eq_of_beq h;rw[Kd h]
 ·have h:¬t.k=2:=by simpa using h
  rw[Kc h,w64 (n:=t.p-t.q) (by omega),w64 (n:=332*(t.p-t.q)) (by omega),w64 (n:=332*(t.p-t.q)+99) (by omega)];by_cases hn:0≤332*(t.p-t.q)+99
  ·rw[Int.tdiv_eq_ediv_of_nonneg hn,w64 (by omega)]
  ·exfalso;omega
def K8:Env:=Env.nil
theorem ok_K8:ja3 Tryz.prog K8:=jav
def inB:Nat→Int→O
 | 0,_=> []
 | k+1,n=>inB k (n/2)++ [48+n%2]
theorem zrow8(k:Nat):zrow (.int .u8 0) k=cz (List.replicate k 0):=by
 rw[cz,List.map_replicate];refine List.eq_replicate_iff.2 ⟨by rw[zrow_len];simp[Value.cells],fun v hv=> ?_⟩;have:=zrow_mem hv;simpa[Value.cells]using this
theorem row_zero(k:Nat)(hk:k≤1000):RowP (zrow (.int .u8 0) k) k k:=by
 rw[zrow8];have:=(jki (List.replicate k 0) (tail:=[]) (cap:=k) rfl (by simp) (by omega)).1;rw[KA,Km]at this;exact this
theorem row_set{d:J}{n cap:Nat}(h:RowP d n cap){k:Nat}(hk:k<n)(x:Int):RowP (setL d (0+k*1) [.int .u8 x]) n cap∧zc (setL d (0+k*1) [.int .u8 x]) n=(zc d n).set k x:=by
 have e:setL d (0+k*1) [.int .u8 x]=d.set k (.int .u8 x):=by rw[Nat.zero_add,Nat.mul_one];rfl
 have ht:(d.set k (.int .u8 x)).take n=cz ((zc d n).set k x):=by
  rw[List.take_set,h.take,cz,cz,List.map_set]
 rw[e];refine⟨⟨by rw[ht];exact jev _,?_,by rw[List.length_set];exact h.len,h.le,h.cap⟩,?_⟩
 ·refine ja7.2 fun v hv=> ?_
  rcases List.mem_or_eq_of_mem_set hv with hv | hv
  ·exact ja7.1 h.plain v hv
  ·rw[hv];rfl
 ·show List.map iv ((d.set k (.int .u8 x)).take n)=_;rw[ht];simp[cz,Function.comp_def,iv]
def V223_0:Int×Int×Y×Nat×Nat×Int×Int×J→J:=fun(n,m,r,a,b,L,i,d)=> [I n,I m,S r,.slice (some ⟨200,0,some 1⟩) a b,I L,I i]
def B223_0:Int×Int×Y×Nat×Nat×Int×Int×J→Ya:=fun(n,m,r,a,b,L,i,d)=> [some ⟨d,5,true⟩]
def S223_0:LSpecA (Int×Int×Y×Nat×Nat×Int×Int×J) where
 live:=[0,1,4,5,10,11]
 mid:=[200]
 n:=210
 ap:=[(.tmp 5,200)]
 dec vs bs:=match vs,bs with
  | [.int .i64 n,.int .i64 m,.string r,.slice (some ⟨200,0,some 1⟩) a b,.int .i64 L,.int .i64 i],[some ⟨d,5,true⟩]=>some (n,m,r,a,b,L,i,d)
  | _,_=>none
 pre:=fun(n,m,r,a,b,L,i,d)=>jcp d a b&&decide (0≤n∧n≤2147483648∧0≤i∧i≤L∧L=m∧m≤1000∧(a:Int)=m)
 fin:=fun(n,m,r,a,b,L,i,d) Z=>∀(n':Int)(d':J),jcp d' a b=true→zc d' a=inB (m-i).toNat n++(zc d a).drop (m-i).toNat→Z (.exit 0) [I n',I m,S r,.slice (some ⟨200,0,some 1⟩) a b,I L,I L] [some ⟨d',5,true⟩]
theorem r223_0(n:Int)(m:Int)(r:Y)(a:Nat)(b:Nat)(L:Int)(i:Int)(d:J)(jk:Tmps)(R:Exit→J→Ya→Prop):(jbn Tryz.prog K8 noL Tryz.f279.ntmps (ja2 Tryz.f279 0) (tl S223_0.live (V223_0 (n,m,r,a,b,L,i,d)) jk) (ml S223_0.mid (B223_0 (n,m,r,a,b,L,i,d))) S223_0.n fun e t' m' _=>S223_0.out R e t' m')=(dy (bw i L) (cl (cm (dt m 1) i) (a:Int)) (f0 d 200 200) (bif Nat.ble (0+fx (dt m 1-i)*1+1) d.length then lh R (IntKind.i64.wrap (n.tdiv 2)) .i64 (setL d (0+fx (dt m 1-i)*1) [jq (fp 48 (n.tmod 2))]) (S r::dp L i 200 a b) 200 (ak m)else False) (R (.exit 0) (ak n::ak m::S r::du L i 200 a b) [gn d])):=by kernel_rfl
theorem l223_0:LOKf Tryz.prog (oneL 0 S223_0.hA) Tryz.f279:=by
 refine jbb (h:=S223_0.hA) (by kernel_rfl) (jbo ok_K8 hmix (by kernel_rfl) (ja0 _) S223_0 V223_0 B223_0 (fun(n,m,r,a,b,L,i,d)=>(L-i).toNat) ?_ ?_ ?_)
 ·intro vs bs s h;simp only[S223_0]at h;split at h
  all_goals first | (cases h;exact⟨rfl,rfl⟩) | cases h | (split at h<;>first | (rename_i hq;cases h;have hq:=jah hq;subst hq;exact⟨rfl,rfl⟩) | cases h)
 ·exact fun⟨n,m,r,a,b,L,i,d⟩ hp=>by
   simp only[S223_0,jaf]at hp;simp[V223_0,B223_0,S223_0,jaw,jbs,idsL,ids,jao (jap.1 hp.1).plain]
 ·intro⟨n,m,r,a,b,L,i,d⟩ jk Z hp hf;rw[r223_0];delta e7 dy gn ak bp cq du bm iq lh ax az ct dp jq fp fx dt f0 cl cm bw;simp only[S223_0]at hp hf;simp only[jaf,jae]at hp;obtain⟨hr,hn0,hn1,hi0,hiL,hLm,hm,ham⟩:=hp;have hr:=jap.1 hr;have hzl:=jbe hr;apply Ka<;>intro h
  ·have h:=jab h
   have hk:(IntKind.wrap .i64 (IntKind.wrap .i64 (m-1)-i))=((m-i).toNat-1:Nat):=by
    rw[w64 (n:=m-1) (by omega),w64 (by omega)];omega
   rw[hk,Int.toNat_natCast];generalize hkk:(m-i).toNat-1=k;have hka:k<a:=by omega
   obtain⟨g1,g2⟩:=row_set hr hka (48+n%2)
   have hw:IntKind.u8.wrap (IntKind.i64.wrap (48+n.tmod 2))=48+n%2:=by
    rw[Int.tmod_eq_emod_of_nonneg hn0,w64 (by omega),w8 (by omega)]
   have hq:IntKind.i64.wrap (n.tdiv 2)=n/2:=by rw[Int.tdiv_eq_ediv_of_nonneg hn0,w64 (by omega)]
   rw[hw,hq,w64 (n:=i+1) (by omega),g1.good,g1.rlb];have hl:=hr.len;have hle:=hr.le;refine c_t (jaa (by omega)) (c_t (by rw[Nat.ble_eq];omega) (c_t rfl ⟨(n/2,m,r,a,b,L,i+1,_),rfl,rfl,?_,by simp only;omega,fun n' d' h1 h2=>hf n' d' h1 ?_⟩))
   ·simp only[S223_0,jaf,jae];exact⟨jap.2 g1,by omega⟩
   ·have e1:(m-i).toNat=k+1:=by omega
    have e2:(m-(i+1)).toNat=k:=by omega
    rw[h2,e1,e2,g2,inB,Kz];congr 1;rw[List.drop_set,Kc (by omega),Nat.sub_self];have:(zc d a).drop k=(zc d a)[k]'(by omega)::(zc d a).drop (k+1):=List.drop_eq_getElem_cons (by omega);rw[this];rfl
  ·have h:=jac h;rw[hr.good,hr.rlb];obtain rfl:i=L:=by omega
   refine c_t rfl (hf n d (jap.2 hr) ?_);rw[show(m-i).toNat=0 by omega];rfl
def s223(n:Int)(m:Int):Bool×Value:=(decide (0≤n∧n≤2147483648∧0≤m∧m≤1000),S (szO (inB m.toNat n)))
theorem v223(n:Int)(m:Int)(R:Value→Prop):jax Tryz.prog K8 (oneL 0 S223_0.hA) Tryz.f279 [Enc.enc n,Enc.enc m] (fun _=>none) 0 (fun v _ _=>R v)=(bif ia 0 m m&&jb2 m.toNat 1 then jt (S223_0.toLSpec.pre (n,(m,(ay,(m.toNat,(m.toNat,(natO m.toNat,((0:Int),nw m 2)))))))) [(2,200)] (zrow (am 0) m.toNat) 210 (Int→(∀a:J,jcp a m.toNat m.toNat=true→zc a m.toNat=inB (Int.toNat (m-0)) n++fw (m-0) (zc (nw m 2) m.toNat)→li a m.toNat R))else False):=by kernel_rfl
theorem ok223:jan Tryz.prog 279 (sp2 s223):=by
 refine jcz ok_K8 hmix (.m Tryz.func279) l223_0 jag fun n m hc=> ?_
 rw[ja4,v223];delta dx jv jt br ko li fw am nw ay ia;have hc:(0≤n∧n≤2147483648∧0≤m∧m≤1000):=jab hc
 try dsimp only[s223]
 obtain⟨h1,h2,h3,h4⟩:=hc;have hr:=row_zero m.toNat (by omega);rw[hr.good,hr.rlb];refine c_t (by rw[jaa (show 0≤m∧m≤m by omega)];simp only[Bool.true_and,jb2,jaf,Nat.ble_eq];omega) (c_t (by rw[jba hr.plain];rfl) (c_t ?_ fun n' d' g1 g2=> ?_))
 ·simp only[S223_0,jaf,jae];rw[jby];exact⟨jap.2 hr,by omega⟩
 ·have g1:=jap.1 g1;rw[Int.sub_zero]at g2;have hzl:=jbe hr;rw[KD (by omega),KA]at g2;refine c_t (by rw[jba g1.plain];rfl) fun _=>c_t g1.str.1 ?_
  rw[g1.str.2,g2,jcx]
instance tabsT:Tabs:=tabs
def bitW0(t:Ty):Int:=if t.k=2 then t.p else(332*(t.p-t.q)+99)/100
def scal(t:Ty):Int:=if t.k=6 then 5 else chk4 t
def numT(t:Ty):Bool:=t.k==5&&pN (bz t.s)
def piT(t:Ty):Ty:=⟨tyK (bz t.s),tyP (bz t.s),pQ (bz t.s),false,⟨#[]⟩⟩
def bwT(t:Ty):Int:=if t.k=1∨t.k=2 then bitW0 t else if numT t=true then bitW0 (piT t)else if t.k=5 then pW (bz t.s)else t.p
def bitT(t:Ty):Ty:=if scal t≠0 then T0 else⟨4,min 64 (bwT t),0,false,⟨#[]⟩⟩
def sz63(t:Ty):Prop:=t.s.size≤9223372036854775807
instance (t:Ty):Decidable (sz63 t):=by unfold sz63;infer_instance
def M0:Env:=(Env.nil.add 121 (sp1 s66)).add 122 (sp1 Px.s33)
theorem ok_M0:ja3 Tryz.prog M0:=jaj (jaj jav ok66) Px.ok33
def s20f(t:Ty):Bool×Value:=(decide (sz63 t),I (chk4 t))
def ol(a:Fx.Ty)(d f:Int)(e g h:Prop)(c:Value)(b:Value→Prop):Prop:=bif dl a 1 then b c else bif dl a 2 then b c else bif dl a d then e else av (dl a f) g h
def qc(c:Bool)(d:Y)(a:Fx.Ty)(b:Int):Bool:=Fx.Ty.k a==Fx.Ty.k a&& (Fx.Ty.p a==b&& (Fx.Ty.q a==0&& (Fx.Ty.v a==c&& (ez (Fx.Ty.s a) d&&true))))
def qd(a b c:Bool)(e f:Value)(d:Value→Prop):Prop:=bif a then bq b true (b || c) (d e) (d f)else False
def qe(c:Bool)(a:Fx.Ty)(b:Int)(d:Value→Prop):Prop:=bif jp (Fx.Ty.p a) 0 then bq (!gx (Fx.Ty.p a) 0 b) true (!gx (Fx.Ty.p a) 0 b || !qc c ay a (Fx.Ty.p a)) (d (ak 5)) (d (ak 0))else False
theorem v20f(t:Ty)(R:Value→Prop):jax Tryz.prog M0 noL Tryz.f72 [Enc.enc t] (fun _=>none) 0 (fun v _ _=>R v)=(ol t 3 4 (qe (Fx.Ty.v t) t 255 R∧qe (Fx.Ty.v t) t 255 R) (qe false t 64 R) (bif dl t 5 then qd (cw (Fx.Ty.s t)) (!pE (bz (Fx.Ty.s t))==0) (!qc false (Fx.Ty.s t) t 0) (ak 5) (ak 0) R else bif dl t 6 then bif !true || !qc false ay t 0 then R (ak 5)else R (ak 0)else R (ak 5)) (I (Fx.check t)) R):=by kernel_rfl
theorem ok20f:jan Tryz.prog 72 (sp1 s20f):=by
 refine jb6 ok_M0 hmix fn20 jal jag fun t hc=> ?_
 rw[ja4,v20f];delta av dl ol ak ez qc ay bq qd cw gx jp qe;have hc:(sz63 t):=jab hc
 try dsimp only[s20f]
 have hs:t.s.size≤9223372036854775807:=hc;have nvk:∀k:Int,t.k=k→k≠1→k≠2→ ¬jbi t:=fun k hk h1 h2 hv=>by have:=hv.1;omega
 have ck:t.k=1∨t.k=2→check t=chk4 t:=fun hk=>by
  unfold Fx.check chk4;by_cases hv:jbi t
  ·rw[Kd hv,Kd hv]
  ·rw[Kc hv,Kc hv,Kc (by omega),Kc (by omega),Kc (by omega),Kc (by omega)]
 refine Ka (fun hk=> ?_) (fun h1=> ?_)
 ·rw[ck (.inl (by simpa using hk))]
 refine Ka (fun hk=> ?_) (fun h2=> ?_)
 ·rw[ck (.inr (by simpa using hk))]
 have h1:t.k≠1:=by simpa using h1
 have h2:t.k≠2:=by simpa using h2
 have nv:¬jbi t:=nvk _ rfl h1 h2;apply Ka<;>intro h3
 ·have h3:t.k=3:=by simpa using h3
  have key:∀X:Prop,(bif !(decide (t.p≥0) &&decide (t.p≤255)) || !(t.k==t.k&& (t.p==t.p&& (t.q==0&& (t.v==t.v&& (t.s.toList==(ByteArray.mk #[]).toList&&true)))))then Value.int IntKind.i64 5=I (chk4 t)else Value.int IntKind.i64 0=I (chk4 t)):=fun _=>by
   rw[jb8];unfold chk4;rw[Kc nv];apply Ka<;>intro h
   ·rw[Kc,Kc (by omega),Kc (by omega),Kc (by omega)];rintro ⟨-,q1,q2,q3,q4⟩;simp[q1,q2,q3,q4]at h
   ·rw[Kd];simp at h;exact⟨h3,h.2.1,h.2.2,h.1.1,h.1.2⟩
  exact⟨c_t (Bool.or_true _) (c_t (Bool.or_true _) (key True)),c_t (Bool.or_true _) (c_t (Bool.or_true _) (key True))⟩
 have h3:t.k≠3:=by simpa using h3
 apply Ka<;>intro h4
 ·have h4:t.k=4:=by simpa using h4
  refine c_t (Bool.or_true _) (c_t (Bool.or_true _) ?_);rw[jb8];unfold chk4;rw[Kc nv,Kc (by omega)];apply Ka<;>intro h
  ·rw[Kc,Kc (by omega),Kc (by omega)];rintro ⟨-,q1,q2,q3,q4,q5⟩;simp[q1,q2,q3,q4,q5]at h
  ·rw[Kd];simp at h;exact⟨h4,h.2.1,h.2.2.2,h.2.2.1,h.1.1,h.1.2⟩
 have h4:t.k≠4:=by simpa using h4
 apply Ka<;>intro h5
 ·have h5:t.k=5:=by simpa using h5
  refine c_t (jaa hs) (c_t (Bool.or_true _) ?_);unfold chk4;rw[Kc nv,Kc (by omega),Kc (by omega)];apply Ka<;>intro h
  ·rw[Kc,Kc (by omega)];rintro ⟨-,q1,q2,q3,q4⟩;simp[q1,q2,q3,q4]at h
  ·rw[Kd];simp at h;exact⟨h5,h.2.1,h.2.2.1,h.2.2.2,h.1⟩
 have h5:t.k≠5:=by simpa using h5
 apply Ka<;>intro h6
 ·have h6:t.k=6:=by simpa using h6
  rw[jb8];unfold chk4;rw[Kc nv,Kc (by omega),Kc (by omega),Kc (by omega)];apply Ka<;>intro h
  ·rw[Kc];rintro ⟨-,q1,q2,q3,q4⟩;simp[q1,q2,q3,q4]at h
  ·rw[Kd];simp at h;exact⟨h6,h.2.1,h.2.2.2,h.1,h.2.2.1⟩
 have h6:t.k≠6:=by simpa using h6
 unfold chk4;rw[Kc nv,Kc (by omega),Kc (by omega),Kc (by omega),Kc (by omega)]
def s43(t:Ty):Bool×Value:=(decide (sz63 t),.tuple ⟨[Fx.tv (bitT t),I (scal t)]⟩)
instance tabsT1:Tabs:=tabs
def Q0:Env:=(((Env.nil.add 72 (sp1 s20f)).add 73 (sp2 s70)).add 74 (sp1 s71)).add 75 (sp2 Px.s24)
theorem ok_Q0:ja3 Tryz.prog Q0:=jaj (jaj (jaj (jaj jav ok20f) ok70) ok71) Px.ok24
def s22f(v:Vl)(t:Ty):Bool×Value:=(decide (t.s.size≤9223372036854775807∧v.s.size≤9223372036854775807),I (fit4 v t))
def j5(a:Fx.Vl):O:=bz (Fx.Vl.s a)
theorem v22f(v:Vl)(t:Ty)(R:Value→Prop):jax Tryz.prog Q0 noL Tryz.f23 [Enc.enc v,Enc.enc t] (fun _=>none) 0 (fun v _ _=>R v)=(kp (decide (sz63 t)) (chk4 t !=0) (R (I (chk4 t))) (ol t 3 4 (go (Fx.Vl.n v==0) (fk (Fx.Vl.s v)==Fx.Ty.p t || (Fx.Ty.v t || true)) true (!(Fx.Vl.n v==0&& (fk (Fx.Vl.s v)==Fx.Ty.p t || Fx.Ty.v t&&decide (fk (Fx.Vl.s v)<Fx.Ty.p t)))) (R (ak 6)) (R (ak 0))) (go (Fx.Vl.n v==0) (bv (fk (Fx.Vl.s v)==Fx.Ty.p t) (cw (Fx.Vl.s v) &&true) true) true (!(Fx.Vl.n v==0&& (fk (Fx.Vl.s v)==Fx.Ty.p t&&jcn (j5 v)))) (R (ak 6)) (R (ak 0))) (bif dl t 5 then go (Fx.Vl.n v==0) (im (Fx.Vl.s v) (Fx.Ty.s t).size 9223372036854775807 9223372036854775807&&true) true (!(Fx.Vl.n v==0&&hoZ (bz (Fx.Ty.s t)) (j5 v))) (R (ak 6)) (R (ak 0))else bif dl t 6 then go (ez (Fx.Vl.s v) ay) (jp (Fx.Vl.n v) 0) true (!(ez (Fx.Vl.s v) ay&&gx (Fx.Vl.n v) 0 524288)) (R (ak 6)) (R (ak 0))else bif !Fx.Vl.n v==0 then R (ak 6)else R (ak 0)) (I (Fx.fits v t)) R)):=by kernel_rfl
theorem ok22f:jan Tryz.prog 23 (sp2 s22f):=by
 refine jcz ok_Q0 hmix fn22 jal jag fun v t hc=> ?_
 rw[ja4,v22f];delta kp av dl ol ak go gx ez ay jp j5 im fk bv cw;have hc:(t.s.size≤9223372036854775807∧v.s.size≤9223372036854775807):=jab hc
 try dsimp only[s22f]
 rw[jb8];unfold fit4 is4;refine c_t (jaa hc.1) ?_
 have hk:chk4 t=0→(t.k=1∨t.k=2∨t.k=3∨t.k=4∨t.k=5∨t.k=6)∧((t.k=1∨t.k=2)→jbi t):=fun h=>by
  unfold chk4 at h;have hv:jbi t→t.k=1∨t.k=2:=fun h=>h.1
  grind
 apply Ka<;>intro h
 ·rw[Kd (by simpa using h)]
 have h0:chk4 t=0:=by simpa using h
 rw[Kc (fun z=>z h0)];obtain⟨hk,hval⟩:=hk h0;have hf:jbi t→Fx.fits v t=if Fit v t then 0 else 6:=fun h=>Kd h
 simp only[Bool.or_true,Bool.and_true,Bool.cond_self,jaa hc,jaa hc.2]
 repeat' apply Ka<;>intro h
 all_goals first | (exfalso;simp at h;done) | (congr 1;grind) | (exfalso;grind)
end Go.Cx
end
noncomputable section
namespace Go.Cx
open Go Go.Ab Go.Px Go.Cv
theorem u8n{n:Nat}(h:n<10):((UInt8.ofNat (48+n)).toNat:Int)=48+n:=by
 rw[UInt8.toNat_ofNat'];omega
end Go.Cx
end
noncomputable section
namespace Go.Cx
open Go Go.Ab Go.Px Go.Cv
open Go.Fx (Ty Vl check jbi most base pw bnd Fit fits)
theorem jgw:∀(k n:Nat),n<10^ (k+1)→jbc (zl (Lib.decDigits n))=true∧zl (Lib.decDigits n)≠ []
 | k,n,h=>by
  have one:∀j,j<10→dig ((UInt8.ofNat (48+j)).toNat:Int)=true:=fun j hj=>by
   rw[u8n hj];unfold dig;exact jaa (by omega)
  rw[Lib.decDigits];by_cases h10:n<10
  ·rw[dif_pos h10];exact⟨by simp only[zl,List.map_cons,List.map_nil,jbc,List.all_cons,List.all_nil,one n h10,Bool.and_self],by simp[zl]⟩
  ·rw[dif_neg h10];cases k with
   | zero=>omega
   | succ k=>
    have ih:=jgw k (n/10) (by rw[Nat.pow_succ]at h;omega);refine⟨?_,by simp[zl]⟩;rw[zl,List.map_append];rw[digs_app];have e:jbc (List.map (fun b:UInt8=>(b.toNat:Int)) (Lib.decDigits (n/10)))=true:=ih.1;rw[e];simp only[List.map_cons,List.map_nil,jbc,List.all_cons,List.all_nil,one (n%10) (by omega),Bool.and_self]
theorem ito_digs{m:Int}(h:0≤m∧m≤2147483648):jbc (itoZ m)=true∧itoZ m≠ []:=by
 obtain⟨k,rfl⟩:∃k:Nat,m=(k:Int):=⟨m.toNat,by omega⟩
 rw[itoZ,Lib.itoa_nonneg];exact jgw 9 k (by omega)
def numA(n q:Int):Num:=jaz (decide (n<0)) (itoZ (if n<0 then -n else n)) q
end Go.Cx
end
noncomputable section
set_option maxHeartbeats 3200000
namespace Go.Cx
open Go Go.Ab Go.Proofs Go.Shelf Go.Px Go.Cv
open Go.Fx (Ty Vl check jbi most base pw bnd Fit fits tv vv tup V0 T0 jbw jbx jbp jcf str0)
def K9p:Env:=((((((((((Env.nil.add 74 (sp1 s71)).addG 114 (hideS (sp2 s30))).add 340 (sp1 s322)).add 342 (sp1 s324)).addG 173 hidN).add 239 (sp3 s77)).add 280 (sp1 s115)).add 130 (sp1 s29)).add 338 (sp1 s321)).add 240 (sp1 s78)).add 279 (sp2 s223)
theorem ok_K9p:ja3 Tryz.prog K9p:=jaj (jaj (jaj (jaj (jaj (jaj (jau (jaj (jaj (jau (jaj jav ok71) (jea ok30)) ok322) ok324) gen_hidN) ok77) ok115) ok29) ok321) ok78) ok223
theorem fn222:Fn1 Tryz.prog 277 Tryz.f277:= .m Tryz.func277
theorem fn170:Fn1 Tryz.prog 232 Tryz.f232:= .m Tryz.func232
theorem fn97:Fn1 Tryz.prog 158 Tryz.f158:= .m Tryz.func158
theorem fn169:Fn1 Tryz.prog 231 Tryz.f231:= .m Tryz.func231
theorem fn101:Fn1 Tryz.prog 169 Tryz.f169:= .m Tryz.func169
theorem fn168:Fn1 Tryz.prog 230 Tryz.f230:= .m Tryz.func230
theorem fn99:Fn1 Tryz.prog 167 Tryz.f167:= .m Tryz.func167
theorem fn34:Fn1 Tryz.prog 115 Tryz.f115:= .m Tryz.func115
def oo(a b:Int)(c:Nat)(e:Value)(d:Value→Prop):Prop:=lj (l9 (szO (itoZ a)) (-100000) b 100000 c) (-9223372036854775808) a 9223372036854775807 (d e)
def nf(a:J):Value:=aq [Value.nilIface] (cu a)
theorem x222w(n:Int)(k:Int)(p:Int)(q:Int)(w:Bool)(u:Y)(R:Value→Prop):(jax Tryz.prog K9p noL Tryz.f277 [.iface 241 (.agg ⟨[I n,I k,I p,I q,B w,S u]⟩)] (fun _=>none) 0 (fun v _ _=>R v))=(bif dw n then oo (dt 0 n) q 100000 (nf (lf (dw n) (szO (itoZ (dt 0 n))) q)) R else oo n q 100000 (nf (lf (dw n) (szO (itoZ n)) q)) R):=by kernel_rfl
theorem x222b(s:Y)(R:Value→Prop):(jax Tryz.prog K9p noL Tryz.f277 [.iface 242 (S s)] (fun _=>none) 0 (fun v _ _=>R v))=(oq (jcn (bz s)) (decide (s.size≤64)) false (szO (dz (binG (bz s) 0))) 100000 Value.nilIface R):=by kernel_rfl
theorem x222c(s:Y)(R:Value→Prop):(jax Tryz.prog K9p noL Tryz.f277 [.iface 245 (S s)] (fun _=>none) 0 (fun v _ _=>R v))=(bif cw s then∀a:Bool,∀b:Bool,∀c:Y,∀d:Int,RdN s a b c d→(bif !a then R (aq [.iface 210 (cu [S s])] lu)else R (nf [B b,S c,ak d]))else False):=by kernel_rfl
theorem x169(s:Y)(n:Int)(c:Y)(R:Value→Prop):(jax Tryz.prog K9p noL Tryz.f231 [S s,I n,S c] (fun _=>none) 0 (fun v _ _=>R v))=(bif decide ((s.size:Int)≥n)then bif decide ((0:Int)≤0∧0≤n∧n≤(s.size:Int))then R (S (ByteArray.extract s 0 n.toNat))else False else bif decide (0≤IntKind.wrap .i64 (n-(s.size:Int))∧IntKind.wrap .i64 (n-(s.size:Int))≤1000∧c.size≤1000)then∀(s':Y),szO (repZ (bz c) (IntKind.wrap .i64 (n-(s.size:Int))).toNat)=s'→bif jbf (s.size+s'.size)then R (S (s++s'))else False else False):=by kernel_rfl
def divT:Nat→Int→Int
 | 0,n=>n
 | k+1,n=>divT k (n/10)
theorem divT_rng:∀(k:Nat)(n:Int),0≤n→0≤divT k n∧divT k n≤n
 | 0,n,h=>⟨h,KH _⟩
 | k+1,n,h=>by
  have:=divT_rng k (n/10) (by omega);rw[divT];omega
def V170_1:Int×Int×Int×Int×Bool×Y×Int×Int×Int→J:=fun(m,k,p,q,w,u,n,Q,i)=> [.pointer (some ⟨6,0,some 0⟩),I n,I Q,I i]
def B170_1:Int×Int×Int×Int×Bool×Y×Int×Int×Int→Ya:=fun(m,k,p,q,w,u,n,Q,i)=> [some ⟨[I m,I k,I p,I q,B w,S u],241,true⟩]
def S170_1:LSpec (Int×Int×Int×Int×Bool×Y×Int×Int×Int) where
 live:=[4,5,21,22]
 mid:=[6]
 n:=60
 dec vs bs:=match vs,bs with | [.pointer (some ⟨6,0,some 0⟩),.int .i64 n,.int .i64 Q,.int .i64 i],[some ⟨[.int .i64 m,.int .i64 k,.int .i64 p,.int .i64 q,.bool w,.string u],241,true⟩]=>some (m,k,p,q,w,u,n,Q,i) | _,_=>none
 pre:=fun(m,k,p,q,w,u,n,Q,i)=>decide (0≤n∧n≤2147483648∧0≤i∧i≤Q∧Q≤1000)
 fin:=fun(m,k,p,q,w,u,n,Q,i) Z=>Z (.exit 1) [.pointer (some ⟨6,0,some 0⟩),I (divT (Q-i).toNat n),I Q,I Q] [some ⟨[I m,I k,I p,I q,B w,S u],241,true⟩]
theorem r170_1(m:Int)(k:Int)(p:Int)(q:Int)(w:Bool)(u:Y)(n:Int)(Q:Int)(i:Int)(jk:Tmps)(R:Exit→J→Ya→Prop):(jbn Tryz.prog K9p noL Tryz.f232.ntmps (ja2 Tryz.f232 1) (tl S170_1.live (V170_1 (m,k,p,q,w,u,n,Q,i)) jk) (ml S170_1.mid (B170_1 (m,k,p,q,w,u,n,Q,i))) S170_1.n fun e t' m' _=>R e (List.map t' S170_1.live) (List.map m' S170_1.mid))=(bif bw i Q then R .normal (ar 6::I (IntKind.i64.wrap (n.tdiv 10))::ct Q i) [some (.mk [ak m,ak k,ak p,ak q,B w,S u] 241 true)]else R (.exit 1) (ar 6::ak n::bp Q i) [some (.mk [ak m,ak k,ak p,ak q,B w,S u] 241 true)]):=by kernel_rfl
theorem l170_1:LOKf Tryz.prog (oneL 1 S170_1.h) Tryz.f232:=by
 refine jbb (h:=S170_1.h) (by kernel_rfl) (ja6 ok_K9p hmix (by kernel_rfl) (ja0 _) S170_1 V170_1 B170_1 (fun(m,k,p,q,w,u,n,Q,i)=>(Q-i).toNat) ?_ ?_ ?_)
 ·intro vs bs s h;simp only[S170_1]at h;split at h
  all_goals first | (cases h;exact⟨rfl,rfl⟩) | cases h | (split at h<;>first | (rename_i hq;cases h;have hq:=jah hq;subst hq;exact⟨rfl,rfl⟩) | cases h)
 ·exact fun _ _ _ h=>h
 ·intro⟨m,k,p,q,w,u,n,Q,i⟩ jk Z hp hf;rw[r170_1];delta ak bp ar ax az ct bw;simp only[S170_1]at hp hf;have hp:=jab hp;apply Ka<;>intro h
  ·have h:=jab h;rw[show(Q-i).toNat=(Q-(i+1)).toNat+1 by omega,divT]at hf;rw[Int.tdiv_eq_ediv_of_nonneg hp.1,w64 (n:=n/10) (by omega),w64 (n:=i+1) (by omega)];exact⟨(m,k,p,q,w,u,n/10,Q,i+1),rfl,rfl,by simp only[S170_1,jae];omega,by simp only;omega,hf⟩
  ·have h:=jac h;obtain rfl:i=Q:=by omega
   rw[Int.sub_self]at hf;exact hf
def ry(e:Bool)(f:Y)(a b c d g:Int)(h:Value→Prop):Prop:=bif S170_1.pre (a,(b,(c,(d,(e,(f,(g,(d,(0:Int)))))))))then ib (c7 d c 1000 0 d) (br (jj 0 (divT (Int.toNat (d-0)) g) 2147483648 0 (if b=2 then c else(332*(c-d)+99)/100) 1000) (aq [Value.nilIface] (.string (szO (inB (if b=2 then c else(332*(c-d)+99)/100).toNat (divT (Int.toNat (d-0)) g))))) h) False else False
theorem x170w(n:Int)(k:Int)(p:Int)(q:Int)(w:Bool)(u:Y)(R:Value→Prop):(jax Tryz.prog K9p (oneL 1 S170_1.h) Tryz.f232 [.iface 241 (.agg ⟨[I n,I k,I p,I q,B w,S u]⟩)] (fun _=>none) 0 (fun v _ _=>R v))=(bif dw n then ry w u n k p q (dt 0 n) R else ry w u n k p q n R):=by kernel_rfl
theorem x170b(s:Y)(R:Value→Prop):(jax Tryz.prog K9p (oneL 1 S170_1.h) Tryz.f232 [.iface 242 (S s)] (fun _=>none) 0 (fun v _ _=>R v))=(R (.tuple (.mk [S s,Value.nilIface]))):=by kernel_rfl
theorem x170c(s:Y)(R:Value→Prop):(jax Tryz.prog K9p (oneL 1 S170_1.h) Tryz.f232 [.iface 245 (S s)] (fun _=>none) 0 (fun v _ _=>R v))=(gv (jcn (bz s)) s (R (aq [Value.nilIface] (S s))) (R (aq [.iface 210 (cu [S s])] cv))):=by kernel_rfl
def ji3(l:O)(n:Nat)(c:Int):O:=l.take n++List.replicate (n-l.length) c
def jgg(t:Ty):Int:=if t.k=2 then t.p else(332*(t.p-t.q)+99)/100
def absI(n:Int):Int:=if n<0 then -n else n
def s222:Ab.Spec:=fun args _=>match args with
 | [.iface 241 (.agg ⟨[.int .i64 n,.int .i64 _,.int .i64 _,.int .i64 q,.bool _,.string _]⟩)]=>some (decide (-2147483648≤n∧n≤2147483648∧0≤q∧q≤9),.tuple ⟨[numV (numA n q),.nilIface]⟩)
 | [.iface 242 (.string s)]=>some (jcn (bz s) &&decide (s.size≤64),.tuple ⟨[numV (jaz false (binD (bz s)) 0),.nilIface]⟩)
 | [.iface 245 (.string s)]=>some (decide (s.size≤9223372036854775807),.tuple ⟨[numV ((rdN (bz s)).getD num0),if(rdN (bz s)).isSome=true then .nilIface else .iface 210 (.agg ⟨[.string s]⟩)]⟩)
 | _=>none
def s170:Ab.Spec:=fun args _=>match args with
 | [.iface 241 (.agg ⟨[.int .i64 n,.int .i64 k,.int .i64 p,.int .i64 q,.bool w,.string u]⟩)]=>some (decide (jbi ⟨k,p,q,w,u⟩∧ -2147483648≤n∧n≤2147483648),.tuple ⟨[S (szO (inB (jgg ⟨k,p,q,w,u⟩).toNat (divT q.toNat (absI n)))),.nilIface]⟩)
 | [.iface 242 (.string s)]=>some (true,.tuple ⟨[S s,.nilIface]⟩)
 | [.iface 245 (.string s)]=>some (decide (s.size≤9223372036854775807),.tuple ⟨[if jcn (bz s)=true then S s else S ⟨#[]⟩,if jcn (bz s)=true then .nilIface else .iface 210 (.agg ⟨[.string s]⟩)]⟩)
 | _=>none
def s97:Ab.Spec:=fun args _=>match args with
 | [.agg ⟨[.int .i64 n,.string s]⟩,.agg ⟨[.int .i64 k,.int .i64 p,.int .i64 q,.bool w,.string u]⟩]=>match eqI k 1,eqI k 2,eqI k 3,eqI k 4 with
  | true,_,_,_=>some (true,.iface 241 (.agg ⟨[.int .i64 n,.int .i64 1,.int .i64 p,.int .i64 q,.bool w,.string u]⟩))
  | _,true,_,_=>some (true,.iface 241 (.agg ⟨[.int .i64 n,.int .i64 2,.int .i64 p,.int .i64 q,.bool w,.string u]⟩))
  | _,_,true,_=>some (true,.iface 245 (.string s))
  | _,_,_,true=>some (true,.iface 242 (.string s))
  | _,_,_,_=>none
 | _=>none
def s169(s:Y)(n:Int)(c:Y):Bool×Value:=(decide (0≤n∧n≤1000) &&oneB c,S (szO (ji3 (bz s) n.toNat ((bz c).getD 0 0))))
theorem num_abs{n q:Int}(h: -2147483648≤n∧n≤2147483648)(hq:0≤q∧q≤9){x:Value}{m:Int}(hm:(if n<0 then -n else n)=m)
  (hx:x= .tuple ⟨[numV (jaz (decide (n<0)) (bz (szO (itoZ m))) q),.nilIface]⟩):x= .tuple ⟨[numV (numA n q),.nilIface]⟩:=by
 rw[hx,jcs (jge _),numA,hm]
theorem ok222:jan Tryz.prog 277 s222:=by
 refine jdd ok_K9p hmix fn222 jal fun args bs v hs=> ?_
 unfold s222 at hs;split at hs
 ·rename_i n k p q w u;simp only[Kb,Ke,jae]at hs;obtain⟨⟨h1,h2,h3,h4⟩,rfl⟩:=hs;refine⟨rfl,jag,?_⟩;rw[ja4,x222w];delta e7 ia lj l9 oo aq cu nf jw lf dw dt;apply Ka<;>intro h
  ·have h:=jab h;have hl:=jd9 (m:=0-n) (by omega);rw[w64 (n:=0-n) (by omega)];refine c_t (jaa (by omega)) (c_t (jaa ⟨by rw[jbu];omega,by omega,by omega⟩) ?_);exact num_abs ⟨h1,h2⟩ ⟨h3,h4⟩ (by rw[Kd h];omega) rfl
  ·have h:=jac h;have hl:=jd9 (m:=n) (by omega);refine c_t (jaa (by omega)) (c_t (jaa ⟨by rw[jbu];omega,by omega,by omega⟩) ?_);exact num_abs ⟨h1,h2⟩ ⟨h3,h4⟩ (by rw[Kc h]) rfl
 ·rename_i s;simp only[Kb,Ke,jaf,jae]at hs;obtain⟨⟨h1,h2⟩,rfl⟩:=hs;refine⟨rfl,jag,?_⟩;rw[ja4,x222b];delta br aq cu jw lf l9 nl oq;have hb:=jmf h1 (by rw[jak];exact h2);have hd:=jmb 20 (binG (bz s) 0) hb.1 (Int.lt_of_lt_of_le hb.2 (by decide));refine c_t (by rw[h1,jaa h2];rfl) (c_t (jaa ⟨by rw[jbu];omega,by omega,by omega⟩) ?_);rw[jcs (dz_isB _),jk6]
 ·rename_i s;simp only[Kb,Ke,jae]at hs;obtain⟨h1,rfl⟩:=hs;refine⟨rfl,jag,?_⟩;rw[ja4,x222c];delta aq cu nf ak ay cv lu cw;refine c_t (jaa h1) fun b g d c hR=> ?_
  rcases hR with⟨r,rfl,rfl,rfl,rfl⟩ | ⟨l,r,rfl,rfl⟩
  ·refine c_t rfl ?_;rw[r];show _=Value.tuple ⟨[.agg ⟨[.bool false,.string (szO []),.int .i64 0]⟩,.iface 210 (.agg ⟨[.string s]⟩)]⟩;rw[jdi]
  ·refine c_f rfl ?_;rw[r];rfl
 ·cases hs
theorem ok170:jan Tryz.prog 232 s170:=by
 refine jdd ok_K9p hmix fn170 l170_1 fun args bs v hs=> ?_
 unfold s170 at hs;split at hs
 ·rename_i n k p q w u;simp only[Kb,Ke,jae]at hs;obtain⟨⟨hv,h1,h2⟩,rfl⟩:=hs;obtain⟨v1,v2,v3,v4,v5⟩:=Fx.valid_r hv;simp only at v1 v2 v3 v4 v5;refine⟨rfl,jag,?_⟩;rw[ja4,x170w];delta av ib br aq jj c7 ry dt dw;have hbw:0≤jgg ⟨k,p,q,w,u⟩∧jgg ⟨k,p,q,w,u⟩≤200:=by unfold jgg;simp only;split<;>omega
  have key:∀m:Int,absI n=m→0≤m∧m≤2147483648→LSpec.pre S170_1 (n,k,p,q,w,u,m,q,0)=true∧0≤divT (q-0).toNat m∧divT (q-0).toNat m≤2147483648∧divT (q-0).toNat m=divT q.toNat (absI n):=fun m hm hr=>by
   have:=divT_rng (q-0).toNat m hr.1;refine⟨by simp only[S170_1,jae];omega,by omega,by omega,by rw[hm,Int.sub_zero]⟩
  apply Ka<;>intro h
  ·have h:=jab h;rw[w64 (n:=0-n) (by omega)];obtain⟨k1,k2,k3,k4⟩:=key (0-n) (by unfold absI;rw[Kd h];omega) (by omega);refine c_t k1 fun x=>c_t (jaa ⟨v4,by omega,v3⟩) (c_t (jaa ⟨k2,k3,hbw.1,by have:=hbw.2;show jgg ⟨k,p,q,w,u⟩≤1000;omega⟩) ?_)
   rw[k4];rfl
  ·have h:=jac h;obtain⟨k1,k2,k3,k4⟩:=key n (by unfold absI;rw[Kc h]) (by omega);refine c_t k1 fun x=>c_t (jaa ⟨v4,by omega,v3⟩) (c_t (jaa ⟨k2,k3,hbw.1,by have:=hbw.2;show jgg ⟨k,p,q,w,u⟩≤1000;omega⟩) ?_)
   rw[k4];rfl
 ·rename_i s;simp only[Kb,Ke]at hs;obtain⟨-,rfl⟩:=hs;refine⟨rfl,jag,?_⟩;rw[ja4,x170b]
 ·rename_i s;simp only[Kb,Ke,jae]at hs;obtain⟨h1,rfl⟩:=hs;refine⟨rfl,jag,?_⟩;rw[ja4,x170c];delta av cw gv aq ay cv cu;refine c_t (jaa h1) (Ka (fun h=> ?_) (fun h=> ?_))
  ·rw[Kd h,Kd h]
  ·rw[Kc (by rw[h];decide),Kc (by rw[h];decide)]
 ·cases hs
theorem ok169:jan Tryz.prog 231 (sp3 s169):=by
 refine jh7 ok_K9p hmix fn169 jal jag fun s n c hc=> ?_
 have hc:(decide (0≤n∧n≤1000) &&oneB c)=true:=hc;simp only[jaf,jae]at hc;obtain⟨⟨h0,h1⟩,ho⟩:=hc;obtain⟨ch,hc1,hc2⟩:=jeq ho;rw[ja4];have hx:=x169 s n c (fun v=>v=(s169 s n c).2);rw[show(Enc.enc s:Value)= .string s from rfl,show(Enc.enc n:Value)= .int .i64 n from rfl,show(Enc.enc c:Value)= .string c from rfl,hx]
 have hb:bz c=[(bz c).getD 0 0]:=by
  have:c.size=1:=by rw[hc1];rfl
  have hl:(bz c).length=1:=by rw[jak];exact this
  match hq:bz c,hl with
  | [a],_=>rfl
 generalize hd:(bz c).getD 0 0=d at hb;have hcs:c.size=1:=by rw[←jak,hb];rfl
 show _;unfold s169;rw[hd];apply Ka<;>intro h
 ·have h:=jab h;refine c_t (jaa (by omega)) ?_;rw[ji3,show n.toNat-(bz s).length=0 by rw[jak];omega,List.replicate_zero,KA,←jfn,jcx,jh2]
 ·have h:=jac h;rw[w64 (n:=n-(s.size:Int)) (by omega)];refine c_t (jaa ⟨by omega,by omega,by omega⟩) fun s' e=> ?_
  rw[hb,jda]at e;have hdB:IsB [d]:=by rw[←hb];exact jdh c
  have hrB:IsB (List.replicate (n-(s.size:Int)).toNat d):=fun x hx=>by rw[Ky hx];exact hdB d (List.mem_singleton.2 rfl)
  have b':bz s'=List.replicate (n-(s.size:Int)).toNat d:=by rw[←e,jcs hrB]
  have z':s'.size=(n-(s.size:Int)).toNat:=by rw[←jak,b',Km]
  refine c_t (fitN (by omega)) ?_;rw[ji3,Kw (by rw[jak];omega),show n.toNat-(bz s).length=(n-(s.size:Int)).toNat by rw[jak];omega,←b',←jb0,jcx,jh2]
structure NumIs (x y:Num):Prop where
 h:x=y
structure RdIs (s:Y)(x:Option Num):Prop where
 h:rdN (bz s)=x
structure StrIs (x:O)(s:Y):Prop where
 h:szO x=s
structure BitsIs (s:Y)(b:Bool):Prop where
 h:jcn (bz s)=b
theorem jdj{P:Program}{f:FuncId}{s:Ab.Spec}(h:jan P f s){H:J→Lk→Nat→(Value→Lk→Nat→Prop)→Prop}
  (hH:∀args m n K,H args m n K→ ∃v,s args (args.map (blkOf m))=some (true,v)∧plain v=true∧K v m n):jcw P f H:=by
 obtain⟨hc,hp⟩:=h;refine⟨hc,fun args m n K hh N w0 ι w hrel hwf hargs=> ?_⟩;obtain⟨v,hs,hv,hk⟩:=hH args m n K hh;refine(hp args v N w0 m ι w hrel hs hv).mono fun e' w' ⟨h1,h2⟩=> ?_
 exact⟨v,m,n,ι,by rw[h1,ja9 _ hv],hk,Kv _,fun _ _=>rfl,hrel.grow h2,hwf,by simp[jbm hv]⟩
def jl5:J→Lk→Nat→(Value→Lk→Nat→Prop)→Prop:=fun args m n K=>match args with
 | [.iface 241 (.agg ⟨[.int .i64 a,.int .i64 _,.int .i64 _,.int .i64 q,.bool _,.string _]⟩)]=>match cnd (decide (-2147483648≤a∧a≤2147483648∧0≤q∧q≤9))with
  | true=>∀x:Num,NumIs (numA a q) x→K (.tuple ⟨[numV x,.nilIface]⟩) m n
  | false=>False
 | [.iface 242 (.string s)]=>match cnd (jcn (bz s) &&decide (s.size≤64))with
  | true=>∀x:Num,NumIs (jaz false (binD (bz s)) 0) x→K (.tuple ⟨[numV x,.nilIface]⟩) m n
  | false=>False
 | [.iface 245 (.string s)]=>match cnd (decide (s.size≤9223372036854775807))with
  | true=>(∀x:Num,RdIs s (some x)→K (.tuple ⟨[numV x,.nilIface]⟩) m n)∧(RdIs s none→K (.tuple ⟨[.agg ⟨[.bool false,.string ⟨#[]⟩,.int .i64 0]⟩,.iface 210 (.agg ⟨[.string s]⟩)]⟩) m n)
  | false=>False
 | _=>False
theorem gen_hid222:jcw Tryz.prog 277 jl5:=by
 refine jdj ok222 fun args m n K hh=> ?_
 unfold jl5 at hh;split at hh
 ·split at hh
  case h_2=>exact hh.elim
  rename_i hcc;exact⟨_,congrArg some (Prod.ext hcc rfl),rfl,hh _ ⟨rfl⟩⟩
 ·split at hh
  case h_2=>exact hh.elim
  rename_i hcc;exact⟨_,congrArg some (Prod.ext hcc rfl),rfl,hh _ ⟨rfl⟩⟩
 ·split at hh
  case h_2=>exact hh.elim
  rename_i s _ hcc;cases hr:rdN (bz s)with
  | some x=>
   refine⟨_,congrArg some (Prod.ext hcc rfl),?_,?_⟩
   ·rw[hr];rfl
   ·rw[hr];exact hh.1 x ⟨hr⟩
  | none=>
   refine⟨_,congrArg some (Prod.ext hcc rfl),?_,?_⟩
   ·rw[hr];rfl
   ·rw[hr];have:=hh.2 ⟨hr⟩;rw[←jdi]at this;exact this
 ·exact hh.elim
def jl6:J→Lk→Nat→(Value→Lk→Nat→Prop)→Prop:=fun args m n K=>match args with
 | [.iface 241 (.agg ⟨[.int .i64 a,.int .i64 k,.int .i64 p,.int .i64 q,.bool w,.string u]⟩)]=>match cnd (decide (jbi ⟨k,p,q,w,u⟩∧ -2147483648≤a∧a≤2147483648))with
  | true=>∀s:Y,StrIs (inB (jgg ⟨k,p,q,w,u⟩).toNat (divT q.toNat (absI a))) s→K (.tuple ⟨[S s,.nilIface]⟩) m n
  | false=>False
 | [.iface 242 (.string s)]=>K (.tuple ⟨[S s,.nilIface]⟩) m n
 | [.iface 245 (.string s)]=>match cnd (decide (s.size≤9223372036854775807))with
  | true=>(BitsIs s true→K (.tuple ⟨[S s,.nilIface]⟩) m n)∧(BitsIs s false→K (.tuple ⟨[S ⟨#[]⟩,.iface 210 (.agg ⟨[.string s]⟩)]⟩) m n)
  | false=>False
 | _=>False
theorem gen_hid170:jcw Tryz.prog 232 jl6:=by
 refine jdj ok170 fun args m n K hh=> ?_
 unfold jl6 at hh;split at hh
 ·split at hh
  case h_2=>exact hh.elim
  rename_i hcc;exact⟨_,congrArg some (Prod.ext hcc rfl),rfl,hh _ ⟨rfl⟩⟩
 ·exact⟨_,rfl,rfl,hh⟩
 ·split at hh
  case h_2=>exact hh.elim
  rename_i s _ hcc;cases hr:jcn (bz s)with
  | true=>
   refine⟨_,congrArg some (Prod.ext hcc rfl),?_,?_⟩
   ·rw[hr];rfl
   ·rw[hr];exact hh.1 ⟨hr⟩
  | false=>
   refine⟨_,congrArg some (Prod.ext hcc rfl),?_,?_⟩
   ·rw[hr];rfl
   ·rw[hr];exact hh.2 ⟨hr⟩
 ·exact hh.elim
instance tabsU:Tabs:=tabs
def Ua:Env:=(Env.nil.add 125 (sp2 Px.s22)).add 172 (sp1 Px.s46)
def Ub:Env:=((Env.nil.addG 277 jl5).addG 232 jl6).addG 281 (inlQ Tryz.prog Ua noL Tryz.f281)
theorem ok_Ua:ja3 Tryz.prog Ua:=jaj (jaj jav Px.ok22) Px.ok46
theorem ok_Ub:ja3 Tryz.prog Ub:=jau (jau (jau jav gen_hid222) gen_hid170) (jbh ok_Ua hmix (.m Tryz.func281) jal)
def nh(c:Bool)(a b:Y)(d:Prop):Prop:=bif im b a.size 9223372036854775807 9223372036854775807 then gv c a d False else False
def kf(a b:Y):Int:=(rdV (bz a) (bz b)).fst
theorem u222(s:Y)(p:Y)(R:Value→Prop):(jax Tryz.prog Ub noL Tryz.f277 [.iface 244 (.agg ⟨[.string s,.string p]⟩)] (fun _=>none) 0 (fun v _ _=>R v))=(nh (jj (-2147483648) (kf p s) 2147483648 0 (pQ (bz p)) 9) p s (∀a:Cv.Num,NumIs (numA (kf p s) (pQ (bz p))) a→R (nf (jw (Prod.fst a) (Prod.snd a))))):=by kernel_rfl
def mw(a:Fx.Ty)(b:Int):Bool:=decide (Fx.jbi a∧ -(2147483648:Int)≤b∧b≤2147483648)
theorem u170(s:Y)(p:Y)(R:Value→Prop):(jax Tryz.prog Ub noL Tryz.f232 [.iface 244 (.agg ⟨[.string s,.string p]⟩)] (fun _=>none) 0 (fun v _ _=>R v))=(nh (mw (Fx.Ty.mk (tyK (bz p)) (tyP (bz p)) (pQ (bz p)) false ay) (kf p s)) p s (∀a:Y,StrIs (inB (jgg (Fx.Ty.mk (tyK (bz p)) (tyP (bz p)) (pQ (bz p)) false ay)).toNat (divT (pQ (bz p)).toNat (absI (kf p s)))) a→R (aq [Value.nilIface] (.string a)))):=by kernel_rfl
theorem jk3{s t:Y}(h:pN (bz s)=true): -1000000000<(rdV (bz s) (bz t)).1∧(rdV (bz s) (bz t)).1<1000000000:=by
 have hp:=jdv h;have hv:=jk5 (jhg s) h (rdA (bz s) (bz t));obtain⟨g1,g2,g3,g4,g5,g6⟩:=hv;have hr:0≤rdA (bz s) (bz t)∧rdA (bz s) (bz t)<1000000000:=jgm _ _ 0 0 (by omega) (by decide) (by omega);unfold rdV;rw[Kd h]
 repeat' split
 all_goals (simp only;omega)
abbrev pT(p:Y):Ty:=⟨tyK (bz p),tyP (bz p),pQ (bz p),false,⟨#[]⟩⟩
theorem pT_v{p:Y}(h:pN (bz p)=true):jbi (pT p)∧0≤pQ (bz p)∧pQ (bz p)≤9:=by
 obtain⟨h1,h2,h3,h4⟩:=jdv h;have hv:=jdg h
 have e:tyK (bz p)=1∧tyP (bz p)=pD (bz p):=by
  unfold tyK tyP;rw[Kd hv,Kd hv,Kd h,Kd h];exact⟨rfl,rfl⟩
 refine⟨⟨.inl e.1,?_,?_,h3,?_,?_,rfl,by rw[ByteArray.toList_eq]⟩,h3,by omega⟩
 ·show 1≤tyP (bz p);omega
 ·show tyP (bz p)≤most (tyK (bz p));rw[e.1];unfold most;rw[Kd rfl];omega
 ·show pQ (bz p)≤tyP (bz p);omega
 ·show tyK (bz p)=2→_;omega
def s222s:Ab.Spec:=fun args _=>match args with
 | [.iface 244 (.agg ⟨[.string s,.string p]⟩)]=>some (pN (bz p) &&decide (s.size≤9223372036854775807∧p.size≤9223372036854775807),.tuple ⟨[numV (numA (rdV (bz p) (bz s)).1 (pQ (bz p))),.nilIface]⟩)
 | _=>none
theorem ok222s:jan Tryz.prog 277 s222s:=by
 refine jdd ok_Ub hmix fn222 jal fun args bs v hs=> ?_
 unfold s222s at hs;split at hs
 case h_2=>cases hs
 rename_i s p;simp only[Kb,Ke,jaf,jae]at hs;obtain⟨⟨hn,h1,h2⟩,rfl⟩:=hs;refine⟨rfl,jag,?_⟩;rw[ja4,u222];delta av cw gv im nh aq cu nf jw kf jj;have hr:=jk3 (t:=s) hn;have hp:=pT_v hn;exact c_t (jaa ⟨h2,h1⟩) (c_t (jaa h2) (c_t (jaa (by omega)) fun x hx=>by rw[←hx.h]))
def s170s:Ab.Spec:=fun args _=>match args with
 | [.iface 244 (.agg ⟨[.string s,.string p]⟩)]=>some (pN (bz p) &&decide (s.size≤9223372036854775807∧p.size≤9223372036854775807),.tuple ⟨[S (szO (inB (jgg (pT p)).toNat (divT (pQ (bz p)).toNat (absI (rdV (bz p) (bz s)).1)))),.nilIface]⟩)
 | _=>none
theorem ok170s:jan Tryz.prog 232 s170s:=by
 refine jdd ok_Ub hmix fn170 jal fun args bs v hs=> ?_
 unfold s170s at hs;split at hs
 case h_2=>cases hs
 rename_i s p;simp only[Kb,Ke,jaf,jae]at hs;obtain⟨⟨hn,h1,h2⟩,rfl⟩:=hs;refine⟨rfl,jag,?_⟩;rw[ja4,u170];delta av cw gv im nh aq kf ay mw;have hr:=jk3 (t:=s) hn;have hp:=pT_v hn;exact c_t (jaa ⟨h2,h1⟩) (c_t (jaa h2) (c_t (jaa ⟨hp.1,by omega,by omega⟩) fun x hx=>by rw[←hx.h]))
def jn5:J→Lk→Nat→(Value→Lk→Nat→Prop)→Prop:=fun args m n K=>match args with
 | [.iface 244 (.agg ⟨[.string s,.string p]⟩)]=>match cnd (pN (bz p) &&decide (s.size≤9223372036854775807∧p.size≤9223372036854775807))with
  | true=>∀x:Num,NumIs (numA (rdV (bz p) (bz s)).1 (pQ (bz p))) x→K (.tuple ⟨[numV x,.nilIface]⟩) m n
  | false=>False
 | _=>jl5 args m n K
def jn7:J→Lk→Nat→(Value→Lk→Nat→Prop)→Prop:=fun args m n K=>match args with
 | [.iface 244 (.agg ⟨[.string s,.string p]⟩)]=>match cnd (pN (bz p) &&decide (s.size≤9223372036854775807∧p.size≤9223372036854775807))with
  | true=>∀b:Y,StrIs (inB (jgg (pT p)).toNat (divT (pQ (bz p)).toNat (absI (rdV (bz p) (bz s)).1))) b→K (.tuple ⟨[S b,.nilIface]⟩) m n
  | false=>False
 | _=>jl6 args m n K
theorem gen_two{f:FuncId}{H1 H2 H:J→Lk→Nat→(Value→Lk→Nat→Prop)→Prop}(h1:jcw Tryz.prog f H1)(h2:jcw Tryz.prog f H2)(h:∀args m n K,H args m n K→H1 args m n K∨H2 args m n K):jcw Tryz.prog f H:=
 ⟨h1.1,fun args m n K hh=>(h args m n K hh).elim (fun q=>h1.2 args m n K q) (fun q=>h2.2 args m n K q)⟩
def hs222:J→Lk→Nat→(Value→Lk→Nat→Prop)→Prop:=fun args m n K=>match args with
 | [.iface 244 (.agg ⟨[.string s,.string p]⟩)]=>match cnd (pN (bz p) &&decide (s.size≤9223372036854775807∧p.size≤9223372036854775807))with
  | true=>∀x:Num,NumIs (numA (rdV (bz p) (bz s)).1 (pQ (bz p))) x→K (.tuple ⟨[numV x,.nilIface]⟩) m n
  | false=>False
 | _=>False
theorem gen_hs222:jcw Tryz.prog 277 hs222:=by
 refine jdj ok222s fun args m n K hh=> ?_
 unfold hs222 at hh;split at hh
 case h_2=>exact hh.elim
 split at hh
 case h_2=>exact hh.elim
 rename_i hcc;exact⟨_,congrArg some (Prod.ext hcc rfl),rfl,hh _ ⟨rfl⟩⟩
theorem gen_hu222:jcw Tryz.prog 277 jn5:=gen_two gen_hs222 gen_hid222 fun args m n K hh=>by
 unfold jn5 at hh;split at hh
 ·exact .inl hh
 ·exact .inr hh
def hs170:J→Lk→Nat→(Value→Lk→Nat→Prop)→Prop:=fun args m n K=>match args with
 | [.iface 244 (.agg ⟨[.string s,.string p]⟩)]=>match cnd (pN (bz p) &&decide (s.size≤9223372036854775807∧p.size≤9223372036854775807))with
  | true=>∀b:Y,StrIs (inB (jgg (pT p)).toNat (divT (pQ (bz p)).toNat (absI (rdV (bz p) (bz s)).1))) b→K (.tuple ⟨[S b,.nilIface]⟩) m n
  | false=>False
 | _=>False
theorem gen_hs170:jcw Tryz.prog 232 hs170:=by
 refine jdj ok170s fun args m n K hh=> ?_
 unfold hs170 at hh;split at hh
 case h_2=>exact hh.elim
 split at hh
 case h_2=>exact hh.elim
 rename_i hcc;exact⟨_,congrArg some (Prod.ext hcc rfl),rfl,hh _ ⟨rfl⟩⟩
theorem gen_hu170:jcw Tryz.prog 232 jn7:=gen_two gen_hs170 gen_hid170 fun args m n K hh=>by
 unfold jn7 at hh;split at hh
 ·exact .inl hh
 ·exact .inr hh
structure EdIs (p:Y)(n q:Int)(x:Y×Bool×Int):Prop where
 h:(sz (edS (bz p) n q),edF (bz p) n q,edE (bz p) q)=x
def jn6:J→Lk→Nat→(Value→Lk→Nat→Prop)→Prop:=fun args m n K=>match args with
 | [.int .i64 a,.int .i64 q,.string p]=>match cnd (decide (p.size≤9223372036854775807∧ -9223372036854775808≤a∧a≤9223372036854775807))with
  | true=>∀(s:Y)(b:Bool)(e:Int),EdIs p a q (s,b,e)→K (.tuple ⟨[S s,B b,I e]⟩) m n
  | false=>False
 | _=>False
theorem gen_hu171:jcw Tryz.prog 233 jn6:=by
 refine jdj Px.ok20 fun args m n K hh=> ?_
 unfold jn6 at hh;split at hh
 case h_2=>exact hh.elim
 split at hh
 case h_2=>exact hh.elim
 rename_i hcc;exact⟨_,congrArg some (Prod.ext hcc rfl),rfl,hh _ _ _ ⟨rfl⟩⟩
structure HoIs (p s:Y)(b:Bool):Prop where
 h:hoZ (bz p) (bz s)=b
def hu72:J→Lk→Nat→(Value→Lk→Nat→Prop)→Prop:=fun args m n K=>match args with
 | [.string p,.string s]=>match cnd (decide (p.size≤9223372036854775807∧s.size≤9223372036854775807))with
  | true=>∀b:Bool,HoIs p s b→K (B b) m n
  | false=>False
 | _=>False
theorem gen_hu72:jcw Tryz.prog 75 hu72:=by
 refine jdj Px.ok24 fun args m n K hh=> ?_
 unfold hu72 at hh;split at hh
 case h_2=>exact hh.elim
 split at hh
 case h_2=>exact hh.elim
 rename_i hcc;exact⟨_,congrArg some (Prod.ext hcc rfl),rfl,hh _ ⟨rfl⟩⟩
instance tabsU4:Tabs:=tabs
def s323u:Ab.Spec:=fun args _=>match args with
 | [.agg ⟨[.string s,.string _]⟩]=>some (true,.string s)
 | _=>none
def U0:Env:=(Env.nil.add 278 (sp2 s26)).addG 277 jn5
def U1:Env:=((((((((((Env.nil.add 338 (sp1 s321)).addG 232 jn7).addG 231 (hideS (sp3 s169))).addG 233 jn6).addG 75 hu72).add 170 (sp1 Px.s31)).add 172 (sp1 Px.s46)).add 340 (sp1 s322)).add 341 s323u).add 342 (sp1 s324)).addG 230 (inlQ Tryz.prog U0 noL Tryz.f230)
theorem u323(s p:Y)(R:Value→Prop):jax Tryz.prog Env.nil noL Tryz.f341 [.agg ⟨[.string s,.string p]⟩] (fun _=>none) 0 (fun v _ _=>R v)=R (Value.string s):=by kernel_rfl
theorem ok323u:jan Tryz.prog 341 s323u:=by
 refine jdd jav hmix (.m Tryz.func341) jal fun args bs v hs=> ?_
 unfold s323u at hs;split at hs
 case h_2=>cases hs
 cases hs;refine⟨rfl,jag,?_⟩;rw[ja4,u323]
theorem ok_U0:ja3 Tryz.prog U0:=jau (jaj jav ok26) gen_hu222
theorem ok_U1:ja3 Tryz.prog U1:=jau (jaj (jaj (jaj (jaj (jaj (jau (jau (jau (jau (jaj jav ok321) gen_hu170) (jea ok169)) gen_hu171) gen_hu72) Px.ok31) Px.ok46) ok322) ok323u) ok324) (jbh ok_U0 hmix fn168 jal)
abbrev tp3(a:Int)(s:Y)(c:Int)(e:Value):Value:= .tuple ⟨[.agg ⟨[I a,S s]⟩,I c,e]⟩
abbrev er(s:Y):Value:= .iface 210 (.agg ⟨[.string s]⟩)
def tlA(R:Value→Prop)(t:Ty)(x:Num):Prop:=bif decide (ByteArray.size (szO x.2.1)≤9223372036854775807)then R (tp3 (tkV x.1 (bz (szO x.2.1)) x.2.2 t).1 ⟨#[]⟩ (tkV x.1 (bz (szO x.2.1)) x.2.2 t).2.1 .nilIface)else False
def tlC(R:Value→Prop)(t:Ty)(s:Y):Prop:=bif !t.v || true then bif !t.v || decide ((↑(ByteArray.size s):Int)>t.p)then bif decide (0≤t.p∧t.p≤1000) &&true then
  ∀s':Y,szO (ji3 (bz s) (Int.toNat t.p) (List.getD (bz (ByteArray.mk #[32])) 0 0))=s'→R (tp3 0 s' 0 .nilIface)else False else R (tp3 0 s 0 .nilIface)else False
def tlB(R:Value→Prop)(t:Ty)(e:Value)(s:Y):Prop:=bif decide (0≤t.p∧t.p≤1000) &&true then
  ∀s':Y,szO (ji3 (bz s) (Int.toNat t.p) (List.getD (bz (ByteArray.mk #[48])) 0 0))=s'→R (tp3 0 s' 0 e)else False
def tlX(R:Value→Prop)(t:Ty)(s:Y):Prop:=bif decide (0≤tyP (bz t.s)∧tyP (bz t.s)≤1000) &&true then
  ∀s':Y,szO (ji3 (bz s) (Int.toNat (tyP (bz t.s))) (List.getD (bz (ByteArray.mk #[32])) 0 0))=s'→bif decide (ByteArray.size t.s≤9223372036854775807∧ByteArray.size s'≤9223372036854775807)then
   ∀b:Bool,HoIs t.s s' b→bif !b then R (tp3 0 ⟨#[]⟩ 0 (er s'))else R (tp3 0 s' 0 .nilIface)else False else False
def tlE(R:Value→Prop)(t:Ty)(x:Num):Prop:=bif decide (ByteArray.size (szO x.2.1)≤9223372036854775807)then bif decide (ByteArray.size t.s≤9223372036854775807∧ -9223372036854775808≤(tkV x.1 (bz (szO x.2.1)) x.2.2 (pT t.s)).1∧(tkV x.1 (bz (szO x.2.1)) x.2.2 (pT t.s)).1≤9223372036854775807)then
  ∀(s:Y)(b:Bool)(e:Int),EdIs t.s (tkV x.1 (bz (szO x.2.1)) x.2.2 (pT t.s)).1 (pQ (bz t.s)) (s,b,e)→bif !b then R (tp3 0 s 1 .nilIface)else R (tp3 0 s (tkV x.1 (bz (szO x.2.1)) x.2.2 (pT t.s)).2.1 .nilIface)else False else False
def skU(R:Value→Prop)(t:Ty)(nm:(Num→Prop)→Prop)(tx:(Y→Prop)→Prop)(bt:Prop):Prop:=
 bif t.k==1 then nm (tlA R t)else bif t.k==2 then nm (tlA R t)else bif t.k==3 then tx (tlC R t)else bif t.k==4 then bt else
 bif decide (ByteArray.size t.s≤9223372036854775807)then bif decide (ByteArray.size t.s≤9223372036854775807)then bif !pN (bz t.s)then tx (tlX R t)∧tx (tlX R t)∧tx (tlX R t)else nm (tlE R t)else False else False
theorem u99_w(n k p q:Int)(w:Bool)(u:Y)(t:Ty)(R:Value→Prop):jax Tryz.prog U1 noL Tryz.f167 [.iface 241 (.agg ⟨[.int .i64 n,.int .i64 k,.int .i64 p,.int .i64 q,.bool w,.string u]⟩),Enc.enc t] (fun _=>none) 0 (fun v _ _=>R v)=(skU R t (fun a=>bif jj (-2147483648) n 2147483648 0 q 9 then∀b:Cv.Num,NumIs (numA n q) b→a b else False) (fun a=>bif mw (Fx.Ty.mk k p q w u) n then a (szO (txtZ n (Fx.Ty.mk k p q w u)))else False) (bif mw (Fx.Ty.mk k p q w u) n then∀a:Y,StrIs (inB (jgg (Fx.Ty.mk k p q w u)).toNat (divT q.toNat (absI n))) a→tlB R t Value.nilIface a else False)):=by kernel_rfl
theorem u99_b(s:Y)(t:Ty)(R:Value→Prop):jax Tryz.prog U1 noL Tryz.f167 [.iface 242 (.string s),Enc.enc t] (fun _=>none) 0 (fun v _ _=>R v)=(skU R t (fun a=>bif jcn (bz s) &&decide (s.size≤64)then∀b:Cv.Num,NumIs (jaz false (binD (bz s)) 0) b→a b else False) (fun a=>a s) (tlB R t Value.nilIface s)):=by kernel_rfl
theorem u99_c(s:Y)(t:Ty)(R:Value→Prop):jax Tryz.prog U1 noL Tryz.f167 [.iface 245 (.string s),Enc.enc t] (fun _=>none) 0 (fun v _ _=>R v)=(skU R t (fun a=>bif cw s then(∀b:Cv.Num,RdIs s (some b)→a b)∧(RdIs s none→R (tp3 0 ay 0 (er s)))else False) (fun a=>a s) (bif cw s then(BitsIs s true→tlB R t Value.nilIface s)∧(BitsIs s false→tlB R t (er s) ay)else False)):=by kernel_rfl
theorem u99_p(s pc:Y)(t:Ty)(R:Value→Prop):jax Tryz.prog U1 noL Tryz.f167 [.iface 244 (.agg ⟨[.string s,.string pc]⟩),Enc.enc t] (fun _=>none) 0 (fun v _ _=>R v)=(skU R t (fun a=>bif pN (bz pc) &&im pc s.size 9223372036854775807 9223372036854775807 then∀b:Cv.Num,NumIs (numA (kf pc s) (pQ (bz pc))) b→a b else False) (fun a=>a s) (bif pN (bz pc) &&im pc s.size 9223372036854775807 9223372036854775807 then∀a:Y,StrIs (inB (jgg (pT pc)).toNat (divT (pQ (bz pc)).toNat (absI (kf pc s)))) a→tlB R t Value.nilIface a else False)):=by kernel_rfl
end Go.Cx
end
noncomputable section
namespace Go.Cx
open Go Go.Ab Go.Proofs Go.Shelf Go.Px Go.Cv
theorem nz_len(l:O):(nz l).length≤l.length:=KG (jhf _ _) (jd4 _ _)
theorem jgp(g:Bool)(l:O)(q:Int):(jaz g l q).2.1.length≤l.length:=by
 unfold jaz;split
 ·simp
 ·exact nz_len l
theorem decR_len{g:Bool}{l:O}{x:Num}(h:decR jaz g l=some x):x.2.1.length≤l.length+l.length:=by
 rw[jj7]at h;cases hd:decE l with
 | none=>rw[hd]at h;cases h
 | some e=>
  rw[hd]at h;have h:decB g (Cv.ahead 69 l) e=some x:=h;unfold decB at h;split at h
  ·cases h;refine KG (jgp _ _ _) ?_;have h1:=jej 69 l;have h2:=jej 46 (Cv.ahead 69 l)
   have h3:((past 46 (Cv.ahead 69 l)).getD []).length≤l.length:=by
    rw[jdr];split
    ·rw[Option.getD_some,KE];omega
    ·simp
   rw[Kk];omega
  ·cases h
theorem jke{g:Bool}{l:O}{x:Num}(hl:l.length≤255)(h:bodR jaz binD g l=some x):x.2.1.length≤600:=by
 unfold bodR at h;split at h
 ·split at h
  ·rename_i q;cases h;refine KG (jgp _ _ _) ?_;have hr:=jmg q.2 (by rw[List.length_dropLast];exact q.1);rw[binD,decZ,zl,K9];have:=jf0 9 (binG l.dropLast 0).toNat (by omega);omega
  ·cases h
 ·have:=decR_len h;omega
theorem rdN_len(l:O):((rdN l).getD num0).2.1.length≤600:=by
 cases h:rdN l with
 | none=>simp[num0]
 | some x=>
  rw[Option.getD_some];unfold rdN at h;split at h
  ·cases h
  rename_i hl;have h1:=jhf (tlZ l 32) 32;have h2:=jd4 l 32;unfold numR at h;rw[jlv,jlu]at h;generalize trZ (tlZ l 32) 32=u at h h1;unfold sgnR at h;split at h
  ·cases h;simp
  ·rename_i r _;exact jke (by simp at h1;omega) h
  ·rename_i r _;exact jke (by simp at h1;omega) h
  ·exact jke (by omega) h
end Go.Cx
end
noncomputable section
namespace Go.Cx
open Go Go.Ab Go.Px Go.Cv
open Go.Fx (Ty Vl check jbi most base pw bnd Fit fits scl cutN cutC InB)
theorem jfz(l r:O)(a:Int):decG (l++r) a=decG r (decG l a):=by
 rw[jg9,jg9,jg9,List.foldl_append]
theorem jj8:∀(k:Nat)(a:Int),decG (rep48 k) a=a*10^k
 | 0,a=>by simp[rep48,decG]
 | k+1,a=>by
  rw[rep48,List.replicate_succ,decG,←rep48,jj8 k,Int.pow_succ];grind
theorem tl_app(l:O):∃k,l=rep48 k++tlZ l 48:=by
 induction l with
 | nil=>exact⟨0,rfl⟩
 | cons c r ih=>
  by_cases h:c=48
  ·subst h;obtain⟨k,e⟩:=ih;refine⟨k+1,?_⟩;rw[jkz,rep48,List.replicate_succ,List.cons_append,←rep48,←e]
  ·exact⟨0,by rw[jnz h];rfl⟩
theorem tr_app(l:O):∃k,l=trZ l 48++rep48 k∧l.length=(trZ l 48).length+k:=by
 obtain⟨k,e⟩:=tl_app l.reverse;refine⟨k,?_,?_⟩
 ·have:=congrArg List.reverse e;rw[List.reverse_reverse,List.reverse_append,rep48,List.reverse_replicate,←rep48]at this;exact this
 ·have:=congrArg List.length e;rw[KL,Kk,rep48,Km]at this;rw[trZ,KL];unfold tlZ at this;omega
theorem nz_val(l:O):∃k:Nat,decG l 0=decG (nz l) 0*10^k∧(tlZ l 48).length=(nz l).length+k:=by
 obtain⟨j,e⟩:=tl_app l;obtain⟨k,e2,e3⟩:=tr_app (tlZ l 48);refine⟨k,?_,e3⟩
 have e1:decG l 0=decG (tlZ l 48) 0:=by
  have:=jfz (rep48 j) (tlZ l 48) 0;rw[←e,jj8,Int.zero_mul]at this;exact this
 rw[e1];have:=jfz (nz l) (rep48 k) 0;rw[jj8]at this;rw[←this];exact congrArg (decG · 0) e2
theorem nz_digs{l:O}(h:jbc l=true):jbc (nz l)=true:=Kf.2 fun c hc=>by
 refine Kf.1 h c ?_;unfold nz trZ at hc;rw[List.mem_reverse]at hc;have h1:=(Kt _).subset hc;rw[List.mem_reverse]at h1;exact(Kt _).subset h1
theorem jlh{p:Int→Bool}:∀(l:O)(c:Int),(l.dropWhile p).head?=some c→p c=false
 | [],c,h=>by cases h
 | a::r,c,h=>by
  by_cases ha:p a=true
  ·rw[List.dropWhile_cons_of_pos ha]at h;exact jlh r c h
  ·rw[List.dropWhile_cons_of_neg ha]at h;cases h;simpa using ha
theorem nz_head{l:O}:(nz l).head?≠some 48∧(nz l).getLast?≠some 48:=by
 constructor
 ·intro q;obtain⟨k,e,_⟩:=tr_app (tlZ l 48)
  have:(tlZ l 48).head?=some 48:=by
   rw[e];change (nz l++rep48 k).head?=_;rw[List.head?_append,q];rfl
  have:=jlh l 48 this;simp at this
 ·intro q;unfold nz trZ at q;rw[List.getLast?_reverse]at q;have:=jlh _ 48 q;simp at this
end Go.Cx
end
noncomputable section
set_option maxHeartbeats 3200000
namespace Go.Cx
open Go Go.Ab Go.Proofs Go.Shelf Go.Px Go.Cv
open Go.Fx (Ty Vl check jbi most base pw bnd Fit fits tv vv tup V0 T0 jbw jbx jbp jcf str0)
inductive Fu where
 | w (n:Int) (t:Ty)
 | b (s:Y)
 | c (s:Y)
 | p (s pc:Y)
def numU:Fu→Option Num
 | .w n t=>some (numA n t.q)
 | .b s=>some (jaz false (binD (bz s)) 0)
 | .c s=>rdN (bz s)
 | .p s pc=>some (numA (rdV (bz pc) (bz s)).1 (pQ (bz pc)))
def txtU:Fu→Y
 | .w n t=>szO (txtZ n t)
 | .b s=>s
 | .c s=>s
 | .p s _=>s
def bitU:Fu→Option Y
 | .w n t=>some (szO (inB (jgg t).toNat (divT t.q.toNat (absI n))))
 | .b s=>some s
 | .c s=>if jcn (bz s)=true then some s else none
 | .p s pc=>some (szO (inB (jgg (pT pc)).toNat (divT (pQ (bz pc)).toNat (absI (rdV (bz pc) (bz s)).1))))
abbrev Cu:=Int×Y×Int×Option Y
def tkU(x:Num)(t:Ty):Int×Int×Int:=tkV x.1 (bz (szO x.2.1)) x.2.2 t
def fiU(s:Y)(n c:Int):Y:=szO (ji3 (bz s) n.toNat c)
def cuN(f:Fu)(C:Num→Cu):Cu:=match numU f with
 | some x=>C x
 | none=>(0,⟨#[]⟩,0,some (txtU f))
def cuV(f:Fu)(t:Ty):Cu:=
 if t.k=1∨t.k=2 then cuN f fun x=>((tkU x t).1,⟨#[]⟩,(tkU x t).2.1,none)
 else if t.k=3 then(0,if t.v=true∧ ¬((txtU f).size:Int)>t.p then txtU f else fiU (txtU f) t.p 32,0,none)
 else if t.k=4 then(0,fiU ((bitU f).getD ⟨#[]⟩) t.p 48,0,if(bitU f).isSome then none else some (txtU f))
 else if pN (bz t.s)=true then cuN f fun x=>(0,sz (edS (bz t.s) (tkU x (pT t.s)).1 (pQ (bz t.s))),if edF (bz t.s) (tkU x (pT t.s)).1 (pQ (bz t.s))=true then(tkU x (pT t.s)).2.1 else 1,none)
 else if hoZ (bz t.s) (bz (fiU (txtU f) (tyP (bz t.s)) 32))=true then(0,fiU (txtU f) (tyP (bz t.s)) 32,0,none)else(0,⟨#[]⟩,0,some (fiU (txtU f) (tyP (bz t.s)) 32))
def cuF:Fu→Prop
 | .w n u=>jbi u∧ -2147483648≤n∧n≤2147483648
 | .b s=>jcn (bz s)=true∧s.size≤64
 | .c s=>s.size≤9223372036854775807
 | .p s pc=>pN (bz pc)=true∧s.size≤9223372036854775807∧pc.size≤9223372036854775807
def cuA(f:Fu)(t:Ty):Prop:=cuF f∧chk4 t=0∧t.k≠6∧t.s.size≤9223372036854775807
def eV:Option Y→Value
 | none=> .nilIface
 | some s=>er s
abbrev cuR(x:Cu):Value:=tp3 x.1 x.2.1 x.2.2.1 (eV x.2.2.2)
theorem numU_len{f:Fu}(h:cuF f){x:Num}(hx:numU f=some x):x.2.1.length≤600:=by
 cases f with
 | w n u=>
  obtain⟨hv,h1,h2⟩:=h;cases hx;show(numA n u.q).2.1.length≤600;refine KG (jgp _ _ _) ?_;have:=jd9 (m:=if n<0 then -n else n) (by split<;>omega);omega
 | b s=>
  cases hx;have hb:=jmf h.1 (by rw[jak];exact h.2);have hd:=jmb 20 (binG (bz s) 0) hb.1 (Int.lt_of_lt_of_le hb.2 (by decide));show(jaz false (binD (bz s)) 0).2.1.length≤600;rw[←jk6];exact KG (jgp _ _ _) (by omega)
 | c s=>
  have:=rdN_len (bz s);rw[show rdN (bz s)=some x from hx]at this;exact this
 | p s pc=>
  cases hx;have hr:=jk3 (t:=s) h.1;show(numA (rdV (bz pc) (bz s)).1 (pQ (bz pc))).2.1.length≤600;refine KG (jgp _ _ _) ?_;have:=jd9 (m:=if(rdV (bz pc) (bz s)).1<0 then -(rdV (bz pc) (bz s)).1 else(rdV (bz pc) (bz s)).1) (by split<;>omega);omega
theorem tkV_rng(g:Bool)(l:O)(c:Int)(t:Ty): -2147483648≤(tkV g l c t).1∧(tkV g l c t).1≤2147483648:=by
 unfold tkV;split
 ·simp
 rename_i hn;split
 ·simp
 rename_i hv;have hv:jbi t:=Classical.not_not.1 hv;have hb:=Fx.bnd_range hv
 have hd:jbc l=true:=by
  unfold jgf at hn;split at hn
  ·rename_i e;rw[e];rfl
  ·simp at hn;exact hn.2.1
 have hr:=jhn (b:=bnd t) (by omega) (plcR l c t.q) 0 0 (jgn hd) (by omega);unfold tkR;simp only;split<;>omega
theorem k5_of{t:Ty}(h:chk4 t=0)(h6:t.k≠6)(h1:¬(t.k=1∨t.k=2))(h3:t.k≠3)(h4:t.k≠4):t.k=5∧vOK (bz t.s)=true:=by
 unfold chk4 at h;have hv:jbi t→t.k=1∨t.k=2:=fun h=>h.1
 rw[Kc (fun q=>h1 (hv q)),Kc (fun q=>h3 q.1),Kc (fun q=>h4 q.1)]at h;split at h
 ·rename_i q;refine⟨q.1,?_⟩;have:=q.2.2.2.2;unfold pE at this;split at this
  ·assumption
  ·cases this
 ·rw[Kc (fun q=>h6 q.1)]at h;cases h
theorem p1000{t:Ty}(h:chk4 t=0)(h3:t.k=3∨t.k=4):0≤t.p∧t.p≤1000:=by
 unfold chk4 at h;have hv:jbi t→t.k=1∨t.k=2:=fun h=>h.1
 grind
theorem jnm{f:Fu}{t:Ty}(h:cuA f t){nm:(Num→Prop)→Prop}{tx:(Y→Prop)→Prop}{bt:Prop}
  (hN:∀C:Num→Prop,(∀x,numU f=some x→C x)→(numU f=none→tp3 0 ⟨#[]⟩ 0 (er (txtU f))=cuR (cuV f t))→nm C)
  (hX:∀C:Y→Prop,C (txtU f)→tx C)
  (hB:(∀s,bitU f=some s→tlB (fun v=>v=cuR (cuV f t)) t .nilIface s)→(bitU f=none→tlB (fun v=>v=cuR (cuV f t)) t (er (txtU f)) ⟨#[]⟩)→bt):skU (fun v=>v=cuR (cuV f t)) t nm tx bt:=by
 obtain⟨hF,hk,h6,hs⟩:=h;unfold skU
 have hA:(t.k=1∨t.k=2)→nm (tlA (fun v=>v=cuR (cuV f t)) t):=fun hk12=>by
  have e:cuV f t=cuN f fun x=>((tkU x t).1,⟨#[]⟩,(tkU x t).2.1,none):=Kd hk12
  refine hN _ (fun x hx=> ?_) (fun hx=> ?_)
  ·rw[e,cuN,hx];exact c_t (jaa (by rw[jbu];exact KG (numU_len hF hx) (by decide))) rfl
  ·rw[e,cuN,hx];rfl
 refine Ka (fun h1=>hA (.inl (by simpa using h1))) (fun h1=>Ka (fun h2=>hA (.inr (by simpa using h2))) (fun h2=> ?_));have n12:¬(t.k=1∨t.k=2):=by simp at h1 h2;omega
 refine Ka (fun h3=> ?_) (fun h3=>Ka (fun h4=> ?_) (fun h4=> ?_))
 ·have h3:t.k=3:=by simpa using h3
  have e:cuV f t=(0,if t.v=true∧ ¬((txtU f).size:Int)>t.p then txtU f else fiU (txtU f) t.p 32,0,none):=by unfold cuV;rw[Kc n12,Kd h3]
  rw[e];refine hX _ (c_t (Bool.or_true _) (Ka (fun h=> ?_) (fun h=> ?_)))
  ·refine c_t (by rw[jaa (p1000 hk (.inl h3))];rfl) fun s' hs=> ?_
   rw[Kc,←hs]
   ·rfl
   ·rintro ⟨h1,h2⟩;rw[h1,jad h2]at h;cases h
  ·rw[Kd]
   ·rfl
   ·cases hw:t.v<;>simp[hw]at h ⊢;omega
 ·have h4:t.k=4:=by simpa using h4
  have e:cuV f t=(0,fiU ((bitU f).getD ⟨#[]⟩) t.p 48,0,if(bitU f).isSome then none else some (txtU f)):=by unfold cuV;rw[Kc n12,Kc (by omega),Kd h4]
  rw[e]at hB;refine hB (fun s hs'=> ?_) (fun hs'=> ?_)
  all_goals
   rw[hs'];refine c_t (by rw[jaa (p1000 hk (.inr h4))];rfl) fun s' hs=> ?_
   rw[←hs];rfl
 ·have n3:t.k≠3:=by simpa using h3
  have n4:t.k≠4:=by simpa using h4
  have h5:=k5_of hk h6 n12 n3 n4;refine c_t (jaa hs) (c_t (jaa hs) (Ka (fun hp=> ?_) (fun hp=> ?_)))
  ·have hp:¬pN (bz t.s)=true:=by simpa using hp
   have e:cuV f t=if hoZ (bz t.s) (bz (fiU (txtU f) (tyP (bz t.s)) 32))=true then(0,fiU (txtU f) (tyP (bz t.s)) 32,0,none)else(0,⟨#[]⟩,0,some (fiU (txtU f) (tyP (bz t.s)) 32)):=by unfold cuV;rw[Kc n12,Kc n3,Kc n4,Kc hp]
   have hw:0≤tyP (bz t.s)∧tyP (bz t.s)≤1000:=by
    have:= @jkj t.s;unfold tyP;rw[Kd h5.2,Kc hp];omega
   have hT:tlX (fun v=>v=cuR (cuV f t)) t (txtU f):=by
    rw[e];refine c_t (by rw[jaa hw];rfl) fun s' hs'=> ?_
    have es:fiU (txtU f) (tyP (bz t.s)) 32=s':=hs'
    have hl:s'.size≤9223372036854775807:=by
     rw[←es,fiU,jbu,ji3,Kk,Kp,Km];omega
    rw[es];refine c_t (jaa ⟨hs,hl⟩) fun b hb=> ?_
    rw[hb.h];cases b
    ·rfl
    ·rfl
   exact⟨hX _ hT,hX _ hT,hX _ hT⟩
  ·have hp:pN (bz t.s)=true:=by simpa using hp
   have e:cuV f t=cuN f fun x=>(0,sz (edS (bz t.s) (tkU x (pT t.s)).1 (pQ (bz t.s))),if edF (bz t.s) (tkU x (pT t.s)).1 (pQ (bz t.s))=true then(tkU x (pT t.s)).2.1 else 1,none):=by unfold cuV;rw[Kc n12,Kc n3,Kc n4,Kd hp]
   refine hN _ (fun x hx=> ?_) (fun hx=> ?_)
   ·rw[e,cuN,hx];refine c_t (jaa (by rw[jbu];exact KG (numU_len hF hx) (by decide))) ?_;have hr:=tkV_rng x.1 (bz (szO x.2.1)) x.2.2 (pT t.s);refine c_t (jaa ⟨hs,by omega,by omega⟩) fun s b c hc=> ?_
    have hc:=hc.h;simp only[Ke]at hc;obtain⟨c1,c2,c3⟩:=hc;simp only[tkU];rw[c1];simp only[c2];cases b<;>rfl
   ·rw[e,cuN,hx];rfl
def decU:Value→Option Fu
 | .iface 241 (.agg ⟨[.int .i64 n,.int .i64 k,.int .i64 p,.int .i64 q,.bool w,.string u]⟩)=>some (.w n ⟨k,p,q,w,u⟩)
 | .iface 242 (.string s)=>some (.b s)
 | .iface 245 (.string s)=>some (.c s)
 | .iface 244 (.agg ⟨[.string s,.string p]⟩)=>some (.p s p)
 | _=>none
open Classical in
theorem cuD_ex:∃d:Fu→Ty→Bool,∀f t,d f t=true↔cuA f t:=⟨fun f t=>decide (cuA f t),fun f t=>by simp⟩
def cuD:Fu→Ty→Bool:=Classical.choose cuD_ex
theorem jlm{f:Fu}{t:Ty}:cuD f t=true↔cuA f t:=Kn cuD_ex f t
def s99u:Ab.Spec:=fun args _=>match args with
 | [a,.agg ⟨[.int .i64 k,.int .i64 p,.int .i64 q,.bool w,.string u]⟩]=>match decU a with
  | some f=>some (cuD f ⟨k,p,q,w,u⟩,cuR (cuV f ⟨k,p,q,w,u⟩))
  | none=>none
 | _=>none
theorem ok99u:jan Tryz.prog 167 s99u:=by
 refine jdd ok_U1 hmix fn99 jal fun args bs v hs=> ?_
 unfold s99u at hs;split at hs
 case h_2=>cases hs
 rename_i a k p q w u;split at hs
 case h_2=>cases hs
 rename_i f hf;simp only[Kb,Ke]at hs;obtain⟨hA,rfl⟩:=hs;have hA:=jlm.1 hA;have en:(.agg ⟨[.int .i64 k,.int .i64 p,.int .i64 q,.bool w,.string u]⟩:Value)=Enc.enc (⟨k,p,q,w,u⟩:Ty):=rfl;unfold decU at hf;split at hf
 ·cases hf;refine⟨rfl,jag,?_⟩;rw[ja4];rw[en,u99_w];delta mw jj;refine jnm hA (fun C h1 _=> ?_) (fun C h1=> ?_) (fun h1 _=> ?_)
  ·exact c_t (jaa (by have⟨h1,h2,h3⟩:=hA.1;obtain⟨v1,v2,v3,v4,v5⟩:=Fx.valid_r h1;exact⟨h2,h3,v3,v5⟩)) fun x hx=>h1 x (congrArg some hx.h)
  ·exact c_t (jaa hA.1) h1
  ·exact c_t (jaa hA.1) fun s hs=>h1 s (congrArg some hs.h)
 ·cases hf;refine⟨rfl,jag,?_⟩;rw[ja4];rw[en,u99_b];refine jnm hA (fun C h1 _=> ?_) (fun C h1=>h1) (fun h1 _=>h1 _ rfl);have:=hA.1;exact c_t (by rw[this.1,jaa this.2];rfl) fun x hx=>h1 x (congrArg some hx.h)
 ·cases hf;refine⟨rfl,jag,?_⟩;rw[ja4];rw[en,u99_c];delta ay cw;refine jnm hA (fun C h1 h2=> ?_) (fun C h1=>h1) (fun h1 h2=> ?_)
  ·exact c_t (jaa hA.1) ⟨fun x hx=>h1 x hx.h,fun hx=>h2 hx.h⟩
  ·exact c_t (jaa hA.1) ⟨fun hx=>h1 _ (Kd hx.h),fun hx=>h2 (Kc (by rw[hx.h];decide))⟩
 ·cases hf;refine⟨rfl,jag,?_⟩;rw[ja4];have hc:=hA.1;rw[en,u99_p];delta kf im;refine jnm hA (fun C h1 _=> ?_) (fun C h1=>h1) (fun h1 _=> ?_)
  ·exact c_t (by rw[hc.1,jaa hc.2];rfl) fun x hx=>h1 x (congrArg some hx.h)
  ·exact c_t (by rw[hc.1,jaa hc.2];rfl) fun s hs=>h1 s (congrArg some hs.h)
 ·cases hf
instance tabsT2:Tabs:=tabs
theorem ex_ck3(t:Ty):∃x:Int,x=chk4 t:=⟨_,rfl⟩
def ckT(t:Ty):Int:=Classical.choose (ex_ck3 t)
theorem ckT_eq(t:Ty):ckT t=chk4 t:=Kn (ex_ck3 t)
theorem ex_ft3(v:Vl)(t:Ty):∃x:Int,x=fit4 v t:=⟨_,rfl⟩
def ftT(v:Vl)(t:Ty):Int:=Classical.choose (ex_ft3 v t)
theorem jl8(v:Vl)(t:Ty):ftT v t=fit4 v t:=Kn (ex_ft3 v t)
def z20(t:Ty):Bool×Value:=(decide (t.s.size≤9223372036854775807),I (ckT t))
def z22(v:Vl)(t:Ty):Bool×Value:=(decide (t.s.size≤9223372036854775807∧v.s.size≤9223372036854775807),I (ftT v t))
theorem z20_eq:z20=s20f:=by funext t;simp only[z20,s20f,ckT_eq];rfl
theorem z22_eq:z22=s22f:=by funext v t;simp only[z22,s22f,jl8]
def s3(t:Ty)(v:Vl):Bool×Value:=(decide (t.s.size≤9223372036854775807∧v.s.size≤9223372036854775807),B true)
def isR(s:Y)(c:Int)(l:O):Prop:=bz s=List.replicate (s.size-l.length) c++l∧l.length≤s.size
instance (s:ByteArray)(c:Int)(l:List Int):Decidable (isR s c l):=by unfold isR;infer_instance
theorem fixU_len{m q:Int}(hm:0≤m∧m≤2147483648)(hq:0≤q∧q≤9):q<(fixU m q).length∧(fixU m q).length≤20∧IsB (fixU m q):=by
 have h:=jd9 hm;refine⟨?_,?_,jgl _ |>.append (jge _)⟩
 all_goals
  unfold fixU Cv.rep48;rw[Kk,Km];omega
theorem fixS_len{n q:Int}(hn: -2147483648≤n∧n≤2147483648)(hq:0≤q∧q≤9):(fixS n q).length≤30∧IsB (fixS n q):=by
 have key:∀m:Int,0≤m∧m≤2147483648→(fixD m q).length≤25∧IsB (fixD m q):=fun m hm=>by
  obtain⟨l1,l2,l3⟩:=fixU_len hm hq;unfold fixD;split
  ·refine⟨?_,(l3.take _).append (.cons (by omega) (l3.drop _))⟩;simp only[Kk,Kp,List.length_cons,KE];omega
  ·exact⟨by have:=jd9 hm;omega,jge _⟩
 unfold fixS;split
 ·obtain⟨a,b⟩:=key (-n) (by omega);exact⟨by rw[List.length_cons];omega,.cons (by omega) b⟩
 ·obtain⟨a,b⟩:=key n (by omega);exact⟨by omega,b⟩
def txS(v:Vl)(t:Ty):Y:=if jbi t then szO (txtZ v.n t)else v.s
theorem jlf{v:Vl}{t:Ty}(h:fit4 v t=0)(hv:jbi t): -2147483648≤v.n∧v.n≤2147483648:=by
 unfold fit4 at h;have hc:chk4 t=0:=Kd hv;rw[Kc (fun q=>q hc)]at h;split at h
 ·rename_i i;unfold is4 at i;rw[Kd hv.1]at i;have i:Fx.fits v t=0:=by simpa using i
  unfold Fx.fits at i;rw[Kd hv]at i;split at i
  ·rename_i f;have:=Fx.bnd_range hv;have:=f.2;omega
  ·cases i
 ·cases h
def txE(v:Vl)(t:Ty):Int:=if fit4 v t≠0 then fit4 v t else if t.k=6 then 5 else 0
def txV(v:Vl)(t:Ty):Value:= .tuple ⟨[S (if txE v t≠0 then⟨#[]⟩else txS v t),I (txE v t)]⟩
end Go.Cx
end
noncomputable section
namespace Go.Px
open Go Go.Ab Go.Proofs
def cel0(le fill dr:Int)(neg:Bool)(m c d o:Int):Int:=
 bif m==100 then fmZ c d neg else bif m==99 then(bif decide (o<le)then fill else d)
 else bif m==105 then(bif c==66 then 32 else bif decide (o<le)then fill else c)else ssZ c dr neg
def celZ(le fill dr:Int)(neg:Bool)(m c d o:Int):Int:=bif dr !=0&&o==le-1 then sgZ dr neg else cel0 le fill dr neg m c d o
def fsGo(le fill dr:Int)(neg:Bool):O→O→O→Int→O
 | [],_,_,_=> []
 | m::r,sp,ds,o=>bif m==118 then fsGo le fill dr neg r sp.tail ds o
  else celZ le fill dr neg m (sp.headD 0) (ds.headD 0) o::fsGo le fill dr neg r sp.tail (bif isP m then ds.tail else ds) (o+1)
theorem fd_cons(le fill dr:Int)(neg:Bool)(m:Int)(r sp ds:O)(o:Int):fdGo le fill dr neg (m::r) sp ds o=
  bif m==118 then fdGo le fill dr neg r sp.tail ds o else cel0 le fill dr neg m (sp.headD 0) (ds.headD 0) o::fdGo le fill dr neg r sp.tail (bif isP m then ds.tail else ds) (o+1):=by
 rw[fdGo,cel0,isP];by_cases h1:m=100
 ·subst h1;rfl
 by_cases h2:m=99
 ·subst h2;rfl
 by_cases h3:m=105
 ·subst h3;rfl
 have e1:(m==100)=false:=beq_eq_false_iff_ne.2 h1;have e2:(m==99)=false:=beq_eq_false_iff_ne.2 h2;have e3:(m==105)=false:=beq_eq_false_iff_ne.2 h3;rw[e1,e2,e3];by_cases h4:m=118
 ·subst h4;rfl
 have e4:(m==118)=false:=beq_eq_false_iff_ne.2 h4;have e5:(m !=118)=true:=by rw[bne,e4];rfl
 rw[e4,e5];rfl
theorem jjy{le fill dr:Int}{neg:Bool}:∀(ms sp ds:O)(o:Int),dr=0∨le-1<o→fsGo le fill dr neg ms sp ds o=fdGo le fill dr neg ms sp ds o
 | [],_,_,_,_=>rfl
 | m::r,sp,ds,o,h=>by
  have hc:(dr !=0&&o==le-1)=false:=by
   rcases h with rfl | h
   ·rfl
   ·have:(o==le-1)=false:=beq_eq_false_iff_ne.2 (by omega);rw[this,Bool.and_false]
  rw[fsGo,fd_cons,celZ,hc,cond_false,jjy r _ _ (o+1) (by omega),jjy r _ _ o h]
theorem jm8{le fill dr:Int}{neg:Bool}(hd:dr≠0):∀(ms sp ds:O)(o:Int),o≤le-1→le-1<o+nv ms→fsGo le fill dr neg ms sp ds o=(fdGo le fill dr neg ms sp ds o).set (le-1-o).toNat (sgZ dr neg)
 | [],_,_,o,h1,h2=>by simp[nv]at h2;omega
 | m::r,sp,ds,o,h1,h2=>by
  rw[je1]at h2;rw[fsGo,fd_cons];by_cases hm:m=118
  ·subst hm;rw[Kd rfl]at h2;exact jm8 hd r _ _ o h1 (by omega)
  ·have e:(m==118)=false:=beq_eq_false_iff_ne.2 hm;rw[Kc hm]at h2;rw[e,cond_false,cond_false,celZ];have hd':(dr !=0)=true:=KM.2 hd;by_cases ho:o=le-1
   ·have e2:(o==le-1)=true:=K4.2 ho;rw[hd',e2,jjy r _ _ (o+1) (.inr (by omega))];have:(le-1-o).toNat=0:=by omega
    rw[this];rfl
   ·have e2:(o==le-1)=false:=beq_eq_false_iff_ne.2 ho;have:(le-1-o).toNat=(le-1-(o+1)).toNat+1:=by omega
    rw[e2,Bool.and_false,cond_false,jm8 hd r _ _ (o+1) (by omega) (by omega),this];rfl
theorem jm9(le fill dr:Int)(neg:Bool):∀(ms sp ds:O)(o:Int),(fsGo le fill dr neg ms sp ds o).length=nv ms
 | [],_,_,_=>rfl
 | m::r,sp,ds,o=>by
  rw[fsGo,je1];by_cases hm:m=118
  ·subst hm;rw[Kd rfl,Nat.zero_add];exact jm9 le fill dr neg r _ _ _
  ·have e:(m==118)=false:=beq_eq_false_iff_ne.2 hm;rw[e,cond_false,List.length_cons,jm9,Kc hm];omega
theorem field_fs{sp:O}{w:Int}{k:Nat}{n:Int}(h:fdOK sp w k n=true):jds sp w k n=
  bif fdBl sp w k n then rep1 (fdFl sp) w.toNat else fsGo (fdLe sp w k n) (fdFl sp) (fdDr sp) (decide (n<0)) (jaq sp) sp (digZ n.natAbs k) 0:=by
 unfold jds;cases hb:fdBl sp w k n with
 | true=>rfl
 | false=>
  rw[cond_false,cond_false];unfold fdOK at h;rw[hb,Bool.false_or]at h;by_cases h0:fdDr sp=0
  ·have e:(fdDr sp !=0)=false:=by rw[h0];rfl
   rw[e,cond_false,je5,jjy _ _ _ _ (.inl h0)]
  ·have e:(fdDr sp !=0)=true:=KM.2 h0;have e2:(fdDr sp==0)=false:=beq_eq_false_iff_ne.2 h0;rw[e2,Bool.false_or,jae,je5,jil]at h;rw[e,cond_true,je5,jm8 h0 _ _ _ _ (by omega) (by omega),Int.sub_zero]
theorem fdN_len{l:O}(hl:IsB (pS l)∧(pS l).length≤32)(h:pN l=true)(n:Int):((fdN l n).length:Int)=pW l:=by
 obtain⟨_,_,p3,p4,_,p6⟩:=jk5 hl h n;rw[fdN,field_fs p6];cases fdBl (pS l) (pW l) (pD l).toNat n with
 | true=>simp[rep1];omega
 | false=>rw[cond_false,jm9,jn0 h]
theorem ho_rd{l t:O}(h:pN l=true):hoZ l t=decide ((rdV l t).2=0):=by
 rw[hoZ,Kd (jdg h),Kd h]
theorem size_fdN{s:Y}(h:pN (bz s)=true)(n:Int):((sz (fdN (bz s) n)).size:Int)=pW (bz s):=by
 rw[jco,fdN_len (jhg s) h n]
end Go.Px
end
noncomputable section
set_option maxHeartbeats 3200000
namespace Go.Ff
open Go Go.Ab Go.Proofs Go.Shelf Go.Px Go.Cv Go.Cx
end Go.Ff
end
section
namespace Go.Fg
section
variable {α : Type} (d : α → Bool)
variable {d} {l : List α}
end
end Go.Fg
end
noncomputable section
namespace Go.Ff
open Go Go.Ab Go.Proofs Go.Shelf Go.RowKit
section
variable {P : Program} {ρ : Ren}
set_option maxHeartbeats 1000000 in
set_option maxRecDepth 100000 in
theorem chk_fresh(L:Lays.n240 P ρ)(X:Builder.X72 P ρ){e:TypeId}{cells:Nat}(b:Nat)(w:World)(h0:w.cell? ⟨b,0,none⟩=some (.pointer none))(hsh:w.shape? b=some (e,cells))(hlt:0<cells)
  (hlies:liesAt P P.depth e (cells/P.cellsOf e) 0 (ρ.t 72) 1=true) (hfz:w.frozen? ⟨b,0,none⟩=false):
  Calls P (ρ.f 240) #[.pointer (some ⟨b,0,none⟩)] w fun e w'=>e= .returned (.tuple #[])∧w'=w.setCell ⟨b,0,none⟩ (.pointer (some ⟨b,0,none⟩)):=by
 obtain⟨j,hj,hjs⟩:=Option.map_eq_some_iff.1 X.sizeBuilder;have mixed:=L.mixed;have t72:=L.t72;have a72:=L.a72;have z72:=L.z72;have v72:=L.v72;have u72:=run_underlying L.t72;have t70:=L.t70;have a70:=L.a70;have z70:=L.z70;have v70:=L.v70;have u70:=run_underlying L.t70;have t9:=L.t9;have a9:=L.a9;have z9:=L.z9;have v9:=L.v9;have u9:=run_underlying L.t9;have t4:=L.t4;have a4:=L.a4;have z4:=L.z4;have v4:=L.v4;have u4:=run_underlying L.t4;have t164:=L.t164;have a164:=L.a164;have z164:=L.z164;have v164:=L.v164;have u164:=run_underlying L.t164
 go_enter L.f240,Body.n240_ntmps ρ
 go_wp2
 rw[Lib.run_to_unsafe w ⟨b,0,none⟩ L.t70 L.t164 hj (by rw[hjs];decide) hsh hlt];simp only[Result.andThen];rw[Oper.upon_value]
 go_wp2
 rw[run_callFunc_extern L.f276 (by kernel_rfl) (by kernel_rfl) (by kernel_rfl) (e:=Extern.AbiNoEscape.same) (by kernel_rfl)];rw[Lib.run_noEscape];simp only[Result.andThen];rw[Oper.upon_value]
 go_wp2
 rw[Lib.run_from_unsafe w ⟨b,0,none⟩ L.t164 L.t70 hj hsh hlies];simp only[Result.andThen];rw[Oper.upon_value]
 go_wp2
 go_end0
 exact⟨rfl,rfl⟩
set_option maxHeartbeats 1000000 in
set_option maxRecDepth 100000 in
theorem str_row(L:Lays.n169 P ρ)(X:Builder.Extra P ρ)(b g cap:Nat)(cur:Array Value)(l:Yc)(w:World)(h0:l≠ [])
  (hb:w.cell? ⟨b,1,none⟩=some (.slice (some ⟨g,0,none⟩) l.length cap)) (hg:w.shape? g=some (ρ.t 5,cur.size)) (hcap:cap≠0) (hl:l.length≤cur.size) (h63:l.length≤9223372036854775807)
  (hc:∀j x,l[j]?=some x→w.cell? ((⟨g,0,none⟩:Addr).add j)=some (.int .u8 x.toNat)):
  Calls P (ρ.f 169) #[.pointer (some ⟨b,0,none⟩)] w fun e w'=>e= .returned (.string ⟨l.toArray⟩)∧w'=w.drew.freeze ⟨g,0,none⟩ l.length:=by
 have c1:w.drew.cell? ⟨b,1,none⟩=some (.slice (some ⟨g,0,none⟩) l.length cap):=hb
 have hSD:(Builtin.unsafeSliceData_ #[(ρ.t 37)] (ρ.t 127) #[.slice (some ⟨g,0,none⟩) l.length cap]).run P w.drew= .ok (.pointer (some ⟨g,0,none⟩)) w.drew:=
  Lib.run_unsafeSliceData_row _ _ _ _ _ _ (by omega)
 have hUS:(Builtin.unsafeString_ #[(ρ.t 127),(ρ.t 3)] (ρ.t 9) #[.pointer (some ⟨g,0,none⟩),.int .i64 l.length]).run P w.drew= .ok (.string ⟨l.toArray⟩) (w.drew.freeze ⟨g,0,none⟩ l.length):=
  Lib.run_unsafeString_row w.drew (ρ.t 127) (ρ.t 3) (ρ.t 9) (ρ.t 5) L.t127 X.cellsByte g cur.size hg l h0 hl h63 hc
 have mixed:=L.mixed;have t72:=L.t72;have a72:=L.a72;have z72:=L.z72;have v72:=L.v72;have u72:=run_underlying L.t72;have t70:=L.t70;have a70:=L.a70;have z70:=L.z70;have v70:=L.v70;have u70:=run_underlying L.t70;have t37:=L.t37;have a37:=L.a37;have z37:=L.z37;have v37:=L.v37;have u37:=run_underlying L.t37;have t127:=L.t127;have a127:=L.a127;have z127:=L.z127;have v127:=L.v127;have u127:=run_underlying L.t127;have t3:=L.t3;have a3:=L.a3;have z3:=L.z3;have v3:=L.v3;have u3:=run_underlying L.t3;have t9:=L.t9;have a9:=L.a9;have z9:=L.z9;have v9:=L.v9;have u9:=run_underlying L.t9;have t5:=X.t5;have a5:=X.a5;have z5:=X.z5;have v5:=X.v5;have u5:=run_underlying X.t5
 go_enter L.f169,Body.n169_ntmps ρ
 go_wp2
 go_region_o
 all_goals (go_wp2;go_ret;exact⟨rfl,rfl⟩)
set_option maxHeartbeats 2000000 in
set_option maxRecDepth 100000 in
theorem str_nil(L:Lays.n169 P ρ)(X:Builder.Extra P ρ)(b:Nat)(w:World)(hb:w.cell? ⟨b,1,none⟩=some (.slice none 0 0)):
  Calls P (ρ.f 169) #[.pointer (some ⟨b,0,none⟩)] w fun e w'=>e= .returned (.string ⟨#[]⟩)∧w'=w.drew:=by
 have hUS:=Any.unsafeString_none L X;have c1:w.drew.cell? ⟨b,1,none⟩=some (.slice none 0 0):=hb;have hSD:(Builtin.unsafeSliceData_ #[(ρ.t 37)] (ρ.t 127) #[.slice none 0 0]).run P w.drew= .ok (.pointer none) w.drew:=rfl;have mixed:=L.mixed;have t72:=L.t72;have a72:=L.a72;have z72:=L.z72;have v72:=L.v72;have u72:=run_underlying L.t72;have t70:=L.t70;have a70:=L.a70;have z70:=L.z70;have v70:=L.v70;have u70:=run_underlying L.t70;have t37:=L.t37;have a37:=L.a37;have z37:=L.z37;have v37:=L.v37;have u37:=run_underlying L.t37;have t127:=L.t127;have a127:=L.a127;have z127:=L.z127;have v127:=L.v127;have u127:=run_underlying L.t127;have t3:=L.t3;have a3:=L.a3;have z3:=L.z3;have v3:=L.v3;have u3:=run_underlying L.t3;have t9:=L.t9;have a9:=L.a9;have z9:=L.z9;have v9:=L.v9;have u9:=run_underlying L.t9;have t5:=X.t5;have a5:=X.a5;have z5:=X.z5;have v5:=X.v5;have u5:=run_underlying X.t5
 go_enter L.f169,Body.n169_ntmps ρ
 go_wp2
 go_region_o
 all_goals (go_wp2;go_ret;exact⟨rfl,rfl⟩)
set_option maxHeartbeats 1000000 in
set_option maxRecDepth 100000 in
theorem len_at(L:Lays.n170 P ρ)(b:Nat){ao:Option Addr}{q cap:Nat}(w:World)(c1:w.cell? ⟨b,1,none⟩=some (.slice ao q cap)):
  Calls P (ρ.f 170) #[.pointer (some ⟨b,0,none⟩)] w fun e w'=>e= .returned (.int .i64 q)∧w'=w:=by
 have mixed:=L.mixed;have t72:=L.t72;have a72:=L.a72;have z72:=L.z72;have v72:=L.v72;have u72:=run_underlying L.t72;have t70:=L.t70;have a70:=L.a70;have z70:=L.z70;have v70:=L.v70;have u70:=run_underlying L.t70;have t37:=L.t37;have a37:=L.a37;have z37:=L.z37;have v37:=L.v37;have u37:=run_underlying L.t37;have t3:=L.t3;have a3:=L.a3;have z3:=L.z3;have v3:=L.v3;have u3:=run_underlying L.t3
 go_enter L.f170,Body.n170_ntmps ρ
 go_wp2
 go_ret
 exact⟨rfl,rfl⟩
end
section
variable [Tabs] {N : Nat} {w0 w : World} {m : Lk} {ι : Nm}
theorem RelM.drew(h:RelM N w0 m ι w):RelM N w0 m ι w.drew:=h.grow (Below.drew (Below.refl _ w))
theorem freezeN_heap(w:World)(a:Addr){n:Nat}(hn:n≠0)(j:Nat):(w.freeze a n).heap[j]?=if j=a.block then(w.heap[j]?).map (fun o=>match o with | .cells c el (lo,hi)=> .cells c el (if lo==hi then(a.off,a.off+n)else(min lo a.off,max hi (a.off+n))) | o=>o)else w.heap[j]?:=by
 unfold World.freeze;rw[Kc hn];simp only[Array.getElem?_modify];by_cases h:a.block=j
 ·subst h;rw[Kd rfl,Kd rfl];cases w.heap[a.block]? with
  | none=>rfl
  | some o=>cases o<;>rfl
 ·rw[Kc h,Kc (fun q=>h q.symm)]
theorem freezeN_cell(w:World)(a p:Addr){n:Nat}(hn:n≠0):(w.freeze a n).cell? p=w.cell? p:=by
 unfold World.cell?;rw[freezeN_heap w a hn];by_cases h:p.block=a.block
 ·rw[Kd h];cases hh:w.heap[p.block]? with
  | none=>rfl
  | some o=>
   cases o with
   | cells c el fr=>obtain⟨lo,hi⟩:=fr;rfl
   | _=>rfl
 ·rw[Kc h]
theorem RelM.frozenN(h:RelM N w0 m ι w){k:Nat}{b:Blk}(hk:m k=some b)(ho:b.own=true)(hit:Nat.ble itTy b.ty=false)(q:Nat){n:Nat}(hn:n≠0):
  RelM N w0 (m.upd k ⟨b.c,b.ty,false⟩) ι (w.freeze ⟨(ι k).1,q,none⟩ n):=by
 obtain⟨g1,g2,g3⟩:=h.blk k b hk ho
 have hsz:(w.freeze ⟨(ι k).1,q,none⟩ n).heap.size=w.heap.size:=by
  unfold World.freeze;rw[Kc hn];simp
 have hoth:∀j,j≠(ι k).1→(w.freeze ⟨(ι k).1,q,none⟩ n).heap[j]?=w.heap[j]?:=fun j hj=>by rw[freezeN_heap _ _ hn,Kc hj]
 have hget:∀j c,m.upd k ⟨b.c,b.ty,false⟩ j=some c→(j=k∧c=⟨b.c,b.ty,false⟩)∨(j≠k∧m j=some c):=fun j c hj=>by
  by_cases e:j=k
  ·subst e;rw[Lk.upd_same]at hj;cases hj;exact .inl ⟨rfl,rfl⟩
  ·rw[Lk.upd_other _ _ e]at hj;exact .inr ⟨e,hj⟩
 refine⟨⟨?_,?_,?_,?_,?_⟩,h.base,?_,?_,?_⟩
 ·rw[←h.below.os];unfold World.freeze;rw[Kc hn]
 ·rw[←h.below.tape];unfold World.freeze;rw[Kc hn]
 ·rw[←h.below.output];unfold World.freeze;rw[Kc hn]
 ·rw[hsz];exact h.below.size
 ·intro j hj;rw[hoth j (by omega)];exact h.below.block j hj
 ·intro j c hj hc;rcases hget j c hj with⟨_,rfl⟩ | ⟨e,hj⟩
  ·cases hc
  ·obtain⟨q1,q2,q3⟩:=h.blk j c hj hc;refine⟨q1,q2,?_⟩;rw[hoth _ (h.inj j k c b hj hk hc e)];exact q3
 ·intro j c hj hc;rcases hget j c hj with⟨rfl,rfl⟩ | ⟨e,hj⟩
  ·refine⟨by rw[hsz];exact h.lt hk ho,fun i v hv=> ?_⟩;rw[freezeN_cell _ _ _ hn,World.cell?,g3,objOf_cells hit,g1,Nat.zero_add];simp only[Option.isSome_none,Bool.false_eq_true,if_false];have hv:b.c[i]?=some v:=hv;simp[hv]
  ·obtain⟨q1,q2⟩:=h.view j c hj hc;refine⟨by rw[hsz];exact q1,fun i v hv=> ?_⟩;rw[freezeN_cell _ _ _ hn];exact q2 i v hv
 ·intro j j' c c' hj hj' hc hne;rcases hget j c hj with⟨_,rfl⟩ | ⟨e,hj1⟩
  ·cases hc
  ·rcases hget j' c' hj' with⟨e',_⟩ | ⟨e',hj2⟩
   ·exact h.inj j j' c b hj1 (by rw[e'];exact hk) hc hne
   ·exact h.inj j j' c c' hj1 hj2 hc hne
end
def jns(b:Blk):Bool:=b.own&& (Nat.beq b.ty 109&&Nat.beq b.c.length 2 || Nat.beq b.ty 111&&Nat.beq b.c.length 3)
def h134:J→Lk→Nat→(Value→Lk→Nat→Prop)→Prop:=fun args m n K=>match args with
 | [.pointer (some ⟨k,0,some sp⟩)]=>match m k with
  | some b=>match jns b,b.c with
   | true,.pointer none::r=>K (.tuple ⟨[]⟩) (m.upd k ⟨.pointer (some ⟨k,0,some sp⟩)::r,b.ty,true⟩) n
   | true,.pointer (some ⟨k',0,some _⟩)::_=>match Nat.beq k' k with
    | true=>K (.tuple ⟨[]⟩) m n
    | false=>False
   | _,_=>False
  | none=>False
 | _=>False
def isB8:J→Bool
 | []=>true
 | .int .u8 n::r=>decide (0≤n∧n<256) &&isB8 r
 | _=>false
def h54:J→Lk→Nat→(Value→Lk→Nat→Prop)→Prop:=fun args m n K=>match args with
 | [.pointer (some ⟨k,0,some _⟩)]=>match m k with
  | some b=>match jns b,b.c with
   | true,_:: .slice none 0 0::_=>K (.string ⟨#[]⟩) m n
   | true,_:: .slice (some ⟨g,0,some _⟩) q cap::_=>match m g with
    | some d=>match d.own&& (Nat.beq d.ty 5&& (!Nat.beq q 0&& (Nat.ble q d.c.length&& (Nat.ble q 9223372036854775807&& (isB8 (d.c.take q) &&Nat.ble q cap)))))with
     | true=>K (.string (ja5 d.c 0 q)) (m.upd g ⟨d.c,d.ty,false⟩) n
     | false=>False
    | none=>False
   | _,_=>False
  | none=>False
 | _=>False
theorem jhq{b:Blk}(h:jns b=true):b.own=true∧Nat.ble itTy b.ty=false∧0<b.c.length∧liesAt Tryz.prog Tryz.prog.depth b.ty (b.c.length/Tryz.prog.cellsOf b.ty) 0 109 1=true:=by
 unfold jns at h;simp only[jaf,Ko,Nat.beq_eq]at h;obtain⟨h1,⟨h2,h3⟩ | ⟨h2,h3⟩⟩:=h
 all_goals
  rw[h2,h3];exact⟨h1,rfl,by decide,by kernel_rfl⟩
theorem isB8_spec:∀{l:J},isB8 l=true→(jdt l).length=l.length∧ ∀(j:Nat)(x:UInt8),(jdt l)[j]?=some x→l[j]?=some (.int .u8 x.toNat)
 | [],_=>⟨rfl,fun j x h=>by simp[jdt]at h⟩
 | v::r,h=>by
  unfold isB8 at h;split at h
  ·rename_i heq;cases heq
  ·rename_i n r' heq;cases heq;simp only[jaf,jae]at h;obtain⟨⟨h1,h2⟩,h3⟩:=h;obtain⟨q1,q2⟩:=isB8_spec h3;refine⟨by simp[jdt,q1],fun j x hx=> ?_⟩;cases j with
   | zero=>
    simp only[jdt,List.getElem?_cons_zero,Kb]at hx;subst hx;have:((UInt8.ofNat n.toNat).toNat:Int)=n:=by rw[UInt8.toNat_ofNat'];omega
    rw[this];rfl
   | succ j=>exact q2 j x (by simpa[jdt]using hx)
  ·cases h
variable [Tabs]
theorem gen134:jcw Tryz.prog 157 h134:=by
 refine⟨⟨_,Tryz.func157,by kernel_rfl,rfl⟩,fun args m n K hh N w0 ι w hrel hwf hargs=> ?_⟩;unfold h134 at hh;split at hh
 case h_2=>exact hh.elim
 rename_i k sp;split at hh
 case h_2=>exact hh.elim
 rename_i b hk;have hargs':([.pointer (some ⟨k,0,some sp⟩)]:J).map (ren ι)=[.pointer (some ⟨(ι k).1,0,none⟩)]→True:=fun _=>trivial
 split at hh
 ·rename_i r hb hc;obtain⟨ho,hit,hpos,hlies⟩:=jhq hb;obtain⟨g1,g2,g3⟩:=hrel.blk k b hk ho;rw[objOf_cells hit]at g3;have e1:([.pointer (some ⟨k,0,some sp⟩)]:J).map (ren ι)=[.pointer (some ⟨(ι k).1,0,none⟩)]:=by simp[ren,ren1,g1]
  rw[e1]
  have hc0:w.cell? ⟨(ι k).1,0,none⟩=some (.pointer none):=by
   rw[World.cell?,g3,hc];rfl
  have hfz:w.frozen? ⟨(ι k).1,0,none⟩=false:=by simp[World.frozen?,g3]
  have hsh:w.shape? (ι k).1=some (b.ty,b.c.length):=by simp[World.shape?,g3]
  refine(chk_fresh (P:=Tryz.prog) (ρ:=Tryz.lays105_ren) {Tryz.lays105 with} Tryz.Builder_Extra_105.toX72 (ι k).1 w hc0 hsh hpos hlies hfz).mono fun e w' ⟨h1,h2⟩=> ?_
  subst h2;have hw:=hrel.write hk ho (b':=⟨.pointer (some ⟨k,0,some sp⟩)::r,b.ty,true⟩) rfl rfl (by rw[hc];rfl) (it_ble hit);refine⟨.tuple ⟨[]⟩,_,n,ι,by rw[h1];simp[ren,renL],hh,Kv _,fun _ _=>rfl,?_,fun j c hj=> ?_,by simp[ids,idsL]⟩
  ·rw[setCell_eq_setRow _ _ _ _ _ _ _ g3]
   have:(⟨(⟨.pointer (some ⟨k,0,some sp⟩)::r,b.ty,true⟩:Blk).c.map (ren ι)⟩:Array Value)=(⟨b.c.map (ren ι)⟩:Array Value).setIfInBounds 0 (.pointer (some ⟨(ι k).1,0,none⟩)):=by
    rw[hc];simp[ren,ren1,g1]
   rw[this]at hw;exact hw
  ·by_cases e:j=k
   ·subst e;rw[Lk.upd_same]at hj;cases hj;obtain⟨q1,q2⟩:=hwf j b hk;refine⟨q1,fun i hi=> ?_⟩;simp only[idsL,ids,List.singleton_append,Kg]at hi;rcases hi with rfl | hi
    ·exact q1
    ·exact q2 i (by rw[hc];simp only[idsL,ids,List.nil_append];exact hi)
   ·rw[Lk.upd_other _ _ e]at hj;exact hwf j c hj
 ·rename_i k' sp' r hb hc;split at hh
  case h_2=>exact hh.elim
  rename_i hkk;have hkk:=jah hkk;subst hkk;obtain⟨ho,hit,hpos,hlies⟩:=jhq hb;obtain⟨g1,g2,g3⟩:=hrel.blk k' b hk ho;rw[objOf_cells hit]at g3;have e1:([.pointer (some ⟨k',0,some sp⟩)]:J).map (ren ι)=[.pointer (some ⟨(ι k').1,0,none⟩)]:=by simp[ren,ren1,g1]
  rw[e1]
  have hc0:w.cell? ⟨(ι k').1,0,none⟩=some (.pointer (some ⟨(ι k').1,0,none⟩)):=by
   rw[World.cell?,g3,hc];simp[ren,ren1,g1]
  refine(Any.Builder_copyCheck_used (P:=Tryz.prog) (ρ:=Tryz.lays105_ren) {Tryz.lays105 with} Tryz.Builder_Extra_105.toX72 (ι k').1 w hc0).mono fun e w' ⟨h1,h2⟩=> ?_
  subst h2;exact⟨.tuple ⟨[]⟩,m,n,ι,by rw[h1];simp[ren,renL],hh,Kv _,fun _ _=>rfl,hrel,hwf,by simp[ids,idsL]⟩
 ·exact hh.elim
def s53:Ab.Spec:=fun args bs=>match args,bs with
 | [.pointer (some ⟨_,0,some _⟩)],[some b]=>match b.own&& !Nat.ble itTy b.ty,b.c with
  | true,_:: .slice _ q _::_=>some (true,.int .i64 (Int.ofNat q))
  | _,_=>none
 | _,_=>none
theorem ok53:jan Tryz.prog 65 s53:=by
 refine⟨⟨_,Tryz.func65,by kernel_rfl,rfl⟩,fun args v N w0 lk ι w hrel hs hp=> ?_⟩;unfold s53 at hs;split at hs
 case h_2=>cases hs
 rename_i k sp b hbs;have hb:blkOf lk (.pointer (some ⟨k,0,some sp⟩))=some b:=by simpa using hbs
 split at hs
 case h_2=>cases hs
 rename_i v0 ao q cap r ho hc;simp only[jaf,Ks]at ho;simp only[Kb,Ke,true_and]at hs;subst hs;have hk:=(jib hb).1;obtain⟨g1,g2,g3⟩:=hrel.blk k b hk ho.1;rw[objOf_cells ho.2]at g3;have e1:([.pointer (some ⟨k,0,some sp⟩)]:J).map (ren ι)=[.pointer (some ⟨(ι k).1,0,none⟩)]:=by simp[ren,ren1,g1]
 rw[e1]
 have hc1:∃ao',w.cell? ⟨(ι k).1,1,none⟩=some (.slice ao' q cap):=by
  rw[World.cell?,g3,hc];cases ao with
  | none=>exact⟨none,by simp[ren]⟩
  | some a=>exact⟨_,by simp[ren];rfl⟩
 obtain⟨ao',hc1⟩:=hc1;refine(len_at (P:=Tryz.prog) (ρ:=Tryz.lays105_ren) {Tryz.lays105 with} (ι k).1 w hc1).mono fun e w' ⟨h1,h2⟩=> ?_
 subst h2;exact⟨h1,Below.refl _ _⟩
theorem gen54:jcw Tryz.prog 66 h54:=by
 refine⟨⟨_,Tryz.func66,by kernel_rfl,rfl⟩,fun args m n K hh N w0 ι w hrel hwf hargs=> ?_⟩;unfold h54 at hh;split at hh
 case h_2=>exact hh.elim
 rename_i k sp;split at hh
 case h_2=>exact hh.elim
 rename_i b hk;split at hh
 ·rename_i v0 r hb hc;obtain⟨ho,hit,hpos,hlies⟩:=jhq hb;obtain⟨g1,g2,g3⟩:=hrel.blk k b hk ho;rw[objOf_cells hit]at g3;have e1:([.pointer (some ⟨k,0,some sp⟩)]:J).map (ren ι)=[.pointer (some ⟨(ι k).1,0,none⟩)]:=by simp[ren,ren1,g1]
  rw[e1]
  have hc1:w.cell? ⟨(ι k).1,1,none⟩=some (.slice none 0 0):=by
   rw[World.cell?,g3,hc];rfl
  refine(str_nil (P:=Tryz.prog) (ρ:=Tryz.lays105_ren) {Tryz.lays105 with} Tryz.Builder_Extra_105 (ι k).1 w hc1).mono fun e w' ⟨h1,h2⟩=> ?_
  subst h2;exact⟨.string ⟨#[]⟩,m,n,ι,by rw[h1];simp[ren],hh,Kv _,fun _ _=>rfl,RelM.drew hrel,hwf,by simp[ids]⟩
 ·rename_i v0 g sp' q cap r hb hc;split at hh
  case h_2=>exact hh.elim
  rename_i d hd;split at hh
  case h_2=>exact hh.elim
  rename_i hq;simp only[jaf,Nat.beq_eq,Ks,Nat.ble_eq]at hq;obtain⟨d1,d2,d3,d5,d6,d7,d4⟩:=hq;have d3:q≠0:=fun e=>by rw[e]at d3;cases d3
  obtain⟨ho,hit,hpos,hlies⟩:=jhq hb;obtain⟨g1,g2,g3⟩:=hrel.blk k b hk ho;rw[objOf_cells hit]at g3;have dit:Nat.ble itTy d.ty=false:=by rw[d2];rfl
  obtain⟨f1,f2,f3⟩:=hrel.blk g d hd d1;rw[objOf_cells dit]at f3;have e1:([.pointer (some ⟨k,0,some sp⟩)]:J).map (ren ι)=[.pointer (some ⟨(ι k).1,0,none⟩)]:=by simp[ren,ren1,g1]
  rw[e1];obtain⟨b1,b2⟩:=isB8_spec d7;have hl:(jdt (d.c.take q)).length=q:=by rw[b1,Kp];omega
  have hc1:w.cell? ⟨(ι k).1,1,none⟩=some (.slice (some ⟨(ι g).1,0,none⟩) (jdt (d.c.take q)).length cap):=by
   rw[World.cell?,g3,hc,hl];simp[ren,ren1,f1]
  have hsh:w.shape? (ι g).1=some (Tryz.lays105_ren.t 5,(⟨d.c.map (ren ι)⟩:Array Value).size):=by
   have:Tryz.lays105_ren.t 5=5:=rfl;rw[this,←d2];simp[World.shape?,f3]
  have hsz:(⟨d.c.map (ren ι)⟩:Array Value).size=d.c.length:=by simp
  refine(str_row (P:=Tryz.prog) (ρ:=Tryz.lays105_ren) {Tryz.lays105 with} Tryz.Builder_Extra_105 (ι k).1 (ι g).1 cap ⟨d.c.map (ren ι)⟩ (jdt (d.c.take q)) w (fun e=>by rw[e]at hl;exact d3 hl.symm) hc1 hsh (by omega) (by rw[hsz,hl];exact d5) (by rw[hl];exact d6) ?_).mono fun e w' ⟨h1,h2⟩=> ?_
  ·intro j x hx;have:=b2 j x hx;rw[List.getElem?_take]at this;split at this
   ·rw[World.cell?];have e2:((⟨(ι g).1,0,none⟩:Addr).add j)=⟨(ι g).1,j,none⟩:=by simp[Addr.add];omega
    rw[e2,f3];simp[this,ren]
   ·cases this
  ·subst h2;rw[hl];refine⟨.string (ja5 d.c 0 q),_,n,ι,by rw[h1];simp[ren,ja5],hh,Kv _,fun _ _=>rfl,RelM.frozenN (RelM.drew hrel) hd d1 dit 0 d3,fun j c hj=> ?_,by simp[ids]⟩;by_cases e:j=g
   ·subst e;rw[Lk.upd_same]at hj;cases hj;exact hwf j d hd
   ·rw[Lk.upd_other _ _ e]at hj;exact hwf j c hj
 ·exact hh.elim
end Go.Ff
end
noncomputable section
namespace Go.Ff
open Go Go.Ab Go.Proofs Go.Shelf Go.Px
theorem c187:jbt Tryz.prog 273:=cal Tryz.func273 (by kernel_rfl) (by kernel_rfl)
theorem ok187:jan Tryz.prog 273 (sp2 s141):=jdf c187 fun s c hc w _=>by
 have hc:0≤c.n∧c.n<256:=jab hc;refine(Any.stringslite_IndexByte (ρ:=Tryz.lays137_ren) {Tryz.lays137 with} s c.n w).mono fun e w' ⟨h1,h2⟩=>⟨?_,jci h2⟩
 rw[h1,jl4];simp only[s141]
 have:((c.n.toNat.toUInt8.toNat:Nat):Int)=c.n:=by
  simp only[Nat.toUInt8,UInt8.toNat_ofNat'];omega
 rw[this,jka]
def anyI:O→O→Int
 | [],_=> -1
 | b::l,cs=>if hasZ cs b=true then 0 else if anyI l cs= -1 then -1 else anyI l cs+1
theorem anyI_zl(cs:Yc):∀l:Yc,Lib.indexAny l cs=anyI (zl l) (zl cs)
 | []=>rfl
 | b::l=>by
  have ih:=anyI_zl cs l;have hb:hasZ (zl cs) b.toNat=cs.contains b:=(jkq b cs).symm;simp only[zl,List.map_cons,anyI]at ih hb ⊢;rw[hb,Lib.indexAny,ih];simp only[K4]
theorem c87:jbt Tryz.prog 146:=cal Tryz.func146 (by kernel_rfl) (by kernel_rfl)
def s87(s t:Y):Bool×Value:=(decide (s.size≤1000000) && (decide (t.size≤1000) && (asc (bz s) &&asc (bz t))),.int .i64 (anyI (bz s) (bz t)))
theorem ok87:jan Tryz.prog 146 (sp2 s87):=jdf c87 fun s t hc w _=>by
 simp only[s87,jaf,jae]at hc;obtain⟨h1,h2,h3,h4⟩:=hc;refine(Any.strings_IndexAny_laid (ρ:=Tryz.lays150_ren) {Tryz.lays150 with} info128 s t w (by omega) (by omega) (jdo h3) (jdo h4)).mono fun e w' ⟨h5,h6⟩=>⟨?_,h6⟩
 rw[h5,anyI_zl,jka,jka];rfl
def tlsZ(l cs:O):O:=l.dropWhile (hasZ cs ·)
theorem tls_zl(cs:Yc)(l:Yc):zl (l.dropWhile (cs.contains ·))=tlsZ (zl l) (zl cs):=by
 rw[tlsZ,je7 (q:=(hasZ (zl cs) ·)) (fun b=>jkq b cs)]
theorem c80:jbt Tryz.prog 110:=cal Tryz.func110 (by kernel_rfl) (by kernel_rfl)
def s80(s t:Y):Bool×Value:=(decide (t.size≤1000) &&asc (bz t),.string (sz (tlsZ (bz s) (bz t))))
theorem ok80:jan Tryz.prog 110 (sp2 s80):=jdf c80 fun s t hc w _=>by
 simp only[s80,jaf,jae]at hc;refine(Any.strings_TrimLeft_laid (ρ:=Tryz.lays161_ren) {Tryz.lays161 with} jjt s t w (by omega) (jdo hc.2)).mono fun e w' ⟨h5,h6⟩=>⟨?_,h6⟩
 rw[h5,jhk,Lib.trimLeftS,tls_zl,jka,jka];rfl
def s103(s:Y)(c:U8):Bool×Value:=(decide (s.size≤4611686018427387903),.int .i64 (jcc (bz s) c.n))
theorem ok103:jan Tryz.prog 118 (sp2 s103):=jdf c280 fun s c hc w _=>by
 have hc:=jab hc;refine(Any.strings_LastIndexByte Tryz.lays149 s c.n (by omega) w).mono fun e w' ⟨h1,h2⟩=>⟨?_,jci h2⟩
 rw[h1,last_zl];rfl
end Go.Ff
end
noncomputable section
set_option maxHeartbeats 3200000
namespace Go.Ff
open Go Go.Ab Go.Proofs Go.Shelf Go.Px
def P0:Env:=(Env.nil.add 118 (sp2 s103))
theorem ok_P0:ja3 Tryz.prog P0:=jaj jav ok103
theorem jjr:∀(l:O)(c:Int),-1≤jcc l c∧jcc l c<l.length
 | [],_=>⟨KH _,by simp[jcc]⟩
 | b::l,c=>by
  have:=jjr l c;simp only[jcc,List.length_cons];split
  ·split<;>omega
  ·omega
def s85:Ab.Spec:=fun args bs=>match args,bs with
 | [.pointer (some ⟨_,0,some 0⟩)],[some ⟨[.string s,.int .i64 p],ty,o⟩]=>some (decide (0≤p∧p≤s.size),S (s.extract p.toNat s.size))
 | [.pointer (some ⟨_,0,some (sp+1)⟩)],[some ⟨[.string s,.int .i64 p],ty,o⟩]=>some (decide (0≤p∧p≤s.size),S (s.extract p.toNat s.size))
 | _,_=>none
theorem v85_0(s:Y)(p:Int)(ty:TypeId)(o:Bool)(R:Value→Prop):jax Tryz.prog P0 noL Tryz.f144 [.pointer (some ⟨0,0,some 0⟩)] (jem [some ⟨[S s,I p],ty,o⟩]) 1 (fun v _ _=>R v)=(br (c7 0 p (al s) (al s) (al s)) (S (g0 s p)) R):=by kernel_rfl
theorem v85_1(sp:Nat)(s:Y)(p:Int)(ty:TypeId)(o:Bool)(R:Value→Prop):jax Tryz.prog P0 noL Tryz.f144 [.pointer (some ⟨0,0,some (sp+1)⟩)] (jem [some ⟨[S s,I p],ty,o⟩]) 1 (fun v _ _=>R v)=(br (c7 0 p (al s) (al s) (al s)) (S (g0 s p)) R):=by kernel_rfl
theorem k85_0(s:Y)(p:Int)(ty:TypeId)(o:Bool)(hc:(decide (0≤p∧p≤s.size))=true):jb3 Tryz.prog P0 noL Tryz.f144 [.pointer (some ⟨0,0,some 0⟩)] [some ⟨[S s,I p],ty,o⟩] 1 (S (s.extract p.toNat s.size)):=by
 rw[jb3,v85_0];delta br g0 c7 al;have hc:=jab hc
 first
  | exact c_t (jaa ⟨hc.1,hc.2,KH _⟩) rfl
  | trace_state
theorem k85_1(sp:Nat)(s:Y)(p:Int)(ty:TypeId)(o:Bool)(hc:(decide (0≤p∧p≤s.size))=true):jb3 Tryz.prog P0 noL Tryz.f144 [.pointer (some ⟨0,0,some (sp+1)⟩)] [some ⟨[S s,I p],ty,o⟩] 1 (S (s.extract p.toNat s.size)):=by
 rw[jb3,v85_1];delta br g0 c7 al;have hc:=jab hc
 first
  | exact c_t (jaa ⟨hc.1,hc.2,KH _⟩) rfl
  | trace_state
theorem ok85:jan Tryz.prog 144 s85:=by
 refine jcl ok_P0 hmix (.m Tryz.func144) jal fun args bs v hs=> ?_
 simp only[s85]at hs;split at hs
 ·simp only[Kb,Ke]at hs;obtain⟨hc,rfl⟩:=hs;exact⟨_,1,rfl,rfl,jag,k85_0 _ _ _ _ (by first | rfl | exact hc)⟩
 ·simp only[Kb,Ke]at hs;obtain⟨hc,rfl⟩:=hs;exact⟨_,1,rfl,rfl,jag,k85_1 _ _ _ _ _ (by first | rfl | exact hc)⟩
 ·cases hs
def s63:Ab.Spec:=fun args bs=>match args,bs with
 | [.pointer (some ⟨_,0,some 0⟩)],[some ⟨[.string s,.int .i64 p],ty,o⟩]=>some (decide (0≤p∧p≤s.size∧s.size≤1000000),I (p-jcc ((bz s).take p.toNat) 10))
 | [.pointer (some ⟨_,0,some (sp+1)⟩)],[some ⟨[.string s,.int .i64 p],ty,o⟩]=>some (decide (0≤p∧p≤s.size∧s.size≤1000000),I (p-jcc ((bz s).take p.toNat) 10))
 | _,_=>none
theorem v63_0(s:Y)(p:Int)(ty:TypeId)(o:Bool)(R:Value→Prop):jax Tryz.prog P0 noL Tryz.f67 [.pointer (some ⟨0,0,some 0⟩)] (jem [some ⟨[S s,I p],ty,o⟩]) 1 (fun v _ _=>R v)=(jb (c7 0 0 p p (al s)) (decide ((iy s p).size≤4611686018427387903)) (I (cm p (jcc (bz (iy s p)) 10))) R):=by kernel_rfl
theorem v63_1(sp:Nat)(s:Y)(p:Int)(ty:TypeId)(o:Bool)(R:Value→Prop):jax Tryz.prog P0 noL Tryz.f67 [.pointer (some ⟨0,0,some (sp+1)⟩)] (jem [some ⟨[S s,I p],ty,o⟩]) 1 (fun v _ _=>R v)=(jb (c7 0 0 p p (al s)) (decide ((iy s p).size≤4611686018427387903)) (I (cm p (jcc (bz (iy s p)) 10))) R):=by kernel_rfl
theorem k63_0(s:Y)(p:Int)(ty:TypeId)(o:Bool)(hc:(decide (0≤p∧p≤s.size∧s.size≤1000000))=true):jb3 Tryz.prog P0 noL Tryz.f67 [.pointer (some ⟨0,0,some 0⟩)] [some ⟨[S s,I p],ty,o⟩] 1 (I (p-jcc ((bz s).take p.toNat) 10)):=by
 rw[jb3,v63_0];delta br jb cm iy c7 al;have hc:=jab hc;have hb:=jjr ((bz s).take p.toNat) 10;rw[Kp,jak]at hb;have e:bz (s.extract 0 p.toNat)=(bz s).take p.toNat:=by rw[jb5];rfl
 rw[e,w64 (by omega)];refine c_t (jaa ⟨KH _,hc.1,hc.2.1⟩) (c_t ?_ rfl);rw[KJ];exact jaa (by omega)
theorem k63_1(sp:Nat)(s:Y)(p:Int)(ty:TypeId)(o:Bool)(hc:(decide (0≤p∧p≤s.size∧s.size≤1000000))=true):jb3 Tryz.prog P0 noL Tryz.f67 [.pointer (some ⟨0,0,some (sp+1)⟩)] [some ⟨[S s,I p],ty,o⟩] 1 (I (p-jcc ((bz s).take p.toNat) 10)):=by
 rw[jb3,v63_1];delta br jb cm iy c7 al;have hc:=jab hc;have hb:=jjr ((bz s).take p.toNat) 10;rw[Kp,jak]at hb;have e:bz (s.extract 0 p.toNat)=(bz s).take p.toNat:=by rw[jb5];rfl
 rw[e,w64 (by omega)];refine c_t (jaa ⟨KH _,hc.1,hc.2.1⟩) (c_t ?_ rfl);rw[KJ];exact jaa (by omega)
theorem ok63:jan Tryz.prog 67 s63:=by
 refine jcl ok_P0 hmix (.m Tryz.func67) jal fun args bs v hs=> ?_
 simp only[s63]at hs;split at hs
 ·simp only[Kb,Ke]at hs;obtain⟨hc,rfl⟩:=hs;exact⟨_,1,rfl,rfl,jag,k63_0 _ _ _ _ (by first | rfl | exact hc)⟩
 ·simp only[Kb,Ke]at hs;obtain⟨hc,rfl⟩:=hs;exact⟨_,1,rfl,rfl,jag,k63_1 _ _ _ _ _ (by first | rfl | exact hc)⟩
 ·cases hs
def s61:Ab.Spec:=fun args bs=>match args,bs with
 | [.pointer (some ⟨_,0,some 0⟩)],[some ⟨[.string s,.int .i64 p],ty,o⟩]=>some (true,I p)
 | [.pointer (some ⟨_,0,some (sp+1)⟩)],[some ⟨[.string s,.int .i64 p],ty,o⟩]=>some (true,I p)
 | _,_=>none
theorem v61_0(s:Y)(p:Int)(ty:TypeId)(o:Bool)(R:Value→Prop):jax Tryz.prog P0 noL Tryz.f99 [.pointer (some ⟨0,0,some 0⟩)] (jem [some ⟨[S s,I p],ty,o⟩]) 1 (fun v _ _=>R v)=(R (I p)):=by kernel_rfl
theorem v61_1(sp:Nat)(s:Y)(p:Int)(ty:TypeId)(o:Bool)(R:Value→Prop):jax Tryz.prog P0 noL Tryz.f99 [.pointer (some ⟨0,0,some (sp+1)⟩)] (jem [some ⟨[S s,I p],ty,o⟩]) 1 (fun v _ _=>R v)=(R (I p)):=by kernel_rfl
theorem k61_0(s:Y)(p:Int)(ty:TypeId)(o:Bool)(hc:(true)=true):jb3 Tryz.prog P0 noL Tryz.f99 [.pointer (some ⟨0,0,some 0⟩)] [some ⟨[S s,I p],ty,o⟩] 1 (I p):=by
 rw[jb3,v61_0]
theorem k61_1(sp:Nat)(s:Y)(p:Int)(ty:TypeId)(o:Bool)(hc:(true)=true):jb3 Tryz.prog P0 noL Tryz.f99 [.pointer (some ⟨0,0,some (sp+1)⟩)] [some ⟨[S s,I p],ty,o⟩] 1 (I p):=by
 rw[jb3,v61_1]
theorem ok61:jan Tryz.prog 99 s61:=by
 refine jcl ok_P0 hmix (.m Tryz.func99) jal fun args bs v hs=> ?_
 simp only[s61]at hs;split at hs
 ·simp only[Kb,Ke]at hs;obtain⟨hc,rfl⟩:=hs;exact⟨_,1,rfl,rfl,jag,k61_0 _ _ _ _ (by first | rfl | exact hc)⟩
 ·simp only[Kb,Ke]at hs;obtain⟨hc,rfl⟩:=hs;exact⟨_,1,rfl,rfl,jag,k61_1 _ _ _ _ _ (by first | rfl | exact hc)⟩
 ·cases hs
end Go.Ff
end
noncomputable section
namespace Go.Px
open Go Go.Proofs
open Go.Proofs.YtiahilhlpmohoaaGreatDoor
theorem q_laid:laidOutB Tryz.prog=true:=by kernel_rfl
theorem q_maps:mapsRowed Tryz.prog=true:=by kernel_rfl
theorem q_stop:(Tryz.prog.stops==[])=true:=by kernel_rfl
theorem q_knob:(Tryz.prog.stopKnobs==[])=true:=by kernel_rfl
theorem q_keys:(Rows.formatStarsRow.plainKeys==Tryz.prog.plainKeys)=true:=by kernel_rfl
theorem q_heard:Tryz.prog.stopsHeard=true:=by kernel_rfl
theorem q_enter:Tryz.prog.mayEnter=true:=by kernel_rfl
theorem q_lifts:(Rows.formatStarsRow.lifted==Tryz.prog.liftsFinal)=true:=by kernel_rfl
theorem q_make:(Tryz.prog.make==some Rows.formatStarsRow.make)=true:=by kernel_rfl
theorem main_is : Tryz.pinned.checked.prog.mainIs = some (true, ("162ec243084bfa9709d57c15b7c67653890d8251fb86ae663da2c28d9c8f9ac0" : String).toList) := by kernel_rfl
theorem looks_is:true=Tryz.pinned.checked.prog.looks []:=by kernel_rfl
end Go.Px
end
noncomputable section
set_option maxHeartbeats 3200000
namespace Go.Ff
open Go Go.Ab Go.Proofs Go.Shelf Go.Px
/-- The tables; bytes that are made of a string may be written into. -/
instance tabsB:Tabs:={row:=jmj,plain:=tabs.plain,ownB:=true}
theorem RelM.toA{N:Nat}{w0:World}{m:Lk}{ι:Nm}{w:World}(h: @RelM tabsB N w0 m ι w): @RelM tabs N w0 m ι w:=
 @RelM.mk tabs N w0 m ι w h.below h.base h.blk h.view h.inj
theorem RelM.toB{N:Nat}{w0:World}{m:Lk}{ι:Nm}{w:World}(h: @RelM tabs N w0 m ι w): @RelM tabsB N w0 m ι w:=
 @RelM.mk tabsB N w0 m ι w (@RelM.below tabs N w0 m ι w h) (@RelM.base tabs N w0 m ι w h) (@RelM.blk tabs N w0 m ι w h) (@RelM.view tabs N w0 m ι w h) (@RelM.inj tabs N w0 m ι w h)
theorem pureB{f:FuncId}{s:Ab.Spec}(h: @jan tabs Tryz.prog f s): @jan tabsB Tryz.prog f s:=
 ⟨h.1,fun args v N w0 lk ι w hr hs hv=>h.2 args v N w0 lk ι w (RelM.toA hr) hs hv⟩
structure BrP (d:J)(m cap:Nat):Prop where
 bytes:jbz d=true
 len:d.length=cap
 le:m≤cap
 lim:m≤1000
def brOK(d:J)(m cap:Nat):Bool:=jbz d&& (Nat.beq d.length cap&& (Nat.ble m cap&&Nat.ble m 1000))
def jc1:Nat→O→O
 | 0,L=>if L.getD 0 0≠57 then L.set 0 (IntKind.u8.wrap (L.getD 0 0+1))else L
 | i+1,L=>if L.getD (i+1) 0≠57 then L.set (i+1) (IntKind.u8.wrap (L.getD (i+1) 0+1))else jc1 i (L.set (i+1) 48)
def noN(L:O)(i:Nat):Bool:=(L.take (i+1)).any fun c=> !(c==57)
theorem jf3{d:J}{m cap:Nat}:brOK d m cap=true↔BrP d m cap:=by
 simp only[brOK,jaf,Nat.ble_eq,Nat.beq_eq];exact⟨fun⟨h1,h2,h3,h4⟩=>⟨h1,h2,h3,h4⟩,fun⟨h1,h2,h3,h4⟩=>⟨h1,h2,h3,h4⟩⟩
theorem BrP.plain{d:J}{m cap:Nat}(h:BrP d m cap):ja1 d=true:=isB_plain h.bytes
theorem BrP.good{d:J}{m cap:Nat}(h:BrP d m cap)(ps:List (Nat×Nat)):(jas ps d&&true&&true)=true:=by rw[goodL_plain h.plain];rfl
theorem BrP.rlb{d:J}{m cap:Nat}(h:BrP d m cap)(ps:List (Nat×Nat)):rlbL ps d=d:=rlbL_plain ps h.plain
theorem BrP.zlen{d:J}{m cap:Nat}(h:BrP d m cap):(zc d m).length=m:=by
 have h1:=h.len;have h2:=h.le;simp only[zc,K9,Kp];omega
theorem BrP.at{d:J}{m cap:Nat}(h:BrP d m cap){i:Int}(h0:0≤i)(hi:i<m):jbg .u8 d i.toNat=true∧jar d i.toNat=(zc d m).getD i.toNat 0:=by
 have h1:=h.len;have h2:=h.le;obtain⟨q1,q2⟩:=atB h.bytes (j:=i.toNat) (by omega);refine⟨q1,?_⟩;rw[q2,zc,List.getD_eq_getElem?_getD,List.getD_eq_getElem?_getD,List.getElem?_map,List.getElem?_map,List.getElem?_take_of_lt (by omega)]
theorem BrP.set{d:J}{m cap:Nat}(h:BrP d m cap)(k:Nat)(x:Int):BrP (d.set k (.int .u8 x)) m cap∧zc (d.set k (.int .u8 x)) m=(zc d m).set k x:=by
 refine⟨⟨jjs.2 fun v hv=> ?_,by rw[List.length_set];exact h.len,h.le,h.lim⟩,?_⟩
 ·rcases List.mem_or_eq_of_mem_set hv with q | q
  ·exact jjs.1 h.bytes v q
  ·exact⟨x,q⟩
 ·rw[zc,zc,List.take_set,List.map_set];rfl
theorem BrP.str{d:J}{m cap:Nat}(h:BrP d m cap):ja8 d 0 m=true∧ja5 d 0 m=sz (zc d m):=by
 have hz:=h.zlen;have hb:jbz (d.take m)=true:=jjs.2 fun v hv=>jjs.1 h.bytes v (List.mem_of_mem_take hv)
 have e:d=cz (zc d m)++d.drop m:=by rw[zc,jml hb,KC]
 have h1:=bytesOK_cz (zc d m) (d.drop m);have h2:=bytesOf_cz (zc d m) (d.drop m);rw[←e,hz]at h1 h2;exact⟨h1,h2⟩
def EN:Env:=Env.nil
theorem ok_EN:ja3 Tryz.prog EN:=jav
theorem jd5{n:Nat}(h:n≤9223372036854775807):jbf n=true:=Nat.ble_eq_true_of_le h
theorem noN_step{L:O}{k:Nat}(q:L.getD (k+1) 0=57)(h:noN L (k+1)=true)(hl:k+1<L.length):noN (L.set (k+1) 48) k=true:=by
 simp only[noN,List.any_eq_true]at h ⊢;obtain⟨c,hc,hn⟩:=h;refine⟨c,?_,hn⟩;rw[List.take_set_of_le (by omega)];rw[List.take_succ_eq_append_getElem hl]at hc;rcases Kq.1 hc with hc | hc
 ·exact hc
 ·rw[List.getD_eq_getElem?_getD,Kx hl]at q;simp only[List.mem_singleton,Option.getD_some]at hc q;rw[hc,q]at hn;cases hn
def V180_0:Y×J×Nat×Nat×Int→J:=fun(r,d,m,cap,i)=> [S r,.slice (some ⟨3,0,some 1⟩) m cap,I i]
def B180_0:Y×J×Nat×Nat×Int→Ya:=fun(r,d,m,cap,i)=> [some ⟨d,itTy+1+5,true⟩]
def S180_0:LSpecA (Y×J×Nat×Nat×Int) where
 live:=[2,3,4]
 mid:=[3]
 n:=120
 ap:=[]
 dec vs bs:=match vs,bs with
  | [.string r,.slice (some ⟨3,0,some 1⟩) m cap,.int .i64 i],[some ⟨d,ty,true⟩]=>match Nat.beq ty (itTy+1+5)with | true=>some (r,d,m,cap,i) | false=>none
  | _,_=>none
 pre:=fun(r,d,m,cap,i)=>brOK d m cap&& (decide (0≤i∧i<m) &&noN (zc d m) i.toNat)
 fin:=fun(r,d,m,cap,i) Z=>∀d' i',brOK d' m cap=true→Z .ret [S (sz (jc1 i.toNat (zc d m))),.slice (some ⟨3,0,some 1⟩) m cap,I i'] [some ⟨d',itTy+1+5,true⟩]
def og(e:Y)(c:Exit→J→Ya→Prop)(a:List (Prod Nat Nat))(b g:J)(d:TypeId)(f:Value):Prop:=bm (jas a b&&true&&true) c [some (.mk (rlbL a b) d true)] (.string e::f::g)
def o6(b:Int)(a:J):J:=setL a (ew b) [jq (c9 b a+1)]
theorem r180_0(r:Y)(d:J)(m:Nat)(cap:Nat)(i:Int)(jk:Tmps)(R:Exit→J→Ya→Prop):(jbn Tryz.prog EN noL Tryz.f241.ntmps (ja2 Tryz.f241 0) (tl S180_0.live (V180_0 (r,d,m,cap,i)) jk) (ml S180_0.mid (B180_0 (r,d,m,cap,i))) S180_0.n fun e t' m' _=>S180_0.out R e t' m')=(ja (jbg .u8 d (ew i)) i (m:Int) (bif c9 i d !=57 then l4 (jbg .u8 d (ew i)) i (m:Int) (bif cl i (m:Int)then bif Nat.ble (ew i+1) d.length then bif ja8 (o6 i d) 0 m then bif jas [] (o6 i d) &&true&&true then R .ret [S (ja5 (o6 i d) 0 m),cq 3 0 m cap,ak i] [some (.mk (rlbL [] (o6 i d)) 4611686018427387910 true)]else False else False else False else False) False else l4 (Nat.ble (ew i+1) d.length) i (m:Int) (og r R [] (setL d (ew i) [am 48]) [I (dt i 1)] 4611686018427387910 (cq 3 0 m cap)) False) False):=by kernel_rfl
theorem l180_0:LOKf Tryz.prog (oneL 0 S180_0.hA) Tryz.f241:=by
 refine jbb (h:=S180_0.hA) (by kernel_rfl) (jbo ok_EN hmix (by kernel_rfl) (ja0 _) S180_0 V180_0 B180_0 (fun(r,d,m,cap,i)=>i.toNat) ?_ ?_ ?_)
 ·intro vs bs s h;simp only[S180_0]at h;split at h
  all_goals first | (cases h;exact⟨rfl,rfl⟩) | cases h | (split at h<;>first | (rename_i hq;cases h;have hq:=jah hq;subst hq;exact⟨rfl,rfl⟩) | cases h)
 ·exact fun⟨r,d,m,cap,i⟩ hp=>by
   simp only[S180_0,jaf]at hp;simp[V180_0,B180_0,S180_0,jaw,jbs,idsL,ids,jao (jf3.1 hp.1).plain]
 ·intro⟨r,d,m,cap,i⟩ jk Z hp hf;rw[r180_0];delta cl ja l4 bm og cq dt am ew jq c9 o6 ak;simp only[S180_0]at hp hf;simp only[jaf,jae]at hp;obtain⟨hv,⟨h0,hi⟩,hn⟩:=hp;have hv:=jf3.1 hv;obtain⟨a1,a2⟩:=hv.at h0 hi;have hlen:=hv.len;have hle:=hv.le;have hlim:=hv.lim;have hz:=hv.zlen;rw[Nat.mul_one,Nat.zero_add];refine c_t (jaa ⟨h0,hi⟩) (c_t a1 (Ka (fun q=> ?_) (fun q=> ?_)))
  ·have q:jar d i.toNat≠57:=by simpa using q
   obtain⟨b1,b2⟩:=hv.set i.toNat (IntKind.u8.wrap (jar d i.toNat+1));have es:setL d i.toNat [.int .u8 (IntKind.u8.wrap (jar d i.toNat+1))]=d.set i.toNat (.int .u8 (IntKind.u8.wrap (jar d i.toNat+1))):=rfl;rw[es,b1.rlb];obtain⟨s1,s2⟩:=b1.str;refine c_t (jaa ⟨h0,hi⟩) (c_t a1 (c_t (jaa ⟨h0,hi⟩) (c_t (Nat.ble_eq_true_of_le (by omega)) (c_t s1 (c_t (b1.good _) ?_)))));rw[s2,b2]
   have e:jc1 i.toNat (zc d m)=(zc d m).set i.toNat (IntKind.u8.wrap (jar d i.toNat+1)):=by
    rw[a2]at q ⊢;cases hk:i.toNat with
    | zero=>rw[hk]at q;simp only[jc1];rw[Kd q]
    | succ k=>rw[hk]at q;simp only[jc1];rw[Kd q]
   have:=hf _ i (jf3.2 b1);rw[e]at this;exact this
  ·have q:jar d i.toNat=57:=by simpa using q
   obtain⟨b1,b2⟩:=hv.set i.toNat 48;have es:setL d i.toNat [.int .u8 48]=d.set i.toNat (.int .u8 48):=rfl;rw[es,b1.rlb];rw[a2]at q
   obtain⟨k,hk⟩:∃k,i.toNat=k+1:=by
    cases hk:i.toNat with
    | zero=>
     rw[hk]at q hn;simp only[noN]at hn;cases hL:zc d m with
     | nil=>rw[hL]at hz;simp at hz;omega
     | cons c r=>rw[hL]at q hn;simp at hn q;exact absurd q hn
    | succ k=>exact⟨k,rfl⟩
   refine c_t (jaa ⟨h0,hi⟩) (c_t (Nat.ble_eq_true_of_le (by omega)) (c_t (b1.good _) ?_));have e1:(i-1).toNat=k:=by omega
   rw[w64 (n:=i-1) (by omega)];refine⟨(r,d.set i.toNat (.int .u8 48),m,cap,i-1),rfl,rfl,?_,by simp only;omega,fun d' i' h1=> ?_⟩
   ·simp only[S180_0,jaf,jae];refine⟨jf3.2 b1,by omega,?_⟩;rw[b2,e1,hk];exact noN_step (by rw[hk]at hn q;exact q) (by rw[hk]at hn;exact hn) (by omega)
   ·rw[b2,e1];have:=hf d' i' h1;rw[hk]at this q ⊢;simp only[jc1]at this;rw[Kc (fun h=>h q)]at this;exact this
def s180(s:Y):Bool×Value:=(decide (s.size≤900),.string (sz (jc1 s.size (48::bz s))))
theorem v180(s:Y)(R:Value→Prop):jax Tryz.prog EN (oneL 0 S180_0.hA) Tryz.f241 [Enc.enc s] (fun _=>none) 0 (fun v _ _=>R v)=(bif f8 f9 s then∀a:Nat,∀b:J,jly (f9++s) a b=true→jt (Ff.S180_0.toLSpec.pre (ay,(rlbL [] b,((f9++s).size,(a,cm (natO (f9++s).size) 1))))) [] b 120 (∀c:J,Int→Ff.brOK c (f9++s).size a=true→gy (dx c 120) (S (sz (Ff.jc1 (fx (natO (f9++s).size-1)) (zc (rlbL [] b) (f9++s).size)))) R)else False):=by kernel_rfl
theorem ok180:jan Tryz.prog 241 (sp1 s180):=by
 refine jb6 ok_EN hmix (.m Tryz.func241) l180_0 jag fun s hc=> ?_
 rw[ja4,v180];delta dx jv jt gy f9 fx cm ay f8;have hc:(s.size≤900):=jab hc
 try dsimp only[s180]
 refine c_t (jd5 (by show 1+s.size≤_;omega)) fun cap d hd=> ?_
 simp only[jly,jaf,Nat.beq_eq,Nat.ble_eq,jae]at hd;obtain⟨k1,k2,k3,k4⟩:=hd;have zS:(ByteArray.mk #[48]++s).size=s.size+1:=by rw[ByteArray.size_append];show 1+s.size=_;omega
 have B:BrP d (ByteArray.mk #[48]++s).size cap:=⟨k3,k1,k2,by omega⟩
 have kz:zc d (ByteArray.mk #[48]++s).size=48::bz s:=by
  rw[zc,show iv=cInt from by funext v;cases v<;>rfl,k4];show bz (ByteArray.mk #[48]++s)=_;rw[jb0];rfl
 have ei:IntKind.wrap .i64 (natO (ByteArray.mk #[48]++s).size-1)=(s.size:Int):=by
  rw[jby,zS,w64 (by omega)];omega
 rw[B.rlb,kz,ei];refine c_t (by rw[B.good,jba B.plain];rfl) (c_t ?_ fun d' i' hd'=>c_t (by rw[jba (jf3.1 hd').plain];rfl) fun x=> ?_)
 ·simp only[S180_0,jaf,jae];refine⟨jf3.2 B,by rw[zS];omega,?_⟩;rw[kz];simp[noN]
 ·rw[Int.toNat_natCast]
end Go.Ff
end
noncomputable section
set_option maxHeartbeats 3200000
namespace Go.Ff
open Go Go.Ab Go.Proofs Go.Shelf Go.Px Go.Cv Go.Cx
open Go.Fx (Ty Vl)
def F0:Env:=(((((Env.nil.add 110 (sp2 Cx.s154)).add 114 (sp2 Cx.s30)).add 130 (sp1 Cx.s29)).add 241 (sp1 s180)))
theorem ok_F0:ja3 Tryz.prog F0:=jaj (jaj (jaj (jaj jav (pureB Cx.ok154)) (pureB Cx.ok30)) (pureB Cx.ok29)) ok180
def scZ(n q:Int):Num:=if trZ (itoZ (n.natAbs:Int)) 48=[]then(false,[],0)else(decide (n<0),trZ (itoZ (n.natAbs:Int)) 48,q-(((itoZ (n.natAbs:Int)).length:Int)-(trZ (itoZ (n.natAbs:Int)) 48).length))
def upS(l:O)(k:Nat):O:=if 53≤l.getD k 0 then jc1 k (48::l.take k)else l.take k
def roF(l:O)(c b:Int):O×Bool:=
 if c≤b then if l≠ []∧(l.length:Int)+(b-c)>300 then([],false)else(tlZ (l++repZ [48] (min (b-c) 300).toNat) 48,decide (((l++repZ [48] (min (b-c) 300).toNat).length:Int)≤300))
 else if(l.length:Int)+(b-c)<0 then([],true)else
  (tlZ (upS l ((l.length:Int)+(b-c)).toNat) 48,decide (((upS l ((l.length:Int)+(b-c)).toNat).length:Int)≤300))
theorem plus_len:∀(i:Nat)(L:O),(jc1 i L).length=L.length
 | 0,L=>by simp only[jc1];split<;>simp
 | i+1,L=>by
  simp only[jc1];split
  ·simp
  ·rw[plus_len i,List.length_set]
theorem jk0{L:O}(h:IsB L)(k:Nat){c:Int}(hc:0≤c∧c<256):IsB (L.set k c):=fun x hx=>by
 rcases List.mem_or_eq_of_mem_set hx with h' | rfl
 ·exact h x h'
 ·exact hc
theorem plus_isB{L:O}(h:IsB L):∀i,IsB (jc1 i L):=by
 have w:∀n:Int,0≤IntKind.u8.wrap n∧IntKind.u8.wrap n<256:=fun n=>by rw[w8e];omega
 intro i
 induction i generalizing L with
 | zero=>simp only[jc1];split;exact jk0 h _ (w _);exact h
 | succ i ih=>simp only[jc1];split;exact jk0 h _ (w _);exact ih (jk0 h _ (by omega))
theorem less5{c:UInt8}{l:Yc}:Op.bytesLess (c::l) [53]=decide (c.toNat<53):=by
 have e:Op.bytesLess l []=false:=by cases l<;>rfl
 rw[Op.bytesLess,e,Bool.and_false,Bool.or_false,Kl];simp only[jae];exact Iff.rfl
theorem up_iff{s:Y}{k:Nat}(h:k<s.size):(!Op.bytesLess (s.extract k s.size).toList (ByteArray.mk #[53]).toList)=decide (53≤(bz s).getD k 0):=by
 have hl:k<s.data.toList.length:=by rw[Array.length_toList];exact h
 have hd:(s.extract k s.size).toList=s.data.toList.drop k:=by
  rw[ByteArray.toList_eq,ByteArray.data_extract,Array.toList_extract,List.extract_eq_take_drop,Kw];show(List.drop k s.data.toList).length≤s.data.size-k;rw[KE,Array.length_toList];exact Kv _
 have h5:(ByteArray.mk #[53]).toList=[53]:=by rw[ByteArray.toList_eq]
 have hb:(bz s).getD k 0=((s.data.toList[k]).toNat:Int):=by
  rw[←jed,jai,Kx hl];rfl
 rw[hd,h5,List.drop_eq_getElem_cons hl,less5,hb,Kl];simp only[Ks,decide_eq_false_iff_not,jae];omega
def V129_0:Bool×Y×Int×Bool×Y×Int→J:=fun(xb,x,xi,ng,d,c)=> [.pointer (some ⟨0,0,some 0⟩),.pointer (some ⟨10,0,some 0⟩)]
def B129_0:Bool×Y×Int×Bool×Y×Int→Ya:=fun(xb,x,xi,ng,d,c)=> [some ⟨[B xb,S x,I xi],59,true⟩,some ⟨[B ng,S d,I c],59,true⟩]
def S129_0:LSpec (Bool×Y×Int×Bool×Y×Int) where
 live:=[4,5]
 mid:=[0,10]
 n:=60
 dec vs bs:=match vs,bs with | [.pointer (some ⟨0,0,some 0⟩),.pointer (some ⟨10,0,some 0⟩)],[some ⟨[.bool xb,.string x,.int .i64 xi],59,true⟩,some ⟨[.bool ng,.string d,.int .i64 c],59,true⟩]=>some (xb,x,xi,ng,d,c) | _,_=>none
 pre:=fun(xb,x,xi,ng,d,c)=>decide (d.size≤100∧ -100000≤c-d.size∧c≤100000)
 fin:=fun(xb,x,xi,ng,d,c) Z=>∀d':Y,bz d'=trZ (bz d) 48→Z (.exit 0) [.pointer (some ⟨0,0,some 0⟩),.pointer (some ⟨10,0,some 0⟩)] [some ⟨[B xb,S x,I xi],59,true⟩,some ⟨[B ng,S d',I (c-((d.size:Int)-d'.size))],59,true⟩]
theorem r129_0(xb:Bool)(x:Y)(xi:Int)(ng:Bool)(d:Y)(c:Int)(jk:Tmps)(R:Exit→J→Ya→Prop):(jbn Tryz.prog F0 noL Tryz.f171.ntmps (ja2 Tryz.f171 0) (tl S129_0.live (V129_0 (xb,x,xi,ng,d,c)) jk) (ml S129_0.mid (B129_0 (xb,x,xi,ng,d,c))) S129_0.n fun e t' m' _=>R e (List.map t' S129_0.live) (List.map m' S129_0.mid))=(go (!ez d ay) (cl (d9 d 1) (al d) &&true) true (!ez d ay&&jai d (d9 d 1).toNat==48) (bm (kh d 1) R [gu xb x xi,gu ng (j1 d 1) (dt c 1)] [ar 0,ar 10]) (R (.exit 0) [ar 0,ar 10] [gu xb x xi,gu ng d c])):=by kernel_rfl
theorem l129_0:LOKf Tryz.prog (oneL 0 S129_0.h) Tryz.f171:=by
 refine jbb (h:=S129_0.h) (by kernel_rfl) (ja6 ok_F0 hmix (by kernel_rfl) (ja0 _) S129_0 V129_0 B129_0 (fun(xb,x,xi,ng,d,c)=>d.size) ?_ ?_ ?_)
 ·intro vs bs s h;simp only[S129_0]at h;split at h
  all_goals first | (cases h;exact⟨rfl,rfl⟩) | cases h | (split at h<;>first | (rename_i hq;cases h;have hq:=jah hq;subst hq;exact⟨rfl,rfl⟩) | cases h)
 ·exact fun _ _ _ h=>h
 ·intro⟨xb,x,xi,ng,d,c⟩ jk Z hp hf;rw[r129_0];delta av go ak gu ar bm dt al d9 j1 c7 kh ez ay cl;simp only[S129_0]at hp hf;have hp:=jab hp;have hl:∀h:0<d.size,IntKind.i64.wrap ((d.size:Int)-1)=((d.size-1:Nat):Int):=fun h=>by rw[w64 (by omega)];omega
  have he:(d.toList==(ByteArray.mk #[]).toList)=decide (d.size=0):=by rw[jb8,Kl];simp[←KF]
  rw[he]
  refine c_t (by
    rcases Nat.eq_zero_or_pos d.size with q | q
    ·simp[q]
    ·rw[hl q];simp
     try omega) (Ka (fun h=> ?_) (fun h=> ?_))
  ·simp only[jaf,Ks,decide_eq_false_iff_not]at h;have h0:0<d.size:=by omega
   rw[hl h0]at h ⊢;have hb:=jfo (s:=d) (n:=((d.size-1:Nat):Int)) (by omega) (by omega);rw[Int.toNat_natCast]at hb;have hc:jai d (d.size-1)=48:=by simpa using h.2
   rw[hc]at hb;have hb':=hb;rw[hb,jky]at hf;refine c_t (by simp;try omega) ?_;rw[w64 (n:=c-1) (by omega)];refine⟨(xb,x,xi,ng,d.extract 0 (d.size-1),c-1),rfl,rfl,by simp only[S129_0,jae,jcd];omega,by simp only[jcd];omega,fun d' e=> ?_⟩;have e2:c-1-(((d.extract 0 (d.size-1)).size:Int)-d'.size)=c-((d.size:Int)-d'.size):=by rw[jcd];omega
   rw[e2];exact hf d' e
  ·have hz:bz d=trZ (bz d) 48:=by
    rcases Nat.eq_zero_or_pos d.size with h0 | h0
    ·rw[jgx h0];rfl
    ·have hb:=jfo (s:=d) (n:=((d.size-1:Nat):Int)) (by omega) (by omega);rw[Int.toNat_natCast]at hb;rw[hb];refine(jny (fun q=> ?_) _).symm;rw[hl h0]at h;have:d.size≠0:=by omega
     simp[q,this]at h
   have e:=hf d hz;rw[show c-((d.size:Int)-d.size)=c by omega]at e;exact e
def s129(n:Int)(q:Int):Bool×Value:=(decide (-2147483648≤n∧n≤2147483648∧ -1000≤q∧q≤1000),numV (scZ n q))
theorem v129(n:Int)(q:Int)(R:Value→Prop):jax Tryz.prog F0 (oneL 0 S129_0.h) Tryz.f171 [Enc.enc n,Enc.enc q] (fun _=>none) 0 (fun v _ _=>R v)=(lj (Ff.S129_0.pre (false,(ay,((0:Int),(dw n,(szO (itoZ (imax n (dt 0 n))),q)))))) (-9223372036854775808) (imax n (dt 0 n)) 9223372036854775807 (pu (dw n) (szO (itoZ (imax n (dt 0 n)))) q R)):=by kernel_rfl
theorem ok129:jan Tryz.prog 171 (sp2 s129):=by
 refine jcz ok_F0 hmix (.m Tryz.func171) l129_0 jag fun n q hc=> ?_
 rw[ja4,v129];delta e7 ia lj av ib cu al ak ay cv lu ez pu dt dw;have hc:(-2147483648≤n∧n≤2147483648∧ -1000≤q∧q≤1000):=jab hc
 try dsimp only[s129]
 have hw:IntKind.i64.wrap (0-n)=0-n:=w64 (by omega);have hm:imax n (0-n)=(n.natAbs:Int):=by rw[imax];split<;>omega
 rw[hw,hm];have hb:bz (szO (itoZ (n.natAbs:Int)))=itoZ (n.natAbs:Int):=jcs (jge _);have hl:=jd9 (m:=(n.natAbs:Int)) (by omega);rw[hb,jbu];refine c_t (jaa (by omega)) (c_t ?_ fun d' e x=> ?_)
 ·simp only[S129_0,jae,jbu];omega
 ·have hs:d'.size=(trZ (itoZ (n.natAbs:Int)) 48).length:=by rw[←jak,e]
  rw[jb8,e,hs,jmp e];apply Ka<;>intro h
  ·have h:=jab h;rw[scZ,Kd h];show _=Value.agg ⟨[.bool false,.string (szO []),.int .i64 0]⟩;rw[jdi]
  ·have h:=jac h;rw[scZ,Kc h]
def s133(x:Nu)(b:Int):Bool×Value:=(decide (x.d.size≤900∧0≤b∧b≤9∧ -100000≤x.c∧x.c≤100000),.tuple ⟨[S (szO (roF (bz x.d) x.c b).1),B (roF (bz x.d) x.c b).2]⟩)
theorem fn133:Fn1 Tryz.prog 174 Tryz.f174:= .m Tryz.func174
def pz(a:Y):Value:=aq [.bool (decide (fk a≤300))] (.string (kj a))
def mr(a:Cx.Nu)(b:Int):Int:=iz a+cm b (Nu.c a)
def o8(a:Cx.Nu)(b:Int):Y:=(Nu.d a).extract 0 (fx (mr a b))
theorem v133(x:Nu)(b:Int)(R:Value→Prop):jax Tryz.prog F0 noL Tryz.f174 [Enc.enc x,Enc.enc b] (fun _=>none) 0 (fun v _ _=>R v)=(bif decide (cm b (Nu.c x)≥0)then bq (decide (iz x>0)) true (decide (iz x>0) &&decide (IntKind.i64.wrap (mr x b)>300)) (R (aq d8 cv)) (jb (ig f9 (imin (cm b (Nu.c x)) 300) 1000 1000) (f8 (Nu.d x) (j4 (imin (cm b (Nu.c x)) 300) 48)) (pz (Nu.d x++j4 (imin (cm b (Nu.c x)) 300) 48)) R)else bif decide (IntKind.i64.wrap (mr x b)<0)then R (aq fv cv)else bif c7 0 (IntKind.i64.wrap (mr x b)) (iz x) (iz x) (iz x)then bif c7 0 0 (IntKind.i64.wrap (mr x b)) (IntKind.i64.wrap (mr x b)) (iz x)then bif !Op.bytesLess ((Nu.d x).extract (fx (mr x b)) (Nu.d x).size).toList (ByteArray.mk #[53]).toList then br (decide ((o8 x b).size≤900)) (pz (sz (Ff.jc1 (o8 x b).size (48::bz (o8 x b))))) R else R (pz (o8 x b))else False else False):=by kernel_rfl
theorem ok133:jan Tryz.prog 174 (sp2 s133):=by
 refine jcz ok_F0 hmix fn133 jal jag fun x b hc=> ?_
 rw[ja4,v133];delta aq jy kj fk pz fx cm iz mr o8 br c7 ay cv fv av bq jb j4 f8 ig f9 d8;have hc:(x.d.size≤900∧0≤b∧b≤9∧ -100000≤x.c∧x.c≤100000):=jab hc
 try dsimp only[s133]
 have d48:(bz (ByteArray.mk #[48])).getD 0 0=48:=rfl;have b48:bz (ByteArray.mk #[48])=[48]:=rfl;have z48:(ByteArray.mk #[48]).size=1:=rfl;rw[d48,b48,z48,w64 (n:=b-x.c) (by omega)];have hz:(x.d.size:Int)=(bz x.d).length:=by rw[jak]
 apply Ka<;>intro h
 ·have h:=jab h;have h:x.c≤b:=by omega
  have e1:roF (bz x.d) x.c b=if bz x.d≠ []∧((bz x.d).length:Int)+(b-x.c)>300 then([],false)else(tlZ (bz x.d++repZ [48] (min (b-x.c) 300).toNat) 48,decide (((bz x.d++repZ [48] (min (b-x.c) 300).toNat).length:Int)≤300)):=by rw[roF,Kd h]
  rw[w64 (n:=(x.d.size:Int)+(b-x.c)) (by omega)];refine c_t (by simp) (Ka (fun h2=> ?_) (fun h2=> ?_))
  ·simp only[jaf,jae]at h2;rw[e1,Kd ⟨fun q=>by have q:=congrArg List.length q;rw[jak,List.length_nil]at q;omega,by omega⟩,jdi]
  ·have hr:(repZ [48] (min (b-x.c) 300).toNat).length=(min (b-x.c) 300).toNat:=by rw[jda,Km]
   have hi:imin (b-x.c) 300=min (b-x.c) 300:=by rw[imin];split<;>omega
   have hiB:IsB (repZ [48] (min (b-x.c) 300).toNat):=by rw[jda];exact jgl _
   rw[hi];have hs:bz (x.d++szO (repZ [48] (min (b-x.c) 300).toNat))=bz x.d++repZ [48] (min (b-x.c) 300).toNat:=by rw[jb0,jcs hiB]
   refine c_t (jaa (by omega)) (c_t (jd5 (by rw[jbu,hr];omega)) ?_);rw[hs,←jak (x.d++_),hs,e1,Kc ?_];intro⟨q1,q2⟩;have q3:(bz x.d).length≠0:=fun q=>q1 (KF.1 q)
   have:(x.d.size:Int)>0:=by omega
   have hq:(x.d.size:Int)+(b-x.c)>300:=by omega
   simp only[this,hq,decide_true,Bool.and_true]at h2;cases h2
 ·have h:=jac h;have h:¬x.c≤b:=by omega
  rw[w64 (n:=(x.d.size:Int)+(b-x.c)) (by omega)];rw[roF,Kc h,hz];apply Ka<;>intro h2
  ·have h2:=jab h2;rw[Kd (by omega),jdi]
  ·have h2:=jac h2;rw[Kc (by omega)];obtain⟨k,hk⟩:∃k:Nat,((bz x.d).length:Int)+(b-x.c)=(k:Int):=⟨(((bz x.d).length:Int)+(b-x.c)).toNat,by omega⟩
   rw[hk,Int.toNat_natCast];have hkl:k<x.d.size:=by omega
   have hx:(x.d.extract 0 k).size=k:=by rw[jcd];omega
   have hbx:bz (x.d.extract 0 k)=(bz x.d).take k:=jfn k;refine c_t (jaa (by omega)) (c_t (jaa (by omega)) ?_);rw[hx,hbx,up_iff hkl];apply Ka<;>intro h3
   ·have h3:=jab h3;have hB:IsB (jc1 k (48::(bz x.d).take k)):=plus_isB (IsB.cons (by omega) ((jdh _).take _)) _;have hL:(jc1 k (48::(bz x.d).take k)).length=k+1:=by rw[plus_len,List.length_cons,Kp,jak];omega
    refine c_t (jaa (by omega)) ?_;rw[jc7 hB,jco,upS,Kd h3]
   ·have h3:=jac h3;rw[upS,Kc h3];have hL:((bz x.d).take k).length=k:=by rw[Kp,jak];omega
    rw[hL]
def F1:Env:=Env.nil.add 174 (sp2 s133)
theorem ok_F1:ja3 Tryz.prog F1:=jaj jav ok133
def ptZ(p:O)(b:Int):O:=if 0<b then p.take (p.length-b.toNat)++ [46]++p.drop (p.length-b.toNat)else p
def padN(l:O)(n:Int):O:=List.replicate (n-l.length).toNat 48++l
def fixF(g:Bool)(s:O)(b:Int):O:=(if g=true∧s≠ []then [45]else [])++ptZ (padN s (b+1)) b
theorem roF_len{l:O}{c b:Int}(h:(roF l c b).2=true):(roF l c b).1.length≤300:=by
 unfold roF at h ⊢
 have key:∀s:O,decide ((s.length:Int)≤300)=true→(tlZ s 48).length≤300:=fun s hs=>by
  have:=jab hs;have:=jd4 s 48;omega
 split at h
 ·split at h
  ·cases h
  ·rename_i h1 h2;rw[Kd h1,Kc h2];exact key _ h
 ·split at h
  ·rename_i h1 h2;rw[Kc h1,Kd h2];simp
  ·rename_i h1 h2;rw[Kc h1,Kc h2];exact key _ h
theorem up_isB{l:O}(h:IsB l)(k:Nat):IsB (upS l k):=by
 unfold upS;split
 ·exact plus_isB (IsB.cons (by omega) (h.take _)) _
 ·exact h.take _
theorem roF_isB{l:O}(h:IsB l)(c b:Int):IsB (roF l c b).1:=by
 unfold roF;split
 ·split
  ·exact IsB.nil
  ·exact jkp (h.append (by rw[jda];exact jgl _)) _
 ·split
  ·exact IsB.nil
  ·exact jkp (up_isB h _) _
theorem pad_step{l:O}{n:Int}(h:(l.length:Int)<n):padN (48::l) n=padN l n:=by
 obtain⟨k,hk⟩:∃k:Nat,n-(l.length:Int)=((k+1:Nat):Int):=⟨(n-l.length-1).toNat,by omega⟩
 have e1:(n-((48::l).length:Nat)).toNat=k:=by rw[List.length_cons];omega
 have e2:(n-(l.length:Int)).toNat=k+1:=by omega
 rw[padN,padN,e1,e2,List.replicate_succ',Kz];rfl
theorem pad_done{l:O}{n:Int}(h:¬(l.length:Int)<n):padN l n=l:=by
 have e2:(n-(l.length:Int)).toNat=0:=by omega
 rw[padN,e2];rfl
theorem pad_isB{l:O}(h:IsB l)(n:Int):IsB (padN l n):=by
 refine IsB.append (fun c hc=> ?_) h;rw[Ky hc];omega
theorem pad_len{l:O}{n:Int}(h:(l.length:Int)≤300)(hn:0≤n∧n≤10):n≤((padN l n).length:Int)∧(padN l n).length≤310∧(l.length:Int)≤(padN l n).length:=by
 rw[padN,Kk,Km];omega
def sh(a b:Y)(c:Value→Prop):Prop:=br (f8 a b) (aq fv (.string (a++b))) c
def k76(sg s':Y)(b:Int)(R:Value→Prop):Prop:=bif gp b then py (kh s' b) (j1 s' b) ⟨#[46]⟩ s' (d9 s' b) (al s') (bif f8 (j1 s' b++⟨#[46]⟩) (g0 s' (d9 s' b))then sh sg (j1 s' b++⟨#[46]⟩++g0 s' (d9 s' b)) R else False)else sh sg s' R
theorem k76_ok{sg s':Y}{b:Int}{P:O}{R:Value→Prop}(h:bz s'=P)(hb:0≤b∧b≤9)(hs:b+1≤(s'.size:Int))(hl:s'.size≤310)(hg:sg.size≤1)
  (hR:R (Value.tuple ⟨[S (szO (bz sg++ptZ P b)),B true]⟩)):k76 sg s' b R:=by
 have hz:(s'.size:Int)=P.length:=by rw[←h,jak]
 unfold k76;delta br aq fv f8 sh e7 c7 al py g0 d9 j1 kh gp;apply Ka<;>intro h1
 ·have h1:=jab h1;obtain⟨k,hk⟩:∃k:Nat,(s'.size:Int)-b=(k:Int):=⟨((s'.size:Int)-b).toNat,by omega⟩
  have hw:IntKind.i64.wrap ((s'.size:Int)-b)=(k:Int):=by rw[w64 (by omega),hk]
  have x1:(s'.extract 0 k).size=k:=by rw[jcd];omega
  have x2:(s'.extract k s'.size).size=s'.size-k:=by rw[jcd];omega
  have x3:(ByteArray.mk #[46]).size=1:=rfl;have kP:P.length-b.toNat=k:=by omega
  have e:sg++(s'.extract 0 k++ByteArray.mk #[46]++s'.extract k s'.size)=szO (bz sg++ptZ P b):=by
   refine jmp ?_;have q:(bz s').take s'.size=bz s':=Kw (by rw[jak];exact Kv _);rw[jb0,jb0,jb0,jfn,jb5,q,h,ptZ,Kd h1,kP];rfl
  rw[hw,Int.toNat_natCast,e];simp only[ByteArray.size_append,x1,x2,x3];exact c_t (jaa (by omega)) (c_t (jd5 (by omega)) (c_t (jaa (by omega)) (c_t (jd5 (by omega)) (c_t (jd5 (by omega)) hR))))
 ·have h1:=jac h1
  have e:sg++s'=szO (bz sg++ptZ P b):=by
   refine jmp ?_;rw[jb0,h,ptZ,Kc (by omega)]
  rw[e];exact c_t (jd5 (by omega)) hR
def V76_0:Int×Y×Y→J:=fun(b,s,q)=> [I b,S s,S q]
def B76_0:Int×Y×Y→Ya:=fun _=> []
def S76_0:LSpec (Int×Y×Y) where
 live:=[1,6,8]
 mid:=[]
 n:=60
 dec vs bs:=match vs,bs with | [.int .i64 b,.string s,.string q],[]=>some (b,s,q) | _,_=>none
 pre:=fun(b,s,q)=>decide (0≤b∧b≤9∧s.size≤300)
 fin:=fun(b,s,q) Z=>∀s':Y,bz s'=padN (bz s) (b+1)→Z (.exit 0) [I b,S s',S q] []
theorem r76_0(b:Int)(s:Y)(q:Y)(jk:Tmps)(R:Exit→J→Ya→Prop):(jbn Tryz.prog F1 noL Tryz.f117.ntmps (ja2 Tryz.f117 0) (tl S76_0.live (V76_0 (b,s,q)) jk) (ml S76_0.mid (B76_0 (b,s,q))) S76_0.n fun e t' m' _=>R e (List.map t' S76_0.live) (List.map m' S76_0.mid))=(bif decide (al s<ax b)then bm (f8 f9 s) R [] [ak b,S (f9++s),S q]else R (.exit 0) [ak b,S s,S q] []):=by kernel_rfl
theorem l76_0:LOKf Tryz.prog (oneL 0 S76_0.h) Tryz.f117:=by
 refine jbb (h:=S76_0.h) (by kernel_rfl) (ja6 ok_F1 hmix (by kernel_rfl) (ja0 _) S76_0 V76_0 B76_0 (fun(b,s,q)=>(b+1-s.size).toNat) ?_ ?_ ?_)
 ·intro vs bs s h;simp only[S76_0]at h;split at h
  all_goals first | (cases h;exact⟨rfl,rfl⟩) | cases h | (split at h<;>first | (rename_i hq;cases h;have hq:=jah hq;subst hq;exact⟨rfl,rfl⟩) | cases h)
 ·exact fun _ _ _ h=>h
 ·intro⟨b,s,q⟩ jk Z hp hf;rw[r76_0];delta ak bm f9 f8 ax al;simp only[S76_0]at hp hf;have hp:=jab hp;rw[w64 (n:=b+1) (by omega)];apply Ka<;>intro h
  ·have h:=jab h;have hz:bz (ByteArray.mk #[48]++s)=48::bz s:=by rw[jb0];rfl
   have hs:(ByteArray.mk #[48]++s).size=s.size+1:=by rw[←jak,hz,List.length_cons,jak]
   refine c_t (jd5 (by show 1+s.size≤_;omega)) ?_;refine⟨(b,ByteArray.mk #[48]++s,q),rfl,rfl,by simp only[S76_0,jae,hs];omega,by simp only[hs];omega,fun s' e=>hf s' ?_⟩;rw[e,hz,pad_step (by rw[jak];omega)]
  ·have h:=jac h;exact hf s (pad_done (by rw[jak];omega)).symm
def s76(x:Nu)(b:Int):Bool×Value:=(decide (x.d.size≤900∧0≤b∧b≤9∧ -100000≤x.c∧x.c≤100000),.tuple ⟨[S (szO (bif (roF (bz x.d) x.c b).2 then fixF x.g (roF (bz x.d) x.c b).1 b else [])),B (roF (bz x.d) x.c b).2]⟩)
def rq(f:Y)(e:Cx.Nu)(b:Int)(g:Value→Prop):Prop:=bif Ff.S76_0.pre (b,(szO (Ff.roF (bz (Nu.d e)) (Nu.c e) b).fst,f))then∀a:Y,bz a=Ff.padN (bz (szO (Ff.roF (bz (Nu.d e)) (Nu.c e) b).fst)) (b+1)→Tmps→Ff.k76 f a b g else False
def qa(a:Y)(b c:Int):Bool:=decide (a.size≤900∧0≤b∧b≤9∧ -(100000:Int)≤c∧c≤100000)
theorem v76(x:Nu)(b:Int)(R:Value→Prop):jax Tryz.prog F1 (oneL 0 S76_0.h) Tryz.f117 [Enc.enc x,Enc.enc b] (fun _=>none) 0 (fun v _ _=>R v)=(bif qa (Nu.d x) b (Nu.c x)then bif !(Ff.roF (bz (Nu.d x)) (Nu.c x) b).snd then R (aq d8 cv)else bq (Nu.g x) true (Nu.g x&& !j2 (Ff.roF (bz (Nu.d x)) (Nu.c x) b).fst) (rq ⟨#[45]⟩ x b R) (rq ay x b R)else False):=by kernel_rfl
theorem ok76:jan Tryz.prog 117 (sp2 s76):=by
 refine jcz ok_F1 hmix (.m Tryz.func117) l76_0 jag fun x b hc=> ?_
 rw[ja4,v76];delta av bq rq ay j2 aq cv d8 qa;have hc:(x.d.size≤900∧0≤b∧b≤9∧ -100000≤x.c∧x.c≤100000):=jab hc
 try dsimp only[s76]
 have hI:=roF_isB (jdh x.d) x.c b;have hbz:bz (szO (roF (bz x.d) x.c b).1)=(roF (bz x.d) x.c b).1:=jcs hI;refine c_t (jaa hc) (Ka (fun h=> ?_) (fun h=> ?_))
 ·have h:(roF (bz x.d) x.c b).2=false:=by simpa using h
  rw[h];show _=Value.tuple ⟨[S (szO []),B false]⟩;rw[jdi]
 have h:(roF (bz x.d) x.c b).2=true:=by simpa using h
 have hlen:=roF_len h;rw[hbz,h,jb8,hbz]
 have hpre:∀q:Y,S76_0.pre (b,szO (roF (bz x.d) x.c b).1,q)=true:=fun q=>by
  simp only[S76_0,jae,jbu];omega
 obtain⟨p1,p2,p3⟩:=pad_len (l:=(roF (bz x.d) x.c b).1) (n:=b+1) (by omega) (by omega);refine c_t (by simp) (Ka (fun h2=>c_t (hpre _) fun s' e y=> ?_) (fun h2=>c_t (hpre _) fun s' e y=> ?_))
 ·have hz:s'.size=(padN (roF (bz x.d) x.c b).1 (b+1)).length:=by rw[←jak,e]
  refine k76_ok e (by omega) (by omega) (by omega) (by decide) ?_;simp only[jaf,Ks,decide_eq_false_iff_not]at h2;show Value.tuple ⟨[S (szO (bz (ByteArray.mk #[45])++ptZ _ b)),B true]⟩=Value.tuple ⟨[S (szO (fixF x.g _ b)),B true]⟩;rw[fixF,Kd h2];rfl
 ·have hz:s'.size=(padN (roF (bz x.d) x.c b).1 (b+1)).length:=by rw[←jak,e]
  refine k76_ok e (by omega) (by omega) (by omega) (by decide) ?_;show Value.tuple ⟨[S (szO (bz (ByteArray.mk #[])++ptZ _ b)),B true]⟩=Value.tuple ⟨[S (szO (fixF x.g _ b)),B true]⟩;rw[fixF,Kc ?_]
  ·rfl
  ·intro⟨q1,q2⟩;simp[q1,q2]at h2
attribute [local instance 5000] tabsB
structure Fo where
 k:Int
 w:Int
 d:Int
 s:Y
instance:Enc Fo where
 enc t:= .agg ⟨[.int .i64 t.k,.int .i64 t.w,.int .i64 t.d,.string t.s]⟩
 dec | .agg ⟨[.int .i64 k,.int .i64 w,.int .i64 d,.string s]⟩=>some ⟨k,w,d,s⟩ | _=>none
 dec_some:=by
  intro v a h;split at h
  ·cases h;rfl
  ·cases h
 plain_enc _:=rfl
def F3:Env:=(Env.nil.add 72 (sp1 s20f)).add 122 (sp1 Px.s33)
theorem ok_F3:ja3 Tryz.prog F3:=jaj (jaj jav (pureB ok20f)) (pureB Px.ok33)
def jcj(f:Fo):Bool:=decide (1≤f.k∧f.k≤7∧0≤f.w∧f.w≤255∧0≤f.d∧f.d≤9∧f.d≤f.w∧(0<f.d→f.k=3)) && (bif decide (f.k=4)then decide (pE (bz f.s)=0)else decide (f.s.size=0))
def s44(f:Fo):Bool×Value:=(decide (f.s.size≤9223372036854775807),B (jcj f))
def ru(b:Bool)(a:Ff.Fo):Bool:=decide (Ff.Fo.w a<0) || (decide (Ff.Fo.w a>255) || (decide (Ff.Fo.d a<0) || (decide (Ff.Fo.d a>9) || (decide (Ff.Fo.d a>Ff.Fo.w a) || b))))
theorem v44(f:Fo)(R:Value→Prop):jax Tryz.prog F3 noL Tryz.f77 [Enc.enc f] (fun _=>none) 0 (fun v _ _=>R v)=(qg (ru (decide (Ff.Fo.d f>0) || true) f) (ru (decide (Ff.Fo.d f>0) &&Ff.Fo.k f !=3) f) (Ff.Fo.k f==4) (Ff.Fo.k f) 7 (br (cw (Ff.Fo.s f)) (B (pE (bz (Ff.Fo.s f))==0)) R) (R (B (ez (Ff.Fo.s f) ay))) (B false) R):=by kernel_rfl
theorem ok44:jan Tryz.prog 77 (sp1 s44):=by
 refine jb6 ok_F3 hmix (.m Tryz.func77) jal jag fun f hc=> ?_
 rw[ja4,v44];delta av bw qg ez ay br cw ru;have hc:(f.s.size≤9223372036854775807):=jab hc
 try dsimp only[s44]
 refine c_t (by simp) (Ka (fun h=> ?_) (fun h=>Ka (fun q=>c_t (jaa hc) ?_) (fun q=> ?_)))
 ·have e:jcj f=false:=by
   rw[jcj,KK];refine .inl (jad fun⟨a,b,c,d,e,g,i,j⟩=> ?_);simp only[Ko,jaf,jae,KM]at h;omega
  rw[e]
 ·have q:f.k=4:=by simpa using q
  simp only[Kr,KK,decide_eq_false_iff_not,bne_eq_false_iff_eq]at h;rw[jcj,jaa (by omega),jaa q];congr 1
 ·have q:¬f.k=4:=by simpa using q
  simp only[Kr,KK,decide_eq_false_iff_not,bne_eq_false_iff_eq]at h;rw[jcj,jaa (by omega),jad q,jb8];congr 1;rw[Bool.true_and,cond_false,Kl,jae,jae,←jak];exact List.length_eq_zero_iff.symm
def s71(f:Fo):Bool×Value:=(true,B (decide (f.k≤4)))
theorem v71(f:Fo)(R:Value→Prop):jax Tryz.prog F3 noL Tryz.f106 [Enc.enc f] (fun _=>none) 0 (fun v _ _=>R v)=(R (B (decide (Fo.k f≤4)))):=by kernel_rfl
theorem ok71:jan Tryz.prog 106 (sp1 s71):=by
 refine jb6 ok_F3 hmix (.m Tryz.func106) jal jag fun f hc=> ?_
 rw[ja4,v71]
 try dsimp only[s71]
def typE(t:Ty):Int:=if chk4 t≠0 then chk4 t else if t.k=6 then 5 else 0
def s55(t:Ty):Bool×Value:=(decide (t.s.size≤9223372036854775807),I (typE t))
theorem v55(t:Ty)(R:Value→Prop):jax Tryz.prog F3 noL Tryz.f91 [Enc.enc t] (fun _=>none) 0 (fun v _ _=>R v)=(kp (decide (sz63 t)) (chk4 t !=0) (R (I (chk4 t))) (bif dl t 6 then R (ak 5)else R (ak 0))):=by kernel_rfl
theorem ok55:jan Tryz.prog 91 (sp1 s55):=by
 refine jb6 ok_F3 hmix (.m Tryz.func91) jal jag fun t hc=> ?_
 rw[ja4,v55];delta kp ak dl;have hc:(t.s.size≤9223372036854775807):=jab hc
 try dsimp only[s55]
 refine c_t (jaa hc) (Ka (fun h=> ?_) (fun h=>Ka (fun q=> ?_) (fun q=> ?_)))
 ·rw[typE,Kd (by simpa using h)]
 ·rw[typE,Kc (by simpa using h),Kd (by simpa using q)]
 ·rw[typE,Kc (by simpa using h),Kc (by simpa using q)]
def F4:Env:=(((Env.nil.add 23 (sp2 s22f)).add 77 (sp1 s44)).add 106 (sp1 s71)).add 91 (sp1 s55)
theorem ok_F4:ja3 Tryz.prog F4:=jaj (jaj (jaj (jaj jav (pureB ok22f)) ok44) ok71) ok55
def s37(f:Fo):Bool×Value:=(decide (f.s.size≤9223372036854775807),I (if jcj f=true∧f.k≤4 then 0 else 130))
theorem v37(f:Fo)(R:Value→Prop):jax Tryz.prog F4 noL Tryz.f78 [Enc.enc f] (fun _=>none) 0 (fun v _ _=>R v)=(bif decide ((Fo.s f).size≤9223372036854775807) && (!jcj f || true)then bif !jcj f || !decide (Fo.k f≤4)then R (I 130)else R (I 0)else False):=by kernel_rfl
theorem ok37:jan Tryz.prog 78 (sp1 s37):=by
 refine jb6 ok_F4 hmix (.m Tryz.func78) jal jag fun f hc=> ?_
 rw[ja4,v37];have hc:(f.s.size≤9223372036854775807):=jab hc
 try dsimp only[s37]
 refine c_t (by simp[hc]) (Ka (fun h=> ?_) (fun h=> ?_))
 ·rw[Kc];rintro ⟨a,b⟩;simp[a,b]at h
 ·simp only[Kr,Bool.not_eq_false',jae]at h;rw[Kd h]
def fitE(v:Vl)(t:Ty):Int:=if fit4 v t≠0 then fit4 v t else typE t
def s38(v:Vl)(t:Ty):Bool×Value:=(decide (t.s.size≤9223372036854775807∧v.s.size≤9223372036854775807),I (fitE v t))
def mtq(f:Bool)(a:Fx.Ty)(b:Fx.Vl)(c:Int)(h:Prop)(e g:Value)(d:Value→Prop):Prop:=bif im (Fx.Vl.s b) (Fx.Ty.s a).size 9223372036854775807 9223372036854775807 then bif c !=0 then d e else bif f then d g else h else False
theorem v38(v:Vl)(t:Ty)(R:Value→Prop):jax Tryz.prog F4 noL Tryz.f57 [Enc.enc v,Enc.enc t] (fun _=>none) 0 (fun v _ _=>R v)=(mtq (cw (Fx.Ty.s t)) t v (fit4 v t) False (I (fit4 v t)) (I (Ff.typE t)) R):=by kernel_rfl
theorem ok38:jan Tryz.prog 57 (sp2 s38):=by
 refine jcz ok_F4 hmix (.m Tryz.func57) jal jag fun v t hc=> ?_
 rw[ja4,v38];delta im mtq cw;have hc:(t.s.size≤9223372036854775807∧v.s.size≤9223372036854775807):=jab hc
 try dsimp only[s38]
 refine c_t (jaa hc) (Ka (fun h=> ?_) (fun h=>c_t (jaa hc.1) ?_))
 ·rw[fitE,Kd (by simpa using h)]
 ·rw[fitE,Kc (by simpa using h)]
theorem scZ_ok{n q:Int}(hn: -2147483648≤n∧n≤2147483648)(hq: -1000≤q∧q≤1000):IsB (scZ n q).2.1∧(scZ n q).2.1.length≤10∧ -2000≤(scZ n q).2.2∧(scZ n q).2.2≤2000:=by
 have hl:=jd9 (m:=(n.natAbs:Int)) (by omega);have ht:=jhf (itoZ (n.natAbs:Int)) 48;unfold scZ;split
 ·exact⟨IsB.nil,by simp,by simp,by simp⟩
 ·exact⟨jm3 (jge _) _,by simp only;omega,by simp only;omega,by simp only;omega⟩
theorem ptZ_isB{p:O}(h:IsB p)(b:Int):IsB (ptZ p b):=by
 unfold ptZ;split
 ·exact((h.take _).append (IsB.cons (by omega) IsB.nil)).append (h.drop _)
 ·exact h
theorem fixF_isB{s:O}(h:IsB s)(g:Bool)(b:Int):IsB (fixF g s b):=by
 refine IsB.append ?_ (ptZ_isB (pad_isB h _) b);split
 ·exact IsB.cons (by omega) IsB.nil
 ·exact IsB.nil
theorem fixF_len{s:O}(h:s.length≤300)(g:Bool){b:Int}(hb:0≤b∧b≤9):(fixF g s b).length≤320:=by
 obtain⟨p1,p2,p3⟩:=pad_len (l:=s) (n:=b+1) (by omega) (by omega)
 have e:(ptZ (padN s (b+1)) b).length≤311:=by
  unfold ptZ;split
  ·simp only[Kk,Kp,KE,List.length_cons,List.length_nil];omega
  ·omega
 rw[fixF,Kk];split<;>simp<;>omega
def c8(f:Fo)(v:Vl)(t:Ty):Prop:=((f.k=3∧0≤f.w∧f.w≤255∧0≤f.d∧f.d≤9∧t.k=1∧ -2147483648≤v.n∧v.n≤2147483648∧ -1000≤t.q∧t.q≤1000)∧f.s.size≤9223372036854775807∧t.s.size≤9223372036854775807∧v.s.size≤9223372036854775807∧jcj f=true∧fitE v t=0)
instance (f:Fo)(v:Vl)(t:Ty):Decidable (c8 f v t):=by unfold c8;infer_instance
end Go.Ff
end
noncomputable section
set_option maxHeartbeats 3200000
set_option maxRecDepth 100000
namespace Go.Fh
open Go Go.Ab Go.Proofs Go.Shelf Go.Px Go.Cv Go.Cx Go.Ff
open Go.Fx (Ty Vl)
attribute [local instance 5000] tabsB
def K0:Env:=((((((Env.nil.add 110 (Go.Ab.sp2 Go.Cx.s154)).add 171 (Go.Ab.sp2 Go.Ff.s129)).add 170 (sp1 Px.s31)).add 125 (sp2 Px.s22)).add 172 (sp1 Px.s46)).add 84 (sp2 Px.s87)).add 173 (sp1 Cx.s24)
def nmU(v:Vl)(t:Ty):Num×Bool:=
 if t.k=1∨t.k=2 then(scZ v.n t.q,true)
 else if t.k=5∧pN (bz t.s)=true then(scZ (rdV (bz t.s) (bz v.s)).1 (pQ (bz t.s)),decide ((rdV (bz t.s) (bz v.s)).2=0))
 else if t.k=4 then((false,tlZ (decZ (binG (bz v.s) 0)) 48,0),true)
 else((rdN (bz v.s)).getD num0,(rdN (bz v.s)).isSome)
theorem nuO_ex:∃d:Vl→Ty→Num×Bool,d=nmU:=⟨_,rfl⟩
def nuO:Vl→Ty→Num×Bool:=Classical.choose nuO_ex
theorem jlz:nuO=nmU:=Kn nuO_ex
def c75(v:Vl)(t:Ty):Prop:=t.s.size≤9223372036854775807∧v.s.size≤9223372036854775807∧((t.k=1∨t.k=2)→ -2147483648≤v.n∧v.n≤2147483648∧ -1000≤t.q∧t.q≤1000)∧(t.k=4→jcn (bz v.s)=true∧v.s.size≤64)
instance (v:Vl)(t:Ty):Decidable (c75 v t):=by unfold c75;infer_instance
structure AcIs (s:Y)(i a r:Int):Prop where
 eq:binG ((bz s).drop i.toNat) a=r
theorem jod(n:Int):IsB (decZ n):=fun c hc=>by
 obtain⟨b,_,rfl⟩:=KB.1 hc;have:=b.toNat_lt;omega
theorem ok_K0:ja3 Tryz.prog K0:=jaj (jaj (jaj (jaj (jaj (jaj (jaj jav (Go.Ff.pureB Go.Cx.ok154)) Go.Ff.ok129) (pureB Px.ok31)) (pureB Px.ok22)) (pureB Px.ok46)) (pureB Px.ok87)) (pureB Cx.ok24)
def V75_1:Int×Y×Bool×Y×Int×Int×Int×Int→J:=fun(n,s,g,d,e,a,z,i)=> [.pointer (some ⟨0,0,some 0⟩),.pointer (some ⟨2,0,some 0⟩),.int .u64 a,I z,I i]
def B75_1:Int×Y×Bool×Y×Int×Int×Int×Int→Ya:=fun(n,s,g,d,e,a,z,i)=> [some ⟨[I n,S s],32,true⟩,some ⟨[B g,S d,I e],59,true⟩]
def S75_1:LSpec (Int×Y×Bool×Y×Int×Int×Int×Int) where
 live:=[2,4,11,63,64]
 mid:=[0,2]
 n:=60
 dec vs bs:=match vs,bs with | [.pointer (some ⟨0,0,some 0⟩),.pointer (some ⟨2,0,some 0⟩),.int .u64 a,.int .i64 z,.int .i64 i],[some ⟨[.int .i64 n,.string s],32,true⟩,some ⟨[.bool g,.string d,.int .i64 e],59,true⟩]=>some (n,s,g,d,e,a,z,i) | _,_=>none
 pre:=fun(n,s,g,d,e,a,z,i)=>jcn (bz s) &&decide (s.size≤64∧z=s.size∧0≤i∧i≤s.size∧0≤a∧a<2^i.toNat)
 fin:=fun(n,s,g,d,e,a,z,i) Z=>∀r:Int,AcIs s i a r→Z (.exit 1) [.pointer (some ⟨0,0,some 0⟩),.pointer (some ⟨2,0,some 0⟩),.int .u64 r,I z,I z] [some ⟨[I n,S s],32,true⟩,some ⟨[B g,S d,I e],59,true⟩]
theorem r75_1(n:Int)(s:Y)(g:Bool)(d:Y)(e:Int)(a:Int)(z:Int)(i:Int)(jk:Tmps)(R:Exit→J→Ya→Prop):(jbn Tryz.prog K0 noL Tryz.f116.ntmps (ja2 Tryz.f116 1) (tl S75_1.live (V75_1 (n,s,g,d,e,a,z,i)) jk) (ml S75_1.mid (B75_1 (n,s,g,d,e,a,z,i))) S75_1.n fun e t' m' _=>R e (List.map t' S75_1.live) (List.map m' S75_1.mid))=(bif bw i z then bm (bk s i) R [lw s n,gu g d e] (ar 0::ar 2::oh s 2 a i::ct z i)else R (.exit 1) (ar 0::ar 2:: .int .u64 a::bp z i) [lw s n,gu g d e]):=by kernel_rfl
theorem l75_1:LOKf Tryz.prog (oneL 1 S75_1.h) Tryz.f116:=by
 refine jbb (h:=S75_1.h) (by kernel_rfl) (ja6 ok_K0 hmix (by kernel_rfl) (ja0 _) S75_1 V75_1 B75_1 (fun(n,s,g,d,e,a,z,i)=>(s.size-i).toNat) ?_ ?_ ?_)
 ·intro vs bs s h;simp only[S75_1]at h;split at h
  all_goals first | (cases h;exact⟨rfl,rfl⟩) | cases h | (split at h<;>first | (rename_i hq;cases h;have hq:=jah hq;subst hq;exact⟨rfl,rfl⟩) | (rename_i hq;cases h;simp only[cnd,jaf,Nat.beq_eq]at hq;obtain⟨rfl,rfl,rfl⟩:=hq;exact⟨rfl,rfl⟩) | cases h)
 ·exact fun _ _ _ h=>h
 ·intro⟨n,s,g,d,e,a,z,i⟩ jk Z hp hf;rw[r75_1];delta ak gu lw bp ar bm ax az ct au oh al bk bw;simp only[S75_1]at hp hf;simp only[jaf,jae]at hp;obtain⟨hb,h1,rfl,h3,h4,h5,h6⟩:=hp;apply Ka<;>intro h
  ·have h:=jab h;have hc:=jix (s:=s) (i:=i.toNat) (by omega) hb;have hd:=jca (s:=s) h3 (by omega);have h64:(2:Int) ^i.toNat≤2^63:=by exact_mod_cast Nat.pow_le_pow_right (n:=2) (by omega) (show i.toNat≤63 by omega)
   have e63:(2:Int) ^63=9223372036854775808:=rfl;have hi:(i+1).toNat=i.toNat+1:=by omega
   rw[w8 (n:=jai s i.toNat-48) (by omega),wu64 (n:=2*a) (by omega),wu64 (n:=jai s i.toNat-48) (by omega),wu64 (by omega),w64 (n:=i+1) (by omega)];refine c_t (jaa (by omega)) ?_;refine⟨(n,s,g,d,e,2*a+(jai s i.toNat-48),s.size,i+1),rfl,rfl,?_,by simp only;omega,?_⟩
   ·simp only[S75_1,jaf,jae];refine⟨hb,h1,trivial,by omega,by omega,by omega,?_⟩;rw[hi,Int.pow_succ];omega
   ·simp only[S75_1];refine fun r hr=>hf r ⟨?_⟩
    rw[hd,binG];exact hr.eq
  ·have h:=jac h;obtain rfl:i=s.size:=by omega
   refine hf a ⟨?_⟩;rw[jck (by omega),binG]
def s75u(v:Vl)(t:Ty):Bool×Value:=(decide (c75 v t),.tuple ⟨[Cx.numV (nuO v t).1,B (nuO v t).2]⟩)
def qh(e:Bool)(d:Cv.Num)(a:Fx.Ty)(b:Fx.Vl)(c:Value→Prop):Prop:=nh (jj (-2147483648) (kf (Fx.Ty.s a) (Fx.Vl.s b)) 2147483648 (-1000) (pQ (bz (Fx.Ty.s a))) 1000) (Fx.Ty.s a) (Fx.Vl.s b) (c (aq [.bool e] (cu (jw (Prod.fst d) (Prod.snd d)))))
theorem v75u(v:Vl)(t:Ty)(R:Value→Prop):jax Tryz.prog K0 (oneL 1 S75_1.h) Tryz.f116 [Enc.enc v,Enc.enc t] (fun _=>none) 0 (fun v _ _=>R v)=(bif bv (dl t 5) (cw (Fx.Ty.s t) &&true) true then bq (dl t 1) true (dl t 1 || dl t 2) (br (jj (-2147483648) (Fx.Vl.n v) 2147483648 (-1000) (Fx.Ty.q t) 1000) (aq fv (cu (jw (Prod.fst (Ff.scZ (Fx.Vl.n v) (Fx.Ty.q t))) (Prod.snd (Ff.scZ (Fx.Vl.n v) (Fx.Ty.q t)))))) R) (bif dl t 5&&pN (bz (Fx.Ty.s t))then qh ((rdV (bz (Fx.Ty.s t)) (j5 v)).snd==0) (Ff.scZ (kf (Fx.Ty.s t) (Fx.Vl.s v)) (pQ (bz (Fx.Ty.s t)))) t v R else bif dl t 4 then bif Fh.S75_1.pre (Fx.Vl.n v,(Fx.Vl.s v,(false,(ay,((0:Int),((0:Int),(fk (Fx.Vl.s v),(0:Int))))))))then∀a:Int,Fh.AcIs (Fx.Vl.s v) 0 0 a→Tmps→br (cl a 18446744073709551616&&jm2 10) (aq fv (cu [B false,S (kj (sz (decZ a))),ak 0])) R else False else br (cw (Fx.Vl.s v)) (aq [B (rdN (j5 v)).isSome] (cu (jw ((rdN (j5 v)).getD num0).fst ((rdN (j5 v)).getD num0).snd))) R)else False):=by kernel_rfl
theorem ok75u:jan Tryz.prog 116 (sp2 s75u):=by
 refine jcz ok_K0 hmix (.m Tryz.func116) l75_1 jag fun v t hc=> ?_
 rw[ja4,v75u];delta av bq br aq cu jw j5 cw ak jy kj fv cl fk ay dl gv im nh jj kf qh bv;have hc:(c75 v t):=jab hc
 try dsimp only[s75u]
 obtain⟨h1,h2,h3,h4⟩:=hc;have hv:nuO v t=nmU v t:=by rw[jlz]
 refine c_t (by simp;omega) (c_t (by simp) (Ka (fun q=> ?_) (fun q=> ?_)))
 ·have q:t.k=1∨t.k=2:=by simpa using q
  refine c_t (jaa (h3 q)) ?_;rw[hv,nmU,Kd q]
 have q:¬(t.k=1∨t.k=2):=by simpa using q
 apply Ka<;>intro q5
 ·have q5:t.k=5∧pN (bz t.s)=true:=by simpa using q5
  have hr:=jk3 (t:=v.s) q5.2;obtain⟨_,_,p1,p2⟩:=jdv q5.2;have:=(jdv q5.2).2.1;refine c_t (jaa ⟨h1,h2⟩) (c_t (jaa h1) (c_t (jaa (by omega)) ?_));rw[hv,nmU,Kc q,Kd q5];rfl
 have q5:¬(t.k=5∧pN (bz t.s)=true):=by simpa using q5
 apply Ka<;>intro q4
 ·have q4:t.k=4:=by simpa using q4
  obtain⟨hb,hs⟩:=h4 q4;refine c_t ?_ fun r hr _=> ?_
  ·simp only[S75_1,jaf,jae];exact⟨hb,hs,trivial,by omega,by omega,by omega,by decide⟩
  have hr:=hr.eq;rw[Int.toNat_zero,List.drop_zero]at hr;obtain⟨l1,l2⟩:=jiy (bz v.s) 0 hb (by omega);have h64:(2:Int) ^ (bz v.s).length≤2^64:=by exact_mod_cast Nat.pow_le_pow_right (n:=2) (by omega) (show(bz v.s).length≤64 by rw[jak];omega)
  have e64:(2:Int) ^64=18446744073709551616:=rfl;refine c_t (by rw[jaa (by omega)];rfl) ?_;rw[hv,nmU,Kc q,Kc q5,Kd q4,jc7 (jod _),hr];rfl
 ·have q4:¬t.k=4:=by simpa using q4
  refine c_t (jaa h2) ?_;rw[hv,nmU,Kc q,Kc q5,Kc q4]
end Go.Fh
end
noncomputable section
set_option maxHeartbeats 3200000
namespace Go.Cx
open Go Go.Ab Go.Proofs Go.Shelf Go.Px Go.Cv
open Go.Fx (Ty Vl check jbi most base pw bnd Fit fits tv vv tup V0 T0 jbw jbx jbp jcf str0)
structure Sh where
 s:Y
 p:Y
instance:Enc Sh where
 enc x:= .agg ⟨[.string x.s,.string x.p]⟩
 dec | .agg ⟨[.string s,.string p]⟩=>some ⟨s,p⟩ | _=>none
 dec_some:=by
  intro v a h;split at h
  ·cases h;rfl
  ·cases h
 plain_enc _:=rfl
instance tabsT5:Tabs:=tabs
def P3:Env:=Env.nil
theorem ok_P3:ja3 Tryz.prog P3:=jav
def s323(x:Sh):Bool×Value:=(true,S x.s)
theorem v323(x:Sh)(R:Value→Prop):jax Tryz.prog P3 noL Tryz.f341 [Enc.enc x] (fun _=>none) 0 (fun v _ _=>R v)=(R (S (Sh.s x))):=by kernel_rfl
theorem ok323:jan Tryz.prog 341 (sp1 s323):=by
 refine jb6 ok_P3 hmix (.m Tryz.func341) jal jag fun x hc=> ?_
 rw[ja4,v323]
 try dsimp only[s323]
def P4:Env:=P3.add 170 (sp1 Px.s31)
theorem fn97':Fn1 Tryz.prog 158 Tryz.f158:= .m Tryz.func158
def P5:Env:=(((((P3.add 23 (sp2 z22)).addG 158 (inlQ Tryz.prog P4 noL Tryz.f158)).add 338 (sp1 s321)).add 340 (sp1 s322)).add 341 (sp1 s323)).add 342 (sp1 s324)
theorem ok_P4:ja3 Tryz.prog P4:=jaj ok_P3 Px.ok31
theorem ok_P5:ja3 Tryz.prog P5:=jaj (jaj (jaj (jaj (jau (jaj ok_P3 (z22_eq▸ok22f)) (jbh ok_P4 hmix fn97' jal)) ok321) ok322) ok323) ok324
def s32f(v:Vl)(t:Ty):Bool×Value:=(decide (t.s.size≤9223372036854775807∧v.s.size≤9223372036854775807),txV v t)
def qi(b f:Bool)(a:Fx.Ty)(h i j:Prop)(d e g:Value)(c:Value→Prop):Prop:=bif dl a 1 then br b (aq [e] d) c else bif dl a 2 then br f (aq [e] g) c else bif dl a 4 then h else bif dl a 5 then gv (pN (bz (Fx.Ty.s a))) (Fx.Ty.s a) i j else j
theorem v32f(v:Vl)(t:Ty)(R:Value→Prop):jax Tryz.prog P5 noL Tryz.f109 [Enc.enc v,Enc.enc t] (fun _=>none) 0 (fun v _ _=>R v)=(Ff.mtq (dl t 6) t v (ftT v t) (qi (mw t (Fx.Vl.n v)) (mw t (Fx.Vl.n v)) t (R (aq [ak 0] (S (Fx.Vl.s v)))) (R (aq [ak 0] (S (Fx.Vl.s v)))) (R (aq [ak 0] (S (Fx.Vl.s v)))) (S (szO (txtZ (Fx.Vl.n v) t))) (ak 0) (S (szO (txtZ (Fx.Vl.n v) t))) R) (aq [I (ftT v t)] cv) (aq [ak 5] cv) R):=by kernel_rfl
theorem ok32f:jan Tryz.prog 109 (sp2 s32f):=by
 refine jcz ok_P5 hmix (.m Tryz.func109) jal jag fun v t hc=> ?_
 rw[ja4,v32f];delta im Ff.mtq aq ay cv ak av cw gv dl br qi mw;have hc:(t.s.size≤9223372036854775807∧v.s.size≤9223372036854775807):=jab hc
 try dsimp only[s32f]
 have hn:fit4 v t=0→jbi t→ -2147483648≤v.n∧v.n≤2147483648:=fun h hv=>jlf h hv
 refine c_t (jaa hc) ?_;simp only[jl8];unfold txV txE;apply Ka<;>intro h
 ·have h:fit4 v t≠0:=by simpa using h
  simp only[Kd h]
 have h:fit4 v t=0:=by simpa using h
 have h':¬fit4 v t≠0:=fun q=>q h
 have hv:(t.k=1∨t.k=2)→jbi t:=fun hk=>by
  have hc4:chk4 t=0:=by
   unfold fit4 at h;split at h
   ·exact h
   ·rename_i q;exact Decidable.not_not.1 q
  unfold chk4 at hc4;split at hc4
  ·assumption
  ·rw[Kc (by omega),Kc (by omega),Kc (by omega),Kc (by omega)]at hc4;cases hc4
 simp only[Kc h'];apply Ka<;>intro h6
 ·have h6:t.k=6:=by simpa using h6
  simp only[Kd h6];rfl
 have h6:¬t.k=6:=by simpa using h6
 simp only[Kc h6,txS];refine Ka (fun k1=> ?_) (fun k1=>Ka (fun k2=> ?_) (fun k2=> ?_))
 ·have V:=hv (.inl (by simpa using k1));refine c_t (jaa ⟨V,hn h V⟩) ?_;rw[Kd V];rfl
 ·have V:=hv (.inr (by simpa using k2));refine c_t (jaa ⟨V,hn h V⟩) ?_;rw[Kd V];rfl
 have nV:¬jbi t:=fun V=>by
  have:=V.1;simp only[beq_eq_false_iff_ne]at k1 k2;omega
 rw[Kc nV];refine Ka (fun _=>rfl) (fun _=>Ka (fun _=>c_t (jaa hc.1) (Ka (fun _=>rfl) (fun _=>rfl))) (fun _=>rfl))
instance tabsU6:Tabs:=tabs
def jdk(v:Vl)(t:Ty):Fu:=if t.k=1∨t.k=2 then .w v.n t else if t.k=4 then .b v.s else if t.k=5∧pN (bz t.s)=true then .p v.s t.s else .c v.s
open Classical in
theorem cuK_ex:∃d:Bool→Fu→Ty→Bool,∀b f t,d b f t=true↔cuA f t∧(cuV f t).2.2.2.isNone=b:=⟨fun b f t=>decide (cuA f t∧(cuV f t).2.2.2.isNone=b),fun b f t=>by simp⟩
def cuK:Bool→Fu→Ty→Bool:=Classical.choose cuK_ex
theorem jiv{b:Bool}{f:Fu}{t:Ty}:cuK b f t=true↔cuA f t∧(cuV f t).2.2.2.isNone=b:=Kn cuK_ex b f t
theorem cuO_ex:∃d:Fu→Ty→Int×Y×Int×Y,∀f t,d f t=((cuV f t).1,(cuV f t).2.1,(cuV f t).2.2.1,(cuV f t).2.2.2.getD ⟨#[]⟩):=⟨_,fun _ _=>rfl⟩
def cuO:Fu→Ty→Int×Y×Int×Y:=Classical.choose cuO_ex
theorem jne(f:Fu)(t:Ty):cuO f t=((cuV f t).1,(cuV f t).2.1,(cuV f t).2.2.1,(cuV f t).2.2.2.getD ⟨#[]⟩):=Kn cuO_ex f t
def s97w(v:Vl)(t:Ty):Bool×Value:=(decide (t.k=1∨t.k=2),.iface 241 (.agg ⟨[.int .i64 v.n,.int .i64 t.k,.int .i64 t.p,.int .i64 t.q,.bool t.v,.string t.s]⟩))
def s97b(v:Vl)(t:Ty):Bool×Value:=(decide (t.k=4),.iface 242 (.string v.s))
def s97p(v:Vl)(t:Ty):Bool×Value:=(decide (t.k=5∧pN (bz t.s)=true∧t.s.size≤9223372036854775807),.iface 244 (.agg ⟨[.string v.s,.string t.s]⟩))
def s97c(v:Vl)(t:Ty):Bool×Value:=(decide (¬(t.k=1∨t.k=2)∧t.k≠4∧(t.k=5→ ¬pN (bz t.s)=true)∧t.s.size≤9223372036854775807),.iface 245 (.string v.s))
def s99y:Ab.Spec:=fun args _=>match args with
 | [a,.agg ⟨[.int .i64 k,.int .i64 p,.int .i64 q,.bool w,.string u]⟩]=>match decU a with
  | some f=>some (cuK true f ⟨k,p,q,w,u⟩,tp3 (cuO f ⟨k,p,q,w,u⟩).1 (cuO f ⟨k,p,q,w,u⟩).2.1 (cuO f ⟨k,p,q,w,u⟩).2.2.1 .nilIface)
  | none=>none
 | _=>none
def s99n:Ab.Spec:=fun args _=>match args with
 | [a,.agg ⟨[.int .i64 k,.int .i64 p,.int .i64 q,.bool w,.string u]⟩]=>match decU a with
  | some f=>some (cuK false f ⟨k,p,q,w,u⟩,tp3 (cuO f ⟨k,p,q,w,u⟩).1 (cuO f ⟨k,p,q,w,u⟩).2.1 (cuO f ⟨k,p,q,w,u⟩).2.2.1 (er (cuO f ⟨k,p,q,w,u⟩).2.2.2))
  | none=>none
 | _=>none
def zrV(t:Ty):Y:=if t.k=4 then szO (List.replicate t.p.toNat 48)else if t.k=5 then sz (zeS (bz t.s))else⟨#[]⟩
theorem zrO_ex:∃d:Ty→Y,d=zrV:=⟨_,rfl⟩
def zrO:Ty→Y:=Classical.choose zrO_ex
theorem zrO_eq:zrO=zrV:=Kn zrO_ex
def s101u(t:Ty):Bool×Value:=(decide (t.s.size≤9223372036854775807∧(t.k=4→0≤t.p∧t.p≤1000)),.agg ⟨[I 0,S (zrO t)]⟩)
def Uz:Env:=K9p.add 219 (sp1 Px.s54)
def Uv:Env:=(((Env.nil.add 23 (sp2 z22)).add 72 (sp1 z20)).add 169 (sp1 s101u)).addG 168 h100
def Uy(s97:Vl→Ty→Bool×Value):Env:=(Uv.add 158 (sp2 s97)).add 167 s99y
def Un(s97:Vl→Ty→Bool×Value):Env:=(Uv.add 158 (sp2 s97)).add 167 s99n
def v97:Env:=Env.nil.add 170 (sp1 Px.s31)
theorem u97(v:Vl)(t:Ty)(R:Value→Prop):jax Tryz.prog v97 noL Tryz.f158 [Enc.enc v,Enc.enc t] (fun _=>none) 0 (fun v _ _=>R v)=(ol t 4 5 (R (s97b v t).snd) (gv (pN (bz (Fx.Ty.s t))) (Fx.Ty.s t) (R (s97p v t).snd) (R (s97c v t).snd)) (R (s97c v t).snd) (s97w v t).snd R):=by kernel_rfl
theorem u101(t:Ty)(R:Value→Prop):jax Tryz.prog Uz noL Tryz.f169 [Enc.enc t] (fun _=>none) 0 (fun v _ _=>R v)=(bif dl t 4 then bif ig f9 (Fx.Ty.p t) 1000 1000 then∀a:Y,j4 (Fx.Ty.p t) 48=a→R (cu [Px.I 0,S a])else False else bif dl t 5 then br (cw (Fx.Ty.s t)) (cu [Px.I 0,S (sz (zeS (bz (Fx.Ty.s t))))]) R else R (cu [Px.I 0,S ay])):=by kernel_rfl
def hd34(R:Value→Prop)(v:Vl)(f t:Ty)(c:Bool)(X:Prop):Prop:=
 bif decide (ByteArray.size f.s≤9223372036854775807∧ByteArray.size v.s≤9223372036854775807)then bif ftT v f !=0 then R (tp3 0 ⟨#[]⟩ 0 (I (ftT v f)))else
 bif decide (ByteArray.size t.s≤9223372036854775807)then bif ckT t !=0 then R (tp3 0 ⟨#[]⟩ 0 (I (ckT t)))else
 bif f.k==6 || true then bif f.k==6 || t.k==6 then bif f.k !=t.k then R (tp3 0 ⟨#[]⟩ 0 (I 5))else R (tp3 v.n v.s 0 (I 0))else bif c then X else False else False else False else False
def tl34(R:Value→Prop)(g:Fu)(t:Ty):Prop:=bif cuK true g t then R (tp3 (cuO g t).1 (cuO g t).2.1 (cuO g t).2.2.1 (I 0))else False
def tn34(R:Value→Prop)(g:Fu)(t:Ty):Prop:=bif cuK false g t then bif decide (t.s.size≤9223372036854775807∧(t.k=4→0≤t.p∧t.p≤1000))then R (tp3 0 (zrO t) 4 (I 0))else False else False
theorem u34yw(v:Vl)(f t:Ty)(R:Value→Prop):jax Tryz.prog (Uy s97w) noL Tryz.f115 [Enc.enc v,Enc.enc f,Enc.enc t] (fun _=>none) 0 (fun v _ _=>R v)=hd34 R v f t (s97w v f).1 (tl34 R (.w v.n f) t):=by kernel_rfl
theorem u34yb(v:Vl)(f t:Ty)(R:Value→Prop):jax Tryz.prog (Uy s97b) noL Tryz.f115 [Enc.enc v,Enc.enc f,Enc.enc t] (fun _=>none) 0 (fun v _ _=>R v)=hd34 R v f t (s97b v f).1 (tl34 R (.b v.s) t):=by kernel_rfl
theorem u34yp(v:Vl)(f t:Ty)(R:Value→Prop):jax Tryz.prog (Uy s97p) noL Tryz.f115 [Enc.enc v,Enc.enc f,Enc.enc t] (fun _=>none) 0 (fun v _ _=>R v)=hd34 R v f t (s97p v f).1 (tl34 R (.p v.s f.s) t):=by kernel_rfl
theorem u34yc(v:Vl)(f t:Ty)(R:Value→Prop):jax Tryz.prog (Uy s97c) noL Tryz.f115 [Enc.enc v,Enc.enc f,Enc.enc t] (fun _=>none) 0 (fun v _ _=>R v)=hd34 R v f t (s97c v f).1 (tl34 R (.c v.s) t):=by kernel_rfl
theorem u34nw(v:Vl)(f t:Ty)(R:Value→Prop):jax Tryz.prog (Un s97w) noL Tryz.f115 [Enc.enc v,Enc.enc f,Enc.enc t] (fun _=>none) 0 (fun v _ _=>R v)=hd34 R v f t (s97w v f).1 (tn34 R (.w v.n f) t):=by kernel_rfl
theorem u34nb(v:Vl)(f t:Ty)(R:Value→Prop):jax Tryz.prog (Un s97b) noL Tryz.f115 [Enc.enc v,Enc.enc f,Enc.enc t] (fun _=>none) 0 (fun v _ _=>R v)=hd34 R v f t (s97b v f).1 (tn34 R (.b v.s) t):=by kernel_rfl
theorem u34np(v:Vl)(f t:Ty)(R:Value→Prop):jax Tryz.prog (Un s97p) noL Tryz.f115 [Enc.enc v,Enc.enc f,Enc.enc t] (fun _=>none) 0 (fun v _ _=>R v)=hd34 R v f t (s97p v f).1 (tn34 R (.p v.s f.s) t):=by kernel_rfl
theorem u34nc(v:Vl)(f t:Ty)(R:Value→Prop):jax Tryz.prog (Un s97c) noL Tryz.f115 [Enc.enc v,Enc.enc f,Enc.enc t] (fun _=>none) 0 (fun v _ _=>R v)=hd34 R v f t (s97c v f).1 (tn34 R (.c v.s) t):=by kernel_rfl
theorem ok_v97:ja3 Tryz.prog v97:=jaj jav Px.ok31
theorem ok_Uz:ja3 Tryz.prog Uz:=jaj ok_K9p Px.ok54
theorem ok97w:jan Tryz.prog 158 (sp2 s97w):=by
 refine jcz ok_v97 hmix fn97 jal jag fun v t hc=> ?_
 have hc:t.k=1∨t.k=2:=jab hc;rw[ja4,u97];delta av dl ol cw gv;exact Ka (fun _=>rfl) fun h1=>Ka (fun _=>rfl) fun h2=>by simp at h1 h2;omega
theorem ok97b:jan Tryz.prog 158 (sp2 s97b):=by
 refine jcz ok_v97 hmix fn97 jal jag fun v t hc=> ?_
 have hc:t.k=4:=jab hc;rw[ja4,u97];delta av dl ol cw gv;rw[hc];rfl
theorem ok97p:jan Tryz.prog 158 (sp2 s97p):=by
 refine jcz ok_v97 hmix fn97 jal jag fun v t hc=> ?_
 have hc:t.k=5∧pN (bz t.s)=true∧t.s.size≤9223372036854775807:=jab hc;rw[ja4,u97];delta av dl ol cw gv;rw[hc.1,hc.2.1];refine Ka (fun h=>absurd h (by decide)) fun _=>Ka (fun h=>absurd h (by decide)) fun _=>Ka (fun h=>absurd h (by decide)) fun _=>c_t rfl (c_t (jaa hc.2.2) rfl)
theorem ok97c:jan Tryz.prog 158 (sp2 s97c):=by
 refine jcz ok_v97 hmix fn97 jal jag fun v t hc=> ?_
 have hc:¬(t.k=1∨t.k=2)∧t.k≠4∧(t.k=5→ ¬pN (bz t.s)=true)∧t.s.size≤9223372036854775807:=jab hc;rw[ja4,u97];delta av dl ol cw gv;refine Ka (fun h=> ?_) fun h1=>Ka (fun h=> ?_) fun h2=>Ka (fun h=> ?_) fun h4=>Ka (fun h=> ?_) fun h5=>rfl
 ·exact absurd (.inl (by simpa using h)) hc.1
 ·exact absurd (.inr (by simpa using h)) hc.1
 ·exact absurd (by simpa using h) hc.2.1
 ·refine c_t (jaa hc.2.2.2) ?_;have:=hc.2.2.1 (by simpa using h);exact Ka (fun h=>absurd h this) fun _=>rfl
theorem s99_y{args:J}{bs:Ya}{v:Value}(h:s99y args bs=some (true,v)):s99u args bs=some (true,v):=by
 unfold s99y at h;unfold s99u;split at h
 case h_2=>cases h
 split at h
 case h_2=>cases h
 rename_i f hf
 try simp only[hf]
 simp only[Kb,Ke]at h;obtain⟨h1,rfl⟩:=h;obtain⟨h2,h3⟩:=jiv.1 h1;rw[jlm.2 h2,jne];refine congrArg some (congrArg (Prod.mk true) ?_);show tp3 _ _ _ _=tp3 _ _ _ _;cases e:(cuV f ⟨_,_,_,_,_⟩).2.2.2 with
 | none=>rfl
 | some _=>rw[e]at h3;cases h3
theorem s99_n{args:J}{bs:Ya}{v:Value}(h:s99n args bs=some (true,v)):s99u args bs=some (true,v):=by
 unfold s99n at h;unfold s99u;split at h
 case h_2=>cases h
 split at h
 case h_2=>cases h
 rename_i f hf
 try simp only[hf]
 simp only[Kb,Ke]at h;obtain⟨h1,rfl⟩:=h;obtain⟨h2,h3⟩:=jiv.1 h1;rw[jlm.2 h2,jne];refine congrArg some (congrArg (Prod.mk true) ?_);show tp3 _ _ _ _=tp3 _ _ _ _;cases e:(cuV f ⟨_,_,_,_,_⟩).2.2.2 with
 | none=>rw[e]at h3;cases h3
 | some _=>rfl
theorem jg0{ι:Type}{P:Program}{f:FuncId}{s:Ab.Spec}{T:ι→Ab.Spec}(i0:ι)(hT:∀i,jan P f (T i))(h:∀args bs v,s args bs=some (true,v)→ ∃i,T i args bs=some (true,v)):jan P f s:=
 ⟨(hT i0).1, fun args v N w0 m ι w hrel hs hv => by
  obtain⟨i,hi⟩:=h _ _ _ hs;exact(hT i).2 args v N w0 m ι w hrel hi hv⟩
theorem ok99y:jan Tryz.prog 167 s99y:=jg0 () (fun _=>ok99u) fun _ _ _ h=>⟨(),s99_y h⟩
theorem ok99n:jan Tryz.prog 167 s99n:=jg0 () (fun _=>ok99u) fun _ _ _ h=>⟨(),s99_n h⟩
theorem ok101u:jan Tryz.prog 169 (sp1 s101u):=by
 refine jb6 ok_Uz hmix fn101 jal jag fun t hc=> ?_
 have hc:t.s.size≤9223372036854775807∧(t.k=4→0≤t.p∧t.p≤1000):=jab hc;rw[ja4,u101];delta cu ay br cw dl j4 ig f9;dsimp only[s101u];rw[zrO_eq];unfold zrV;refine Ka (fun h4=> ?_) fun h4=>Ka (fun h5=> ?_) fun h5=> ?_
 ·have h4:t.k=4:=by simpa using h4
  refine c_t (jaa ⟨(hc.2 h4).1,(hc.2 h4).2,by decide⟩) fun s' e=> ?_
  rw[←e,show bz (ByteArray.mk #[48])=[48]from rfl,jda,Kd h4]
 ·have h5:t.k=5:=by simpa using h5
  rw[Kc (by omega),Kd h5];exact c_t (jaa hc.1) rfl
 ·have h4:t.k≠4:=by simpa using h4
  have h5:t.k≠5:=by simpa using h5
  rw[Kc h4,Kc h5]
theorem ok_Uv:ja3 Tryz.prog Uv:=jau (jaj (jaj (jaj jav (z22_eq▸ok22f)) (z20_eq▸ok20f)) ok101u) gen100
def toV(v:Vl)(f t:Ty):Int×Y×Int×Int:=
 if fit4 v f≠0 then(0,⟨#[]⟩,0,fit4 v f)else if chk4 t≠0 then(0,⟨#[]⟩,0,chk4 t)
 else if f.k=6∨t.k=6 then(if f.k≠t.k then(0,⟨#[]⟩,0,5)else(v.n,v.s,0,0))
 else if(cuV (jdk v f) t).2.2.2=none then((cuV (jdk v f) t).1,(cuV (jdk v f) t).2.1,(cuV (jdk v f) t).2.2.1,0)else(0,zrV t,4,0)
def toC(v:Vl)(f t:Ty):Prop:=t.s.size≤9223372036854775807∧f.s.size≤9223372036854775807∧v.s.size≤9223372036854775807
instance (v:Vl)(f t:Ty):Decidable (toC v f t):=by unfold toC;infer_instance
abbrev toR(v:Vl)(f t:Ty):Value:=tp3 (toV v f t).1 (toV v f t).2.1 (toV v f t).2.2.1 (I (toV v f t).2.2.2)
theorem hd_ok{v:Vl}{f t:Ty}{c:Bool}{X:Prop}(h:toC v f t)(hX:fit4 v f=0→chk4 t=0→f.k≠6→t.k≠6→c=true∧X):hd34 (fun x=>x=toR v f t) v f t c X:=by
 obtain⟨h1,h2,h3⟩:=h;unfold hd34;rw[jl8,ckT_eq];refine c_t (jaa ⟨h2,h3⟩) (Ka (fun e=> ?_) (fun e=>c_t (jaa h1) (Ka (fun e'=> ?_) (fun e'=>c_t (Bool.or_true _) (Ka (fun e6=>Ka (fun g=> ?_) (fun g=> ?_)) (fun e6=> ?_))))))
 ·have e:fit4 v f≠0:=by simpa using e
  unfold toR toV;rw[Kd e]
 ·have e:¬fit4 v f≠0:=by simpa using e
  have e':chk4 t≠0:=by simpa using e'
  unfold toR toV;rw[Kc e,Kd e']
 ·have e:¬fit4 v f≠0:=by simpa using e
  have e':¬chk4 t≠0:=by simpa using e'
  unfold toR toV;rw[Kc e,Kc e',Kd (by simpa using e6),Kd (by simpa using g)]
 ·have e:¬fit4 v f≠0:=by simpa using e
  have e':¬chk4 t≠0:=by simpa using e'
  unfold toR toV;rw[Kc e,Kc e',Kd (by simpa using e6),Kc (by simpa using g)]
 ·have e6:f.k≠6∧t.k≠6:=by simpa using e6
  obtain⟨a,b⟩:=hX (by simpa using e) (by simpa using e') e6.1 e6.2;exact c_t a b
def earl(v:Vl)(f t:Ty):Prop:=fit4 v f≠0∨chk4 t≠0∨f.k=6∨t.k=6
instance (v:Vl)(f t:Ty):Decidable (earl v f t):=by unfold earl;infer_instance
def s34i(c:Vl→Ty→Bool×Value)(b:Bool)(v:Vl)(f t:Ty):Bool×Value:=(decide (toC v f t) && (decide (earl v f t) || (c v f).1&&cuK b (jdk v f) t),toR v f t)
theorem i_c{c:Vl→Ty→Bool×Value}{b:Bool}{v:Vl}{f t:Ty}(h:(s34i c b v f t).1=true):toC v f t∧(fit4 v f=0→chk4 t=0→f.k≠6→t.k≠6→(c v f).1=true∧cuK b (jdk v f) t=true):=by
 have h:(decide (toC v f t) && (decide (earl v f t) || (c v f).1&&cuK b (jdk v f) t))=true:=h;rw[jaf,Ko,jaf]at h;refine⟨jab h.1,fun h1 h2 h3 h4=>h.2.resolve_left fun e=> ?_⟩;rcases jab e with e | e | e | e
 ·exact e h1
 ·exact e h2
 ·exact h3 e
 ·exact h4 e
theorem tl_y{v:Vl}{f t:Ty}{g:Fu}(hg:jdk v f=g)(h1:fit4 v f=0)(h2:chk4 t=0)(h3:f.k≠6)(h4:t.k≠6)(hk:cuK true (jdk v f) t=true):tl34 (fun x=>x=toR v f t) g t:=by
 subst hg;refine c_t hk ?_;have hn:(cuV (jdk v f) t).2.2.2=none:=by simpa using(jiv.1 hk).2
 rw[jne];unfold toR toV;rw[Kc (by simp[h1]),Kc (by simp[h2]),Kc (by simp[h3,h4]),Kd hn]
theorem tl_n{v:Vl}{f t:Ty}{g:Fu}(hs:t.s.size≤9223372036854775807)(hg:jdk v f=g)(h1:fit4 v f=0)(h2:chk4 t=0)(h3:f.k≠6)(h4:t.k≠6)(hk:cuK false (jdk v f) t=true):tn34 (fun x=>x=toR v f t) g t:=by
 subst hg;refine c_t hk (c_t (jaa ⟨hs,fun q=>p1000 h2 (.inr q)⟩) ?_)
 have hn:¬(cuV (jdk v f) t).2.2.2=none:=by
  have:=(jiv.1 hk).2;intro e;rw[e]at this;cases this
 rw[zrO_eq];unfold toR toV;rw[Kc (by simp[h1]),Kc (by simp[h2]),Kc (by simp[h3,h4]),Kc hn]
theorem fm_w{v:Vl}{f:Ty}(h:(s97w v f).1=true):jdk v f= .w v.n f:=Kd (jab h)
theorem fm_b{v:Vl}{f:Ty}(h:(s97b v f).1=true):jdk v f= .b v.s:=by
 have h:f.k=4:=jab h;unfold jdk;rw[Kc (by omega),Kd h]
theorem fm_p{v:Vl}{f:Ty}(h:(s97p v f).1=true):jdk v f= .p v.s f.s:=by
 have h:f.k=5∧pN (bz f.s)=true∧f.s.size≤9223372036854775807:=jab h;unfold jdk;rw[Kc (by omega),Kc (by omega),Kd ⟨h.1,h.2.1⟩]
theorem fm_c{v:Vl}{f:Ty}(h:(s97c v f).1=true):jdk v f= .c v.s:=by
 have h:¬(f.k=1∨f.k=2)∧f.k≠4∧(f.k=5→ ¬pN (bz f.s)=true)∧f.s.size≤9223372036854775807:=jab h;unfold jdk;rw[Kc h.1,Kc h.2.1,Kc fun q=>h.2.2.1 q.1 q.2]
theorem ok_Uy{c:Vl→Ty→Bool×Value}(h:jan Tryz.prog 158 (sp2 c)):ja3 Tryz.prog (Uy c):=jaj (jaj ok_Uv h) ok99y
theorem ok_Un{c:Vl→Ty→Bool×Value}(h:jan Tryz.prog 158 (sp2 c)):ja3 Tryz.prog (Un c):=jaj (jaj ok_Uv h) ok99n
theorem jlr{c:Vl→Ty→Bool×Value}{g:Vl→Ty→Fu}(h:jan Tryz.prog 158 (sp2 c))(hg:∀v f,(c v f).1=true→jdk v f=g v f)
  (hu:∀(v:Vl)(f t:Ty)(R:Value→Prop),jax Tryz.prog (Uy c) noL Tryz.f115 [Enc.enc v,Enc.enc f,Enc.enc t] (fun _=>none) 0 (fun v _ _=>R v)=hd34 R v f t (c v f).1 (tl34 R (g v f) t)):jan Tryz.prog 115 (sp3 (s34i c true)):=by
 refine jh7 (ok_Uy h) hmix fn34 jal jag fun v f t hc=> ?_
 obtain⟨h1,h2⟩:=i_c hc;rw[ja4,hu];exact hd_ok h1 fun a b d e=>⟨(h2 a b d e).1,tl_y (hg v f (h2 a b d e).1) a b d e (h2 a b d e).2⟩
theorem jl2{c:Vl→Ty→Bool×Value}{g:Vl→Ty→Fu}(h:jan Tryz.prog 158 (sp2 c))(hg:∀v f,(c v f).1=true→jdk v f=g v f)
  (hu:∀(v:Vl)(f t:Ty)(R:Value→Prop),jax Tryz.prog (Un c) noL Tryz.f115 [Enc.enc v,Enc.enc f,Enc.enc t] (fun _=>none) 0 (fun v _ _=>R v)=hd34 R v f t (c v f).1 (tn34 R (g v f) t)):jan Tryz.prog 115 (sp3 (s34i c false)):=by
 refine jh7 (ok_Un h) hmix fn34 jal jag fun v f t hc=> ?_
 obtain⟨h1,h2⟩:=i_c hc;rw[ja4,hu];exact hd_ok h1 fun a b d e=>⟨(h2 a b d e).1,tl_n h1.1 (hg v f (h2 a b d e).1) a b d e (h2 a b d e).2⟩
def cF:Fin 4→Vl→Ty→Bool×Value
 | 0=>s97w
 | 1=>s97b
 | 2=>s97p
 | 3=>s97c
theorem ok34y:∀i,jan Tryz.prog 115 (sp3 (s34i (cF i) true))
 | 0=>jlr ok97w (fun _ _=>fm_w) u34yw
 | 1=>jlr ok97b (fun _ _=>fm_b) u34yb
 | 2=>jlr ok97p (fun _ _=>fm_p) u34yp
 | 3=>jlr ok97c (fun _ _=>fm_c) u34yc
theorem ok34n:∀i,jan Tryz.prog 115 (sp3 (s34i (cF i) false))
 | 0=>jl2 ok97w (fun _ _=>fm_w) u34nw
 | 1=>jl2 ok97b (fun _ _=>fm_b) u34nb
 | 2=>jl2 ok97p (fun _ _=>fm_p) u34np
 | 3=>jl2 ok97c (fun _ _=>fm_c) u34nc
def s34u(v:Vl)(f t:Ty):Bool×Value:=(decide (toC v f t),toR v f t)
theorem cuF_of{v:Vl}{f:Ty}(hf:f.s.size≤9223372036854775807)(hv:v.s.size≤9223372036854775807)(h:fit4 v f=0):cuF (jdk v f):=by
 unfold fit4 at h;split at h
 ·rename_i q;exact absurd h q
 rename_i c1;split at h
 case isFalse=>cases h
 rename_i i1;have c1:chk4 f=0:=by simpa using c1
 unfold is4 at i1;unfold jdk;by_cases k12:f.k=1∨f.k=2
 ·rw[Kd k12]at i1 ⊢
  have hV:jbi f:=by
   unfold chk4 at c1;split at c1
   ·assumption
   ·rw[Kc (by omega),Kc (by omega),Kc (by omega),Kc (by omega)]at c1;cases c1
  have hb:=Fx.bnd_range hV;have i1:Fx.fits v f=0:=by simpa using i1
  unfold Fx.fits at i1;rw[Kd hV]at i1;split at i1
  ·rename_i hF;obtain⟨-,g1,g2⟩:=hF;exact⟨hV,by omega,by omega⟩
  ·cases i1
 ·rw[Kc k12]at i1 ⊢;by_cases k4:f.k=4
  ·rw[Kd k4];rw[Kc (by omega),Kd k4]at i1;simp only[jaf,jae]at i1;have:=p1000 c1 (.inr k4)
   have h64:f.p≤64:=by
    unfold chk4 at c1;rw[Kc (fun q=>k12 q.1),Kc (by omega)]at c1;split at c1
    ·rename_i q;exact q.2.2.2.2.2
    ·rw[Kc (by omega),Kc (by omega)]at c1;cases c1
   exact⟨i1.2,by omega⟩
  ·rw[Kc k4];split
   ·rename_i q;exact⟨q.2,hv,hf⟩
   ·exact hv
theorem ok34u:jan Tryz.prog 115 (sp3 s34u):=by
 refine jg0 (T:=fun i:Fin 4×Bool=>sp3 (s34i (cF i.1) i.2)) (0,true) (fun i=> ?_) fun args bs r hs=> ?_
 ·obtain⟨i,b⟩:=i;cases b
  ·exact ok34n i
  ·exact ok34y i
 ·unfold sp3 at hs;split at hs
  case h_2=>cases hs
  split at hs
  case h_2=>cases hs
  rename_i v f t hv hf ht;simp only[s34u,Kb,Ke]at hs;obtain⟨hc,rfl⟩:=hs;have hC:=jab hc
  have key:∃i:Fin 4×Bool,(decide (earl v f t) || (cF i.1 v f).1&&cuK i.2 (jdk v f) t)=true:=by
   by_cases he:earl v f t
   ·exact⟨(0,true),by rw[jaa he];rfl⟩
   have h1:fit4 v f=0:=Classical.not_not.1 fun q=>he (.inl q)
   have h2:chk4 t=0:=Classical.not_not.1 fun q=>he (.inr (.inl q))
   have h4:t.k≠6:=fun q=>he (.inr (.inr (.inr q)))
   have hk:cuK (cuV (jdk v f) t).2.2.2.isNone (jdk v f) t=true:=jiv.2 ⟨⟨cuF_of hC.2.1 hC.2.2 h1,h2,h4,hC.1⟩,rfl⟩
   have hi:∃i,(cF i v f).1=true:=by
    by_cases k12:f.k=1∨f.k=2
    ·exact⟨0,jaa k12⟩
    by_cases k4:f.k=4
    ·exact⟨1,jaa k4⟩
    by_cases k5:f.k=5∧pN (bz f.s)=true
    ·exact⟨2,jaa ⟨k5.1,k5.2,hC.2.1⟩⟩
    ·exact⟨3,jaa ⟨k12,k4,fun q w=>k5 ⟨q,w⟩,hC.2.1⟩⟩
   obtain⟨i,hi⟩:=hi;exact⟨(i,_),by rw[hi,hk];simp⟩
  obtain⟨i,hi⟩:=key;refine⟨i,?_⟩;unfold sp3;simp only[hv,hf,ht];refine congrArg some (Prod.ext ?_ rfl);show(decide (toC v f t) &&_)=true;rw[hc,hi];rfl
end Go.Cx
end
noncomputable section
set_option maxHeartbeats 3200000
namespace Go.Cx
open Go Go.Ab Go.Proofs Go.Shelf Go.Px Go.Cv
open Go.Fx (Ty Vl check jbi most base pw bnd Fit fits tv vv tup V0 T0 jbw jbx jbp jcf str0 scl cutN cutC InB)
theorem fit0{v:Vl}{t:Ty}:fit4 v t=0↔chk4 t=0∧is4 v t=true:=by
 unfold fit4;split
 ·rename_i h;exact⟨fun q=>absurd q h,fun q=>absurd q.1 h⟩
 ·rename_i h;have h:chk4 t=0:=by simpa using h
  split
  ·rename_i g;exact⟨fun _=>⟨h,g⟩,fun _=>rfl⟩
  ·rename_i g;exact⟨fun q=>absurd q (by decide),fun q=>absurd q.2 g⟩
theorem chk_v{t:Ty}(h:chk4 t=0)(h1:t.k=1∨t.k=2):jbi t:=by
 unfold chk4 at h;split at h
 ·assumption
 ·rw[Kc (by omega),Kc (by omega),Kc (by omega),Kc (by omega)]at h;cases h
theorem chk_p{t:Ty}(h:chk4 t=0)(h1:t.k=5):vOK (bz t.s)=true:=(k5_of h (by omega) (by omega) (by omega) (by omega)).2
theorem fill_n(l:O)(n:Nat)(c:Int):(ji3 l n c).length=n:=by
 unfold ji3;rw[Kk,Kp,Km];omega
theorem fi_size(s:Y)(n c:Int):(fiU s n c).size=n.toNat:=by rw[fiU,jbu,fill_n]
end Go.Cx
end
noncomputable section
set_option maxHeartbeats 3200000
namespace Go.Cx
open Go Go.Ab Go.Proofs Go.Shelf Go.Px Go.Cv
open Go.Fx (Ty Vl check jbi most base pw bnd Fit fits tv vv tup V0 T0 jbw jbx jbp jcf str0)
def isN(x:Num):Prop:=jgf x.1 x.2.1 x.2.2=true
theorem norm_isN{g:Bool}{l:O}{q:Int}(h:jbc l=true)(hl:l.length≤400)(hq: -400≤q-l.length∧q≤400):isN (jaz g l q):=by
 obtain⟨k,e1,e2⟩:=nz_val l;have hk:=jd4 l 48;unfold isN jaz;by_cases h0:nz l=[]
 ·rw[Kd h0];rfl
 ·rw[Kc h0];obtain⟨n1,n2⟩:=nz_head (l:=l);unfold jgf;simp only;rw[Kc h0,nz_digs h,jaa (show(nz l).length≤400 by omega),jaa (show -400≤q-(((tlZ l 48).length:Int)-(nz l).length)∧q-(((tlZ l 48).length:Int)-(nz l).length)≤400 by omega)];have a1:((nz l).head?==some 48)=false:=by simpa using n1
  have a2:((nz l).getLast?==some 48)=false:=by simpa using n2
  rw[a1,a2];rfl
theorem expD_r{l:O}{e:Int}(h:expD l=some e):0≤e∧e≤99:=by
 unfold expD at h;split at h
 ·rename_i q;cases h;rw[←jg9];exact decG_rng q.2.2 q.2.1
 ·cases h
theorem expZ_r{l:O}{e:Int}(h:expZ l=some e): -99≤e∧e≤99:=by
 cases l with
 | nil=>cases h
 | cons c r=>
  rw[jgu]at h;split at h
  ·cases hd:expD r with
   | none=>rw[hd]at h;cases h
   | some x=>rw[hd]at h;cases h;have:=expD_r hd;simp only;omega
  ·split at h<;>(have:=expD_r h;omega)
theorem decR_num{g:Bool}{l:O}{x:Num}(hl:l.length≤255)(h:decR jaz g l=some x):isN x:=by
 rw[jj7]at h;cases hd:decE l with
 | none=>rw[hd]at h;cases h
 | some e=>
  rw[hd]at h
  have he: -99≤e∧e≤99:=by
   unfold decE at hd;split at hd
   ·cases hd;omega
   ·exact expZ_r hd
  have h:decB g (Cv.ahead 69 l) e=some x:=h;unfold decB at h;split at h
  ·rename_i q;cases h;have h1:=jej 69 l;have h2:=jej 46 (Cv.ahead 69 l)
   have h3:(Cv.ahead 46 (Cv.ahead 69 l)).length+((past 46 (Cv.ahead 69 l)).getD []).length≤l.length:=by
    rw[jdr];split
    ·rw[Option.getD_some,KE];omega
    ·simp;omega
   refine norm_isN ?_ (by rw[Kk];omega) (by rw[Kk];omega);unfold jbc at*;rw[List.all_append,q.2.1,q.2.2];rfl
  ·cases h
theorem jkd{g:Bool}{l:O}{x:Num}(hl:l.length≤255)(h:bodR jaz binD g l=some x):isN x:=by
 unfold bodR at h;split at h
 ·split at h
  ·rename_i q;cases h;have hr:=jmg q.2 (by rw[List.length_dropLast];exact q.1)
   have hn:(binD l.dropLast).length≤11:=by
    rw[binD,decZ,zl,K9];have:=jf0 9 (binG l.dropLast 0).toNat (by omega);omega
   exact norm_isN (jgw 30 _ (by omega)).1 (by omega) (by omega)
  ·cases h
 ·exact decR_num hl h
theorem rdN_num{l:O}{x:Num}(h:rdN l=some x):isN x:=by
 unfold rdN at h;split at h
 ·cases h
 rename_i hl;have h1:=jhf (tlZ l 32) 32;have h2:=jd4 l 32;unfold numR at h;rw[jlv,jlu]at h;generalize trZ (tlZ l 32) 32=u at h h1;unfold sgnR at h;split at h
 ·cases h;rfl
 ·rename_i r _;exact jkd (by simp at h1;omega) h
 ·rename_i r _;exact jkd (by simp at h1;omega) h
 ·exact jkd (by omega) h
end Go.Cx
end
noncomputable section
set_option maxHeartbeats 3200000
namespace Go.Fh
open Go Go.Ab Go.Proofs Go.Shelf Go.Px Go.Cv Go.Cx Go.Ff
open Go.Fx (Ty Vl jbi InB Fit)
theorem jj6:∀(k n:Nat),n<10^ (k+1)→(Lib.decDigits n).length≤k+1
 | 0,n,h=>by
  rw[Lib.decDigits,dif_pos (by omega)];simp
 | k+1,n,h=>by
  rw[Lib.decDigits];split
  ·simp
  ·have:=jj6 k (n/10) (by rw[Nat.pow_succ]at h;omega);simp only[Kk,List.length_cons,List.length_nil];omega
theorem ho_len{l t:O}(h:hoZ l t=true):(t.length:Int)=pW l:=by
 unfold hoZ at h;split at h
 ·split at h
  ·rename_i hn;have h:=jab h;unfold rdV at h;rw[Kd hn]at h;split at h
   ·rename_i hl;exact hl
   ·cases h
  ·simp only[jaf,jae]at h;exact h.1
 ·cases h
theorem fitE0{v:Vl}{t:Ty}(h:fitE v t=0):fit4 v t=0∧t.k≠6∧chk4 t=0:=by
 unfold fitE typE at h;by_cases h1:fit4 v t=0
 ·rw[Kc (by simp[h1])]at h;by_cases h2:chk4 t=0
  ·rw[Kc (by simp[h2])]at h;refine⟨h1,fun q=> ?_,h2⟩;rw[Kd q]at h;cases h
  ·rw[Kd h2]at h;exact absurd h h2
 ·rw[Kd h1]at h;exact absurd h h1
theorem jgs{v:Vl}{t:Ty}(h:fit4 v t=0)(h6:t.k≠6):((t.k=1∨t.k=2)→jbi t∧ -2147483648≤v.n∧v.n≤2147483648)∧(t.k≠1→t.k≠2→v.s.size≤255)∧(t.k=4→jcn (bz v.s)=true∧v.s.size≤64):=by
 obtain⟨hc,hi⟩:=fit0.1 h;refine⟨fun h12=> ?_,fun h1 h2=> ?_,fun h4=> ?_⟩
 ·have hv:=chk_v hc h12;exact⟨hv,jlf h hv⟩
 ·unfold is4 at hi;rw[Kc (by omega)]at hi;unfold chk4 at hc;rw[Kc (fun q=>by have:=q.1;omega)]at hc;by_cases h3:t.k=3
  ·rw[Kd h3]at hi;have hi:=jab hi;split at hc
   ·rename_i q;omega
   ·rw[Kc (by omega),Kc (by omega),Kc (by omega)]at hc;cases hc
  rw[Kc h3]at hi;rw[Kc (by omega)]at hc;by_cases h4:t.k=4
  ·rw[Kd h4]at hi;simp only[jaf,jae]at hi;split at hc
   ·rename_i q;omega
   ·rw[Kc (by omega),Kc (by omega)]at hc;cases hc
  rw[Kc h4]at hi;rw[Kc (by omega)]at hc;by_cases h5:t.k=5
  ·rw[Kd h5]at hi;simp only[jaf,jae]at hi;have:=ho_len hi.2;have hw:=jkj (s:=t.s);rw[jak]at this;omega
  ·rw[Kc (by omega),Kc (by omega)]at hc;cases hc
 ·unfold is4 at hi;rw[Kc (by omega),Kc (by omega),Kd h4]at hi;simp only[jaf,jae]at hi;unfold chk4 at hc;rw[Kc (fun q=>by have:=q.1;omega),Kc (by omega)]at hc;split at hc
  ·rename_i q;exact⟨hi.2,by omega⟩
  ·rw[Kc (by omega),Kc (by omega)]at hc;cases hc
theorem nm_ok{v:Vl}{t:Ty}(h:fit4 v t=0)(h6:t.k≠6):IsB (nmU v t).1.2.1∧(nmU v t).1.2.1.length≤400∧ -2000≤(nmU v t).1.2.2∧(nmU v t).1.2.2≤2000:=by
 obtain⟨f1,f2,f3⟩:=jgs h h6;unfold nmU;split
 ·rename_i h12;obtain⟨hv,hn⟩:=f1 h12;obtain⟨a,b,c,d⟩:=scZ_ok hn (q:=t.q) (by have:=Fx.valid_r hv;omega);exact⟨a,by simp only;omega,c,d⟩
 split
 ·rename_i h5;have hr:=jk3 (t:=v.s) h5.2;obtain⟨_,p0,p1,p2⟩:=jdv h5.2;obtain⟨a,b,c,d⟩:=scZ_ok (n:=(rdV (bz t.s) (bz v.s)).1) (by omega) (q:=pQ (bz t.s)) (by omega);exact⟨a,by simp only;omega,c,d⟩
 split
 ·rename_i h4;obtain⟨hb,hs⟩:=f3 h4;obtain⟨l1,l2⟩:=jiy (bz v.s) 0 hb (by omega);have h64:(2:Int) ^ (bz v.s).length≤2^64:=by exact_mod_cast Nat.pow_le_pow_right (n:=2) (by omega) (show(bz v.s).length≤64 by rw[jak];omega)
  have e64:(2:Int) ^64=18446744073709551616:=rfl
  have hl:=jj6 19 (binG (bz v.s) 0).toNat (by
   have:(10:Nat) ^ (19+1)=100000000000000000000:=rfl;omega)
  refine⟨jkp (jod _) _,?_,by simp,by simp⟩;have:=jd4 (decZ (binG (bz v.s) 0)) 48;have e:(decZ (binG (bz v.s) 0)).length=(Lib.decDigits (binG (bz v.s) 0).toNat).length:=by simp[decZ,zl]
  simp only;omega
 ·simp only;cases hr:rdN (bz v.s)with
  | none=>exact⟨IsB.nil,by simp[num0],by simp[num0],by simp[num0]⟩
  | some x=>
   have hx:=rdN_num hr;unfold isN jgf at hx;simp only[Option.getD_some];split at hx
   ·rename_i hd;simp only[jaf,jae]at hx;rw[hd];exact⟨IsB.nil,by simp,by omega,by omega⟩
   ·simp only[jaf,jae]at hx;obtain⟨a,b,_,_,c,d⟩:=hx;refine⟨fun y hy=> ?_,a,by omega,by omega⟩;have:=Kf.1 b y hy;simp only[dig,jaf,jae]at this;omega
theorem tl0{s:Y}(h:s.toList=[]):s.size=0:=by
 rw[Go.Fx.str_e0 h];rfl
theorem v_size{v:Vl}{t:Ty}(h:fit4 v t=0)(h6:t.k≠6):v.s.size≤255:=by
 by_cases h12:t.k=1∨t.k=2
 ·obtain⟨hc,hi⟩:=fit0.1 h;unfold is4 at hi;rw[Kd h12]at hi;have hi:=eq_of_beq hi;unfold Fx.fits at hi;rw[Kd (chk_v hc h12)]at hi;split at hi
  ·rename_i hf;rw[tl0 hf.1];omega
  ·cases hi
 ·exact(jgs h h6).2.1 (by omega) (by omega)
theorem tx_size{v:Vl}{t:Ty}(h:fit4 v t=0)(h6:t.k≠6):(txS v t).size≤255∧txE v t=0:=by
 refine⟨?_,by unfold txE;rw[Kc (by simp[h]),Kc h6]⟩;unfold txS;split
 ·rename_i hv;have hr:=Fx.valid_r hv;have hn:=jlf h hv;have hl:=(fixS_len hn (q:=t.q) (by omega)).1;rw[jbu,txtZ];have hw:wid t≤40:=by unfold wid;split<;>omega
  simp only[Kk,Km];omega
 ·exact v_size h h6
theorem to_chk{v:Vl}{f t:Ty}(h:(toV v f t).2.2.2=0):chk4 t=0:=by
 unfold toV at h;split at h
 ·rename_i q;exact absurd h q
 split at h
 ·rename_i q;exact absurd h q
 ·rename_i q;simpa using q
theorem to_bsz{v:Vl}{f:Ty}{w:Int}(hv:fit4 v f=0)(h6:f.k≠6)(h:(toV v f ⟨4,w,0,false,⟨#[]⟩⟩).2.2.2=0):((toV v f ⟨4,w,0,false,⟨#[]⟩⟩).2.1.size:Int)=w:=by
 have hc:=to_chk h;have hp:=p1000 hc (.inr rfl);clear h;unfold toV;rw[Kc (by simp[hv]),Kc (by simp[hc]),Kc (by simp;omega)];split
 ·unfold Cx.cuV;rw[Kc (by simp),Kc (by simp),Kd rfl];show((fiU _ w 48).size:Int)=w;rw[fi_size];have:=hp.1;simp only at this;omega
 ·show((Cx.zrV ⟨4,w,0,false,⟨#[]⟩⟩).size:Int)=w;unfold Cx.zrV;rw[Kd rfl,jbu,Km];have:=hp.1;simp only at this ⊢;omega
theorem ed_sz{s:Y}(h:pN (bz s)=true)(n:Int):((sz (edS (bz s) n (pQ (bz s)))).size:Int)=pW (bz s):=by
 have hp:=jdv h
 have e:edS (bz s) n (pQ (bz s))=fdN (bz s) (Px.cuN n (pQ (bz s)) (pQ (bz s)) (pD (bz s)) (pG (bz s))):=by
  rw[edS,Kd ⟨h,by omega⟩];rfl
 rw[e];exact size_fdN h _
theorem to_psz{v:Vl}{f:Ty}{p:Y}(hv:fit4 v f=0)(h6:f.k≠6)(h:(toV v f ⟨5,0,0,false,p⟩).2.2.2=0):((toV v f ⟨5,0,0,false,p⟩).2.1.size:Int)=pW (bz p):=by
 have hc:=to_chk h;have hk:=chk_p hc rfl;have hw:=jkj (s:=p);clear h;unfold toV;rw[Kc (by simp[hv]),Kc (by simp[hc]),Kc (by simp;omega)];split
 ·rename_i hn;revert hn;unfold Cx.cuV;rw[Kc (by simp),Kc (by simp),Kc (by simp)];split
  ·rename_i hN;unfold Cx.cuN;split
   ·exact fun _=>ed_sz hN _
   ·intro q;cases q
  ·rename_i hN;split
   ·intro _;show((fiU _ _ _).size:Int)=_;rw[fi_size]
    have:tyP (bz p)=pW (bz p):=by
     have hN:pN (bz p)=false:=by simpa using hN
     rw[tyP,Kd hk,hN];rfl
    rw[this];omega
   ·intro q;cases q
 ·show((Cx.zrV ⟨5,0,0,false,p⟩).size:Int)=_;unfold Cx.zrV;rw[Kc (by simp),Kd rfl];show((sz (zeS (bz p))).size:Int)=_;unfold zeS;rw[Kd hk];split
  ·rename_i hN;exact size_fdN hN 0
  ·rw[jco,rep1,Km];omega
end Go.Fh
end
noncomputable section
set_option maxHeartbeats 3200000
set_option maxRecDepth 100000
namespace Go.Fh
open Go Go.Ab Go.Proofs Go.Shelf Go.Px Go.Cv Go.Cx Go.Ff
open Go.Fx (Ty Vl)
attribute [local instance 5000] tabsB
theorem toO_ex:∃d:Vl→Ty→Ty→Int×Y×Int×Int,d=toV:=⟨_,rfl⟩
def toO:Vl→Ty→Ty→Int×Y×Int×Int:=Classical.choose toO_ex
theorem jlw:toO=toV:=Kn toO_ex
def s34o(v:Vl)(f t:Ty):Bool×Value:=(decide (toC v f t),tp3 (toO v f t).1 (toO v f t).2.1 (toO v f t).2.2.1 (I (toO v f t).2.2.2))
def txP(v:Vl)(t:Ty):Y×Int:=(if txE v t≠0 then⟨#[]⟩else txS v t,txE v t)
theorem txO_ex:∃d:Vl→Ty→Y×Int,d=txP:=⟨_,rfl⟩
def txO:Vl→Ty→Y×Int:=Classical.choose txO_ex
theorem txO_eq:txO=txP:=Kn txO_ex
def s32o(v:Vl)(t:Ty):Bool×Value:=(decide (t.s.size≤9223372036854775807∧v.s.size≤9223372036854775807),.tuple ⟨[S (txO v t).1,I (txO v t).2]⟩)
def fxP(g:Bool)(d:O)(c b:Int):Y×Bool:=(szO (bif (roF d c b).2 then fixF g (roF d c b).1 b else []),(roF d c b).2)
theorem fxO_ex:∃d:Bool→O→Int→Int→Y×Bool,d=fxP:=⟨_,rfl⟩
def fxO:Bool→O→Int→Int→Y×Bool:=Classical.choose fxO_ex
theorem jm7:fxO=fxP:=Kn fxO_ex
def s76o(x:Nu)(b:Int):Bool×Value:=(decide (x.d.size≤900∧0≤b∧b≤9∧ -100000≤x.c∧x.c≤100000),.tuple ⟨[S (fxO x.g (bz x.d) x.c b).1,B (fxO x.g (bz x.d) x.c b).2]⟩)
def wdP(f:Fo):Int:=if f.k=4 then pW (bz f.s)else f.w
theorem wdO_ex:∃d:Fo→Int,d=wdP:=⟨_,rfl⟩
def wdO:Fo→Int:=Classical.choose wdO_ex
theorem jhc:wdO=wdP:=Kn wdO_ex
theorem ok34o:jan Tryz.prog 115 (sp3 s34o):=by
 have:s34o=s34u:=by funext v f t;rw[s34o,s34u,jlw]
 rw[this];exact pureB ok34u
theorem ok32o:jan Tryz.prog 109 (sp2 s32o):=by
 have:s32o=s32f:=by funext v t;rw[s32o,s32f,txO_eq];rfl
 rw[this];exact pureB ok32f
theorem ok76o:jan Tryz.prog 117 (sp2 s76o):=by
 have:s76o=Ff.s76:=by funext x b;rw[s76o,Ff.s76,jm7];rfl
 rw[this];exact Ff.ok76
theorem wd_r{f:Fo}(h:jcj f=true)(hk:f.k≤4):0≤wdO f∧wdO f≤255:=by
 rw[jhc,wdP];have hw:=jkj (s:=f.s);simp only[jcj,jaf,jae]at h;split<;>omega
theorem jho(c n:Int):(szO (repZ [c] n.toNat)).size=n.toNat:=by
 rw[jbu,jda,Km]
def K1:Env:=Env.nil.add 26 (sp1 Px.s35)
theorem ok_K1:ja3 Tryz.prog K1:=jaj jav (pureB Px.ok35)
def s62u(f:Fo):Bool×Value:=(decide (f.s.size≤9223372036854775807),I (wdO f))
theorem v62u(f:Fo)(R:Value→Prop):jax Tryz.prog K1 noL Tryz.f90 [Enc.enc f] (fun _=>none) 0 (fun v _ _=>R v)=(bif Ff.Fo.k f !=4 then R (I (Ff.Fo.w f))else br (cw (Ff.Fo.s f)) (I (pW (bz (Ff.Fo.s f)))) R):=by kernel_rfl
theorem ok62u:jan Tryz.prog 90 (sp1 s62u):=by
 refine jb6 ok_K1 hmix (.m Tryz.func90) jal jag fun f hc=> ?_
 rw[ja4,v62u];delta br cw;have hc:(f.s.size≤9223372036854775807):=jab hc
 try dsimp only[s62u]
 have e:wdO f=if f.k=4 then pW (bz f.s)else f.w:=by rw[jhc];rfl
 rw[e];refine Ka (fun h=> ?_) (fun h=>c_t (jaa hc) ?_)
 ·have h:¬f.k=4:=by simpa using h
  rw[Kc h]
 ·have h:f.k=4:=by simpa using h
  rw[Kd h]
def K2:Env:=(((((Env.nil.add 90 (sp1 s62u)).add 114 (sp2 Cx.s30)).add 109 (sp2 s32o)).add 115 (sp3 s34o)).add 116 (sp2 s75u)).add 117 (sp2 s76o)
def job(v:Vl)(t:Ty):Prop:=fitE v t=0
instance (v:Vl)(t:Ty):Decidable (job v t):=by unfold job;infer_instance
def cE(f:Fo)(v:Vl)(t:Ty):Prop:=f.s.size≤9223372036854775807∧t.s.size≤9223372036854775807∧v.s.size≤9223372036854775807∧jcj f=true∧f.k≤4∧job v t
instance (f:Fo)(v:Vl)(t:Ty):Decidable (cE f v t):=by unfold cE;infer_instance
def rpt(c n:Int):Y:=szO (repZ [c] n.toNat)
def jh1(w:Int):Ty:=⟨4,imin w 64,0,false,⟨#[]⟩⟩
def jkx(s:Y):Ty:=⟨5,0,0,false,s⟩
def edP(f:Fo)(v:Vl)(t:Ty):Y:=
 if f.k=1 then if f.w=0 then(txO v t).1 else((txO v t).1++rpt 32 f.w).extract 0 f.w.toNat
 else if f.k=2 then if(toO v t (jh1 (wdO f))).2.2.2≠0∨(toO v t (jh1 (wdO f))).2.2.1=4 then rpt 42 (wdO f)else(toO v t (jh1 (wdO f))).2.1++rpt 32 (wdO f-(toO v t (jh1 (wdO f))).2.1.size)
 else if f.k=3 then if(nuO v t).2=false then rpt 42 (wdO f)else
  if(fxO (nuO v t).1.1 (nuO v t).1.2.1 (nuO v t).1.2.2 f.d).2=false∨wdO f<(fxO (nuO v t).1.1 (nuO v t).1.2.1 (nuO v t).1.2.2 f.d).1.size then rpt 42 (wdO f)
  else rpt 32 (wdO f-(fxO (nuO v t).1.1 (nuO v t).1.2.1 (nuO v t).1.2.2 f.d).1.size)++(fxO (nuO v t).1.1 (nuO v t).1.2.1 (nuO v t).1.2.2 f.d).1
 else if(toO v t (jkx f.s)).2.2.2≠0∨(toO v t (jkx f.s)).2.2.1≠0 then rpt 42 (wdO f)else(toO v t (jkx f.s)).2.1
theorem edO_ex:∃d:Fo→Vl→Ty→Y,d=edP:=⟨_,rfl⟩
def edO:Fo→Vl→Ty→Y:=Classical.choose edO_ex
theorem jnb:edO=edP:=Kn edO_ex
theorem ok_K2:ja3 Tryz.prog K2:=jaj (jaj (jaj (jaj (jaj (jaj jav ok62u) (pureB Cx.ok30)) ok32o) ok34o) ok75u) ok76o
def s39u(f:Fo)(v:Vl)(t:Ty):Bool×Value:=(decide (cE f v t),S (edO f v t))
def rz(a b:Y)(c:Value→Prop):Prop:=br (f8 a b) (.string (a++b)) c
def ot(c:Ff.Fo)(b:Fx.Ty)(a:Fx.Vl):Prod Y Bool:=Fh.fxO (Fh.nuO a b).fst.fst (bz (szO (Fh.nuO a b).fst.snd.fst)) (Fh.nuO a b).fst.snd.snd (Ff.Fo.d c)
def ni(c:Ff.Fo)(b:Fx.Ty)(a:Fx.Vl):Prod Y (Prod Int Int):=(Fh.toO a b (Fx.Ty.mk 4 (imin (Fh.wdO c) 64) 0 false ay)).snd
theorem v39u(f:Fo)(v:Vl)(t:Ty)(R:Value→Prop):jax Tryz.prog K2 noL Tryz.f64 [Enc.enc f,Enc.enc v,Enc.enc t] (fun _=>none) 0 (fun v _ _=>R v)=(gv (ig ⟨#[42]⟩ (Fh.wdO f) 1000 1000) (Ff.Fo.s f) (bif Ff.Fo.k f==1 then bif im (Fx.Vl.s v) (Fx.Ty.s t).size 9223372036854775807 9223372036854775807 then bif Ff.Fo.w f==0 then R (S (Fh.txO v t).fst)else py (ig ⟨#[32]⟩ (Ff.Fo.w f) 1000 1000) (Fh.txO v t).fst (j4 (Ff.Fo.w f) 32) ((Fh.txO v t).fst++j4 (Ff.Fo.w f) 32) 0 (Ff.Fo.w f) (R (S (((Fh.txO v t).fst++j4 (Ff.Fo.w f) 32).extract 0 (Ff.Fo.w f).toNat)))else False else bif Ff.Fo.k f==2 then bif decide (toC v t (Fx.Ty.mk 4 (imin (Fh.wdO f) 64) 0 false ay))then bq ((ni f t v).snd.snd !=0) true ((ni f t v).snd.snd !=0 || (ni f t v).snd.fst==4) (R (S (j4 (Fh.wdO f) 42))) (bif ig ⟨#[32]⟩ (cm (Fh.wdO f) (fk (ni f t v).fst)) 1000 1000 then rz (ni f t v).fst (szO (repZ (bz ⟨#[32]⟩) (fx (Fh.wdO f-fk (ni f t v).fst)))) R else False)else False else bif Ff.Fo.k f==3 then kp (decide (Fh.c75 v t)) (!(Fh.nuO v t).snd) (R (S (j4 (Fh.wdO f) 42))) (bif qa (szO (Fh.nuO v t).fst.snd.fst) (Ff.Fo.d f) (Fh.nuO v t).fst.snd.snd then ox (ot f t v).snd (ig ⟨#[32]⟩ (cm (Fh.wdO f) (fk (ot f t v).fst)) 1000 1000) (fk (ot f t v).fst) (Fh.wdO f) (R (S (j4 (Fh.wdO f) 42))) (rz (szO (repZ (bz ⟨#[32]⟩) (fx (Fh.wdO f-fk (ot f t v).fst)))) (ot f t v).fst R)else False)else qd (decide (toC v t (Fx.Ty.mk 5 0 0 false (Ff.Fo.s f)))) ((Fh.toO v t (Fx.Ty.mk 5 0 0 false (Ff.Fo.s f))).snd.snd.snd !=0) ((Fh.toO v t (Fx.Ty.mk 5 0 0 false (Ff.Fo.s f))).snd.snd.fst !=0) (S (j4 (Fh.wdO f) 42)) (S (Fh.toO v t (Fx.Ty.mk 5 0 0 false (Ff.Fo.s f))).snd.fst) R) False):=by kernel_rfl
theorem ok39u:jan Tryz.prog 64 (sp3 s39u):=by
 refine jh7 ok_K2 hmix (.m Tryz.func64) jal jag fun f v t hc=> ?_
 rw[ja4,v39u];delta av cw gv bq qd j4 kp e7 ox br f8 rz ot fx fk ig cm qa ay ni c7 al py im;have hc:(cE f v t):=jab hc
 try dsimp only[s39u]
 obtain⟨h1,h2,h3,h4,h5,h6⟩:=hc;obtain⟨hf,hk6,hck⟩:=fitE0 h6;have hw:=wd_r h4 h5;have hr:=h4;simp only[jcj,jaf,jae]at hr;obtain⟨⟨r1,r2,r3,r4,r5,r6,r7,r8⟩,_⟩:=hr;obtain⟨hcd,hvs⟩:=fit0.1 hf;have e42:(⟨#[42]⟩:Y).size=1:=rfl;have e32:(⟨#[32]⟩:Y).size=1:=rfl;have b42:bz (⟨#[42]⟩:Y)=[42]:=rfl;have b32:bz (⟨#[32]⟩:Y)=[32]:=rfl;have e0:(⟨#[]⟩:Y).size=0:=rfl;rw[e42,e32,b42,b32];have hed:edO f v t=edP f v t:=by rw[jnb]
 rw[hed];refine c_t (jaa h1) (c_t (jaa (by omega)) (Ka (fun q1=> ?_) (fun q1=> ?_)))
 ·have q1:f.k=1:=by simpa using q1
  obtain⟨t1,t2⟩:=tx_size hf hk6;have ht:(txO v t).1.size≤255:=by rw[txO_eq,txP,t2];exact t1
  refine c_t (jaa ⟨h2,h3⟩) (Ka (fun q=> ?_) (fun q=> ?_))
  ·have q:f.w=0:=by simpa using q
   rw[edP,Kd q1,Kd q]
  ·have q:¬f.w=0:=by simpa using q
   rw[edP,Kd q1,Kc q,jho,ByteArray.size_append,jho];refine c_t (jaa (by omega)) (c_t (by rw[jbf,Nat.ble_eq];omega) (c_t (jaa (by omega)) rfl))
 have q1:¬f.k=1:=by simpa using q1
 apply Ka<;>intro q2
 ·have q2:f.k=2:=by simpa using q2
  have ety:(⟨4,imin (wdO f) 64,0,false,⟨#[]⟩⟩:Ty)=jh1 (wdO f):=rfl;rw[ety]
  have hto:(toO v t (jh1 (wdO f))).2.2.2=0→((toO v t (jh1 (wdO f))).2.1.size:Int)≤wdO f:=fun h=>by
   rw[jlw]at h ⊢;have:=to_bsz hf hk6 h;have hm:imin (wdO f) 64≤wdO f:=by unfold imin;split<;>omega
   show((toV v t ⟨4,imin (wdO f) 64,0,false,⟨#[]⟩⟩).2.1.size:Int)≤wdO f;omega
  have hsz:toC v t (jh1 (wdO f)):=⟨by show(⟨#[]⟩:Y).size≤_;rw[e0];omega,h2,h3⟩
  rw[edP,Kc q1,Kd q2];generalize toO v t (jh1 (wdO f))=y at*;refine c_t (jaa hsz) (c_t (by simp) (Ka (fun q=> ?_) (fun q=> ?_)))
  ·have q:y.2.2.2≠0∨y.2.2.1=4:=by simpa using q
   rw[Kd q];rfl
  ·have q':¬(y.2.2.2≠0∨y.2.2.1=4):=by simpa using q
   have hl:=hto (by omega);rw[Kc q',w64 (n:=wdO f-y.2.1.size) (by omega),jho];exact c_t (jaa (by omega)) (c_t (by rw[jbf,Nat.ble_eq];omega) rfl)
 have q2:¬f.k=2:=by simpa using q2
 apply Ka<;>intro q3
 ·have q3:f.k=3:=by simpa using q3
  obtain⟨f1,f2,f3⟩:=jgs hf hk6;obtain⟨n1,n2,n3,n4⟩:=nm_ok hf hk6
  have hc75:c75 v t:=⟨h2,h3,fun h=>by
   obtain⟨a,b,c⟩:=f1 h;have:=Fx.valid_r a;omega,fun h=>f3 h⟩
  rw[edP,Kc q1,Kc q2,Kd q3];have hn:nuO v t=nmU v t:=by rw[jlz]
  rw[hn,jcs n1,jbu];generalize nmU v t=x at*;refine c_t (jaa hc75) (Ka (fun q=> ?_) (fun q=> ?_))
  ·have q:x.2=false:=by simpa using q
   rw[Kd q];rfl
  have q':¬x.2=false:=by simpa using q
  rw[Kc q']
  have hfx:(fxO x.1.1 x.1.2.1 x.1.2.2 f.d).1.size≤320:=by
   rw[jm7,fxP,jbu];cases hb:(roF x.1.2.1 x.1.2.2 f.d).2
   ·rw[cond_false];simp
   ·rw[cond_true];exact fixF_len (roF_len hb) _ (by omega)
  generalize fxO x.1.1 x.1.2.1 x.1.2.2 f.d=y at*;refine c_t (jaa (by omega)) (c_t (by simp) (Ka (fun p=> ?_) (fun p=> ?_)))
  ·have p:y.2=false∨wdO f<y.1.size:=by simpa using p
   rw[Kd p];rfl
  ·have p':¬(y.2=false∨wdO f<y.1.size):=by
    intro p';have:(!y.2 || decide ((y.1.size:Int)>wdO f))=true:=by simpa using p'
    rw[this]at p;cases p
   rw[Kc p',w64 (n:=wdO f-y.1.size) (by omega),jho];exact c_t (jaa (by omega)) (c_t (by rw[jbf,Nat.ble_eq];omega) rfl)
 ·have q3:¬f.k=3:=by simpa using q3
  have ety:(⟨5,0,0,false,f.s⟩:Ty)=jkx f.s:=rfl;rw[ety,edP,Kc q1,Kc q2,Kc q3];have hsz:toC v t (jkx f.s):=⟨h1,h2,h3⟩
  generalize toO v t (jkx f.s)=y at*;refine c_t (jaa hsz) (c_t (by simp) (Ka (fun q=> ?_) (fun q=> ?_)))
  ·have q:y.2.2.2≠0∨y.2.2.1≠0:=by simpa using q
   rw[Kd q];rfl
  ·have q':¬(y.2.2.2≠0∨y.2.2.1≠0):=by
    intro q';have:(y.2.2.2 !=0 || y.2.2.1 !=0)=true:=by simpa using q'
    rw[this]at q;cases q
   rw[Kc q']
attribute [local instance 5000] tabsB
def K3:Env:=((Env.nil.add 78 (sp1 Ff.s37)).add 57 (sp2 Ff.s38)).add 64 (sp3 s39u)
def edQ(f:Fo)(v:Vl)(t:Ty):Y×Int:=if jcj f=true∧f.k≤4 then(if fitE v t≠0 then(⟨#[]⟩,fitE v t)else(edO f v t,0))else(⟨#[]⟩,130)
theorem edR_ex:∃d:Fo→Vl→Ty→Y×Int,d=edQ:=⟨_,rfl⟩
def edR:Fo→Vl→Ty→Y×Int:=Classical.choose edR_ex
theorem edR_eq:edR=edQ:=Kn edR_ex
def szs(f:Fo)(v:Vl)(t:Ty):Prop:=f.s.size≤9223372036854775807∧t.s.size≤9223372036854775807∧v.s.size≤9223372036854775807
instance (f:Fo)(v:Vl)(t:Ty):Decidable (szs f v t):=by unfold szs;infer_instance
theorem ok_K3:ja3 Tryz.prog K3:=jaj (jaj (jaj jav Ff.ok37) Ff.ok38) ok39u
def s8u(f:Fo)(v:Vl)(t:Ty):Bool×Value:=(decide (szs f v t),.tuple ⟨[S (edR f v t).1,I (edR f v t).2]⟩)
theorem v8u(f:Fo)(v:Vl)(t:Ty)(R:Value→Prop):jax Tryz.prog K3 noL Tryz.f25 [Enc.enc f,Enc.enc v,Enc.enc t] (fun _=>none) 0 (fun v _ _=>R v)=(gv ((if Ff.jcj f=true∧Ff.Fo.k f≤4 then(0:Int)else(130:Int)) !=0) (Ff.Fo.s f) (R (aq [I (if Ff.jcj f=true∧Ff.Fo.k f≤4 then 0 else 130)] cv)) (mtq (decide (Fh.cE f v t)) t v (Ff.fitE v t) False (aq [I (Ff.fitE v t)] cv) (aq [ak 0] (S (Fh.edO f v t))) R)):=by kernel_rfl
theorem ok8u:jan Tryz.prog 25 (sp3 s8u):=by
 refine jh7 ok_K3 hmix (.m Tryz.func25) jal jag fun f v t hc=> ?_
 rw[ja4,v8u];delta av cw gv im mtq aq ak ay cv;have hc:(szs f v t):=jab hc
 try dsimp only[s8u]
 obtain⟨h1,h2,h3⟩:=hc;have e:edR f v t=edQ f v t:=by rw[edR_eq]
 rw[e,edQ];refine c_t (jaa h1) ?_;by_cases hr:jcj f=true∧f.k≤4
 ·rw[Kd hr,Kd hr];refine c_f rfl (c_t (jaa ⟨h2,h3⟩) (Ka (fun q=> ?_) (fun q=> ?_)))
  ·have q:fitE v t≠0:=by simpa using q
   rw[Kd q]
  ·have q:fitE v t=0:=by simpa using q
   rw[Kc (by simp[q])];exact c_t (jaa ⟨h1,h2,h3,hr.1,hr.2,q⟩) rfl
 ·rw[Kc hr,Kc hr];exact c_t rfl rfl
end Go.Fh
end
noncomputable section
set_option maxHeartbeats 3200000
namespace Go.Ff
open Go Go.Ab Go.Proofs Go.Shelf Go.Px Go.Cv Go.Cx
open Go.Fx (Ty Vl)
theorem jjv{L0 R:O}{c:Int}{i:Nat}(h:L0.length=i):(L0++c::R).getD i 0=c:=by subst h;simp[List.getD_eq_getElem?_getD]
theorem set_mid{L0 R:O}{c x:Int}{i:Nat}(h:L0.length=i):(L0++c::R).set i x=L0++x::R:=by subst h;simp
theorem plus_ne{i:Nat}{L:O}(h:L.getD i 0≠57):jc1 i L=L.set i (IntKind.u8.wrap (L.getD i 0+1)):=by
 cases i<;>simp only[jc1] <;>rw[Kd h]
theorem plus_val:∀(n:Nat)(L R:O),L.length=n+1→jbc L=true→(∃c∈L,c≠57)→ ∃L',jc1 n (L++R)=L'++R∧jbc L'=true∧L'.length=n+1∧decG L' 0=decG L 0+1
 | n,L,R,hl,hd,hx=>by
  obtain⟨L0,c,rfl⟩:∃L0 c,L=L0++ [c]:=⟨L.dropLast,L.getLast (by intro e;simp[e]at hl),(List.dropLast_concat_getLast _).symm⟩
  have h0:L0.length=n:=by simpa using hl
  have e1:L0++ [c]++R=L0++c::R:=by simp
  rw[digs_app,jaf]at hd;have hc:48≤c∧c≤57:=by simpa[jbc,dig]using hd.2
  rw[e1];by_cases h:c=57
  ·subst h
   match n,h0 with
   | 0,h0=>
    obtain⟨d,hd',hne⟩:=hx;rw[KF.1 h0]at hd';simp at hd';exact absurd hd' hne
   | n+1,h0=>
    obtain⟨L',a1,a2,a3,a4⟩:=plus_val n L0 (48::R) h0 hd.1 (by
     obtain⟨d,q,r⟩:=hx;rcases Kq.1 q with q | q
     ·exact⟨d,q,r⟩
     ·simp at q;exact absurd q r)
    refine⟨L'++ [48],?_,?_,?_,?_⟩
    ·rw[jc1,jjv h0,Kc (by simp),set_mid h0,a1];simp
    ·rw[digs_app,a2];rfl
    ·simp[a3]
    ·rw[jfz,jfz,a4];simp only[decG];omega
  ·refine⟨L0++ [c+1],?_,?_,?_,?_⟩
   ·rw[plus_ne (by rw[jjv h0];exact h),jjv h0,set_mid h0,w8 (by omega)];simp
   ·rw[digs_app,hd.1];simp[jbc,dig];omega
   ·simp[h0]
   ·rw[jfz,jfz];simp only[decG];omega
theorem digs_take{l:O}(h:jbc l=true)(k:Nat):jbc (l.take k)=true:=Kf.2 fun c hc=>Kf.1 h c (List.mem_of_mem_take hc)
theorem jlj{l:O}(h:jbc l=true)(c:Int):jbc (tlZ l c)=true:=Kf.2 fun d hd=>Kf.1 h d ((Kt _).subset hd)
end Go.Ff
end
noncomputable section
set_option maxHeartbeats 3200000
namespace Go.Fi
open Go Go.Ab Go.Proofs Go.Shelf Go.Px Go.Cv Go.Cx Go.Ff Go.Fh
open Go.Fx (Ty Vl jbi)
def sm(x:Num)(m:Nat):Prop:=x.2.1.length≤m∧(x.2.1.length:Int)-x.2.2≤m+99∧jbc x.2.1=true
theorem norm_sm{g:Bool}{l:O}{q:Int}{m:Nat}(h:jbc l=true)(hl:l.length≤m)(hq:(l.length:Int)-q≤m+99):sm (jaz g l q) m:=by
 obtain⟨k,e1,e2⟩:=nz_val l;have hk:=jd4 l 48;unfold sm jaz;by_cases h0:nz l=[]
 ·rw[Kd h0];exact⟨by simp,by simp;omega,rfl⟩
 ·rw[Kc h0];refine⟨by simp only;omega,by simp only;omega,nz_digs h⟩
theorem decR_sm{g:Bool}{l:O}{x:Num}{m:Nat}(hl:l.length≤m)(h:decR jaz g l=some x):sm x m:=by
 rw[jj7]at h;cases hd:decE l with
 | none=>rw[hd]at h;cases h
 | some e=>
  rw[hd]at h
  have he: -99≤e∧e≤99:=by
   unfold decE at hd;split at hd
   ·cases hd;omega
   ·exact expZ_r hd
  have h:decB g (Cv.ahead 69 l) e=some x:=h;unfold decB at h;split at h
  ·rename_i q;cases h;have h1:=jej 69 l;have h2:=jej 46 (Cv.ahead 69 l)
   have h3:(Cv.ahead 46 (Cv.ahead 69 l)).length+((past 46 (Cv.ahead 69 l)).getD []).length≤l.length:=by
    rw[jdr];split
    ·rw[Option.getD_some,KE];omega
    ·simp;omega
   refine norm_sm ?_ (by rw[Kk];omega) (by rw[Kk];omega);unfold jbc at*;rw[List.all_append,q.2.1,q.2.2];rfl
  ·cases h
theorem jlp{g:Bool}{l:O}{x:Num}{m:Nat}(hl:l.length≤m)(hm:11≤m)(h:bodR jaz binD g l=some x):sm x m:=by
 unfold bodR at h;split at h
 ·split at h
  ·rename_i q;cases h;have hr:=jmg q.2 (by rw[List.length_dropLast];exact q.1)
   have hn:(binD l.dropLast).length≤11:=by
    rw[binD,decZ,zl,K9];have:=jf0 9 (binG l.dropLast 0).toNat (by omega);omega
   exact norm_sm (jgw 30 _ (by omega)).1 (by omega) (by omega)
  ·cases h
 ·exact decR_sm hl h
theorem rdN_sm{l:O}{x:Num}{m:Nat}(hl:l.length≤m)(hm:11≤m)(h:rdN l=some x):sm x m:=by
 unfold rdN at h;split at h
 ·cases h
 have h1:=jhf (tlZ l 32) 32;have h2:=jd4 l 32;unfold numR at h;rw[jlv,jlu]at h;generalize trZ (tlZ l 32) 32=u at h h1;unfold sgnR at h;split at h
 ·cases h;exact⟨by simp,by simp;omega,rfl⟩
 ·rename_i r _;exact jlp (by simp at h1;omega) hm h
 ·rename_i r _;exact jlp (by simp at h1;omega) hm h
 ·exact jlp (by omega) hm h
theorem digs_tr{l:O}(h:jbc l=true)(c:Int):jbc (trZ l c)=true:=Kf.2 fun d hd=>Kf.1 h d (by
 unfold trZ at hd;exact List.mem_reverse.1 ((Kt _).subset (List.mem_reverse.1 hd)))
theorem scZ_sm{n q:Int}(hn: -2147483648≤n∧n≤2147483648)(hq:0≤q∧q≤9):sm (scZ n q) 60:=by
 have hm:0≤(n.natAbs:Int)∧(n.natAbs:Int)≤2147483648:=by omega
 have hl:=jd9 hm;have ht:=jhf (itoZ (n.natAbs:Int)) 48;unfold scZ;split
 ·exact⟨by simp,by simp,rfl⟩
 ·exact⟨by simp only;omega,by simp only;omega,digs_tr (ito_digs hm).1 _⟩
theorem nm_sm{v:Vl}{t:Ty}(h:fit4 v t=0)(h6:t.k≠6)(hs:v.s.size≤60):sm (nmU v t).1 60:=by
 obtain⟨f1,f2,f3⟩:=jgs h h6;unfold nmU;split
 ·rename_i h12;obtain⟨hv,hn⟩:=f1 h12;exact scZ_sm hn (by have:=Fx.valid_r hv;omega)
 split
 ·rename_i h5;have hr:=jk3 (t:=v.s) h5.2;obtain⟨_,p0,p1,p2⟩:=jdv h5.2;exact scZ_sm (by omega) (by omega)
 split
 ·rename_i h4;obtain⟨hb,hs⟩:=f3 h4;obtain⟨l1,l2⟩:=jiy (bz v.s) 0 hb (by omega);have h64:(2:Int) ^ (bz v.s).length≤2^64:=by exact_mod_cast Nat.pow_le_pow_right (n:=2) (by omega) (show(bz v.s).length≤64 by rw[jak];omega)
  have e64:(2:Int) ^64=18446744073709551616:=rfl
  have hl:=jj6 19 (binG (bz v.s) 0).toNat (by
   have:(10:Nat) ^ (19+1)=100000000000000000000:=rfl;omega)
  have hd:jbc (decZ (binG (bz v.s) 0))=true:=(jgw 19 (binG (bz v.s) 0).toNat (by
   have:(10:Nat) ^ (19+1)=100000000000000000000:=rfl;omega)).1
  have:=jd4 (decZ (binG (bz v.s) 0)) 48;have e:(decZ (binG (bz v.s) 0)).length=(Lib.decDigits (binG (bz v.s) 0).toNat).length:=by simp[decZ,zl]
  exact⟨by simp only;omega,by simp only;omega,jlj hd _⟩
 ·simp only;cases hr:rdN (bz v.s)with
  | none=>exact⟨by simp[num0],by simp[num0],rfl⟩
  | some x=>exact rdN_sm (by rw[jak];omega) (by omega) hr
theorem up_digs{l:O}(h:jbc l=true){k:Nat}(hk:k≤l.length):jbc (upS l k)=true∧(upS l k).length≤k+1:=by
 unfold upS;split
 ·have hd:jbc (48::l.take k)=true:=by
   have:=digs_take h k;unfold jbc at this ⊢;rw[List.all_cons,this];rfl
  obtain⟨L',e,h1,h2,_⟩:=plus_val k (48::l.take k) [] (by simp;omega) hd ⟨48,Kh ..,by decide⟩;rw[KA,KA]at e;rw[e];exact⟨h1,by omega⟩
 ·exact⟨digs_take h k,by rw[Kp];omega⟩
theorem digs_rep(n:Nat):jbc (repZ [48] n)=true:=by
 rw[jda];exact Kf.2 fun c hc=>by rw[Ky hc];rfl
theorem digs_app{a b:O}(ha:jbc a=true)(hb:jbc b=true):jbc (a++b)=true:=by
 unfold jbc at*;rw[List.all_append,ha,hb];rfl
theorem ro_sm{x:Num}(h:sm x 60){b:Int}(hb:0≤b∧b≤9):(roF x.2.1 x.2.2 b).2=true∧(roF x.2.1 x.2.2 b).1.length≤180∧jbc (roF x.2.1 x.2.2 b).1=true:=by
 obtain⟨h1,h2,h3⟩:=h;generalize x.2.1=l at*;generalize x.2.2=c at*;unfold roF;split
 ·by_cases hl:l=[]
  ·subst hl;rw[Kc (by simp)];have e:([]++repZ [48] (min (b-c) 300).toNat).length≤300:=by rw[List.nil_append,jda,Km];omega
   have e2:tlZ ([]++repZ [48] (min (b-c) 300).toNat) 48=[]:=by
    rw[List.nil_append,jda];unfold tlZ
    induction (min (b-c) 300).toNat with
    | zero=>rfl
    | succ k ih=>simp[List.replicate_succ,ih]
   exact⟨jaa (by omega),by simp only[e2];simp,by simp only[e2];rfl⟩
  ·have hll:1≤l.length:=List.length_pos_iff.2 hl;rw[Kc (by omega)];have e:(l++repZ [48] (min (b-c) 300).toNat).length≤170:=by rw[Kk,jda,Km];omega
   have:=jd4 (l++repZ [48] (min (b-c) 300).toNat) 48;exact⟨jaa (by omega),by simp only;omega,jlj (digs_app h3 (digs_rep _)) _⟩
 ·split
  ·exact⟨rfl,by simp,rfl⟩
  ·obtain⟨u1,u2⟩:=up_digs h3 (k:=((l.length:Int)+(b-c)).toNat) (by omega);have:=jd4 (upS l ((l.length:Int)+(b-c)).toNat) 48;exact⟨jaa (by omega),by simp only;omega,jlj u1 _⟩
theorem pad_digs{l:O}(h:jbc l=true)(n:Int):jbc (padN l n)=true:=by
 unfold padN;refine digs_app ?_ h;exact Kf.2 fun c hc=>by rw[Ky hc];rfl
theorem fix_has{s:O}(h:jbc s=true)(hl:s.length≤180)(g:Bool){b:Int}(hb:0≤b∧b≤9):(fixF g s b).length≤200∧ ∃c∈fixF g s b,c≠42∧c≠32:=by
 have hp:=pad_digs h (b+1)
 have h1:1≤(padN s (b+1)).length∧(padN s (b+1)).length≤190:=by
  unfold padN;rw[Kk,Km];omega
 have hpl:(ptZ (padN s (b+1)) b).length≤195∧ ∀c∈padN s (b+1),c∈ptZ (padN s (b+1)) b:=by
  unfold ptZ;split
  ·refine⟨by simp only[Kk,Kp,KE,List.length_cons,List.length_nil];omega,fun c hc=> ?_⟩;rw[←KC ((padN s (b+1)).length-b.toNat) (padN s (b+1))]at hc;rcases Kq.1 hc with hc | hc
   ·exact List.mem_append_left _ (List.mem_append_left _ hc)
   ·exact List.mem_append_right _ hc
  ·exact⟨by omega,fun c hc=>hc⟩
 constructor
 ·unfold fixF;rw[Kk];split<;>simp<;>omega
 ·cases hq:padN s (b+1)with
  | nil=>rw[hq]at h1;simp at h1
  | cons c r=>
   have hc:c∈padN s (b+1):=by rw[hq];exact Kh ..
   have hd:=Kf.1 hp c hc;simp only[dig,jaf,jae]at hd;exact⟨c,List.mem_append_right _ (hpl.2 c hc),by omega,by omega⟩
theorem fx_ok{v:Vl}{t:Ty}(h:fit4 v t=0)(h6:t.k≠6)(hs:v.s.size≤60){b:Int}(hb:0≤b∧b≤9):
  (fxO (nuO v t).1.1 (nuO v t).1.2.1 (nuO v t).1.2.2 b).2=true∧(fxO (nuO v t).1.1 (nuO v t).1.2.1 (nuO v t).1.2.2 b).1.size≤200∧
  ∃c∈bz (fxO (nuO v t).1.1 (nuO v t).1.2.1 (nuO v t).1.2.2 b).1,c≠42∧c≠32:=by
 have hx:=nm_sm h h6 hs;rw[jlz,jm7];obtain⟨r1,r2,r3⟩:=ro_sm hx hb;obtain⟨f1,c,f2,f3⟩:=fix_has r3 r2 (nmU v t).1.1 hb;unfold fxP;rw[r1,cond_true]
 have hB:IsB (fixF (nmU v t).1.1 (roF (nmU v t).1.2.1 (nmU v t).1.2.2 b).1 b):=fixF_isB (fun y hy=>by
  have:=Kf.1 r3 y hy;simp only[dig,jaf,jae]at this;omega) _ _
 refine⟨rfl,by rw[jbu];omega,c,?_,f3⟩;rw[jcs hB];exact f2
end Go.Fi
end
noncomputable section
set_option maxHeartbeats 3200000
set_option maxRecDepth 100000
namespace Go.Fg
open Go Go.Ab Go.Proofs Go.Shelf Go.Px Go.Cv Go.Cx Go.Ff
open Go.Fx (Ty Vl)
attribute [local instance 5000] tabsB
def fcL:List Fo→J
 | []=> []
 | f::r=> .int .i64 f.k:: .int .i64 f.w:: .int .i64 f.d:: .string f.s::fcL r
def fosN:Nat→J→Option (List Fo)
 | 0,_=>some []
 | n+1,.int .i64 k:: .int .i64 w:: .int .i64 d:: .string s::r=>match fosN n r with | some l=>some (⟨k,w,d,s⟩::l) | none=>none
 | _,_=>none
def szF(f:Fo):Bool:=Nat.ble f.s.size 9223372036854775807
theorem foA_ex:∃d:J→Nat→Nat→List Fo,d=fun c off n=>(fosN n (c.drop off)).getD []:=⟨_,rfl⟩
def foA:J→Nat→Nat→List Fo:=Classical.choose foA_ex
theorem foA_eq(c:J)(off n:Nat):foA c off n=(fosN n (c.drop off)).getD []:=by rw[foA,Kn foA_ex]
def foOK(c:J)(off n:Nat):Bool:=(fosN n (c.drop off)).isSome&& (ja1 c&& (foA c off n).all szF)
theorem fcL_plain:∀l:List Fo,ja1 (fcL l)=true
 | []=>rfl
 | f::r=>by simp only[fcL,ja1,plain,fcL_plain r,Bool.and_self]
theorem jlc:∀(l:List Fo)(r:J),fosN l.length (fcL l++r)=some l
 | [],r=>rfl
 | f::l,r=>by simp only[List.length_cons,fcL,List.cons_append,fosN,jlc l r]
theorem jjz:∀{n:Nat}{c:J}{l:List Fo},fosN n c=some l↔l.length=n∧ ∃r,c=fcL l++r
 | 0,c,l=>by
  constructor
  ·intro h;cases h;exact⟨rfl,c,rfl⟩
  ·rintro ⟨h,r,rfl⟩;obtain rfl:=KF.1 h;rfl
 | n+1,c,l=>by
  constructor
  ·intro h;unfold fosN at h;split at h
   ·rename_i hm;cases hm
   ·rename_i m k w d s r hm;cases hm;split at h
    ·rename_i l' hl;cases h;obtain⟨h1,r',rfl⟩:=jjz.1 hl;exact⟨by simp[h1],r',by simp[fcL]⟩
    ·cases h
   ·cases h
  ·rintro ⟨h,r,rfl⟩;rw[←h];exact jlc l r
theorem foOK_iff{c:J}{off n:Nat}:foOK c off n=true↔(foA c off n).length=n∧(∃r,c.drop off=fcL (foA c off n)++r)∧ja1 c=true∧ ∀f∈foA c off n,f.s.size≤9223372036854775807:=by
 simp only[foOK,jaf,Kf,szF,Nat.ble_eq];constructor
 ·rintro ⟨h1,h2,h3⟩;cases hv:fosN n (c.drop off)with
  | none=>rw[hv]at h1;cases h1
  | some l=>
   have e:foA c off n=l:=by simp[foA_eq,hv]
   obtain⟨q1,q2⟩:=jjz.1 hv;rw[e]at h3 ⊢;exact⟨q1,q2,h2,h3⟩
 ·rintro ⟨h1,h2,h3,h4⟩;exact⟨by rw[jjz.2 ⟨h1,h2⟩];rfl,h3,h4⟩
theorem foA_of{c:J}{off:Nat}{l:List Fo}{r:J}(h:c.drop off=fcL l++r):foA c off l.length=l:=by
 rw[foA_eq,h,jlc];rfl
theorem foOK_of{c:J}{off:Nat}{l:List Fo}{r:J}(h:c.drop off=fcL l++r)(hp:ja1 c=true)(hs:∀f∈l,f.s.size≤9223372036854775807):foOK c off l.length=true:=by
 rw[foOK_iff,foA_of h];exact⟨rfl,⟨r,h⟩,hp,hs⟩
theorem foOK_own{l:List Fo}{r:J}(hp:ja1 r=true)(hs:∀f∈l,f.s.size≤9223372036854775807):foOK (fcL l++r) 0 l.length=true:=
 foOK_of (r:=r) (by simp) (ja7.2 fun v hv=>(Kq.1 hv).elim (ja7.1 (fcL_plain l) v) (ja7.1 hp v)) hs
theorem foA_own(l:List Fo)(r:J):foA (fcL l++r) 0 l.length=l:=foA_of (r:=r) (by simp)
theorem fcL_at:∀(l:List Fo)(r:J)(i:Nat)(f:Fo),l[i]?=some f→(fcL l++r)[i*4]?=some (.int .i64 f.k)∧(fcL l++r)[i*4+1]?=some (.int .i64 f.w)∧(fcL l++r)[i*4+2]?=some (.int .i64 f.d)∧(fcL l++r)[i*4+3]?=some (.string f.s)
 | [],_,_,_,h=>by simp at h
 | g::l,r,0,f,h=>by
  cases(by simpa using h:g=f);exact⟨rfl,rfl,rfl,rfl⟩
 | g::l,r,i+1,f,h=>by
  have:=fcL_at l r i f (by simpa using h);rw[show(i+1)*4=i*4+4 by omega,show i*4+4+1=i*4+1+4 by omega,show i*4+4+2=i*4+2+4 by omega,show i*4+4+3=i*4+3+4 by omega];simpa only[fcL,List.cons_append,List.getElem?_cons_succ]using this
theorem jld{c:J}{off n:Nat}(h:foOK c off n=true):(foA c off n).length=n∧ja1 c=true∧ ∀(i:Nat),i<n→ ∃f,(foA c off n)[i]?=some f∧f.s.size≤9223372036854775807∧
  jbg .i64 c (off+i*4)=true∧jbg .i64 c (off+i*4+1)=true∧jbg .i64 c (off+i*4+1+1)=true∧jg4 c (off+i*4+1+1+1)=true∧
  jar c (off+i*4)=f.k∧jar c (off+i*4+1)=f.w∧jar c (off+i*4+1+1)=f.d∧jhl c (off+i*4+1+1+1)=f.s:=by
 obtain⟨h1,⟨r,h2⟩,h3,h4⟩:=foOK_iff.1 h;refine⟨h1,h3,fun i hi=> ?_⟩;obtain⟨f,hf⟩:∃f,(foA c off n)[i]?=some f:=⟨_,Kx (by omega)⟩
 obtain⟨q1,q2,q3,q4⟩:=fcL_at _ r i f hf;rw[←h2,KN]at q1 q2 q3 q4;refine⟨f,hf,h4 f (List.mem_of_getElem? hf),?_⟩;simp only[Nat.add_assoc]at*;simp only[jbg,jg4,jar,jhl,q1,q2,q3,q4,beq_self_eq_true,and_self]
theorem drop_at{l:List Fo}{i:Nat}{f:Fo}(h:l[i]?=some f):l.drop i=f::l.drop (i+1):=by
 obtain⟨hi,rfl⟩:=List.getElem?_eq_some_iff.1 h;exact List.drop_eq_getElem_cons hi
theorem jhr{n:Nat}{c:J}(h:ja1 c=true):jaw n c=true:=by simp[jaw,jao h]
theorem jhz{c:J}{ty:TypeId}{o:Bool}(hp:ja1 c=true):jem [some ⟨c,ty,o⟩]=vw c ty:=by
 funext k
 match k with
 | 0=>simp[jem,jnk,vw,hp]
 | k+1=>rfl
theorem jgh{c:J}{ty:TypeId}{o:Bool}(hp:ja1 c=true):jem [some ⟨c,ty,o⟩,none]=vw c ty:=by
 funext k
 match k with
 | 0=>simp[jem,jnk,vw,hp]
 | 1=>rfl
 | k+2=>rfl
theorem jfw{c:J}{off n:Nat}{x:Bool}(h:(foOK c off n&&x)=true):ja1 c=true:=by
 simp only[jaf]at h;exact(jld h.1).2.1
def ixF(p:Fo→Bool):List Fo→Int→Int
 | [],_=> -1
 | f::r,i=>bif p f then i else ixF p r (i+1)
theorem ixF_any(p:Fo→Bool):∀(l:List Fo)(i:Int),0≤i→(decide (0≤ixF p l i))=l.any p
 | [],_,_=>rfl
 | f::r,i,h=>by
  unfold ixF;cases hp:p f
  ·simp only[cond_false,List.any_cons,hp,Bool.false_or];exact ixF_any p r (i+1) (by omega)
  ·simp[h,hp]
def ixV(p:Fo→Bool)(c:J)(off n:Nat)(i:Int):Int:=ixF p ((foA c off n).drop i.toNat) i
theorem ixV_any(p:Fo→Bool)(c:J)(off n:Nat):(decide (0≤ixV p c off n 0))=(foA c off n).any p:=by
 rw[ixV,Int.toNat_zero,List.drop_zero];exact ixF_any p _ 0 (by omega)
def altS(s s':Ab.Spec):Ab.Spec:=fun a b=>match s a b with | some x=>some x | none=>s' a b
theorem pure_alt{f:FuncId}{s s':Ab.Spec}(h:jan Tryz.prog f s)(h':jan Tryz.prog f s'):jan Tryz.prog f (altS s s'):=
 ⟨h.1, fun args v N w0 lk ι w hr hs hp => by
  simp only[altS]at hs;split at hs
  ·rename_i x he;exact h.2 args v N w0 lk ι w hr (by rw[he,hs]) hp
  ·exact h'.2 args v N w0 lk ι w hr hs hp⟩
def jeo(f:Fo):Bool:=decide (200<(f.s.size:Int))
def pBad(f:Fo):Bool:= !jcj f
theorem ok_F3':ja3 Tryz.prog (Env.nil.add 77 (sp1 Ff.s44)):=jaj jav Ff.ok44
def H0:Env:=Env.nil.add 77 (sp1 Ff.s44)
theorem ok_H0:ja3 Tryz.prog H0:=ok_F3'
def s42(f:Fo):Bool×Value:=(decide (f.s.size≤9223372036854775807),B (jeo f))
theorem v42(f:Fo)(R:Value→Prop):jax Tryz.prog H0 noL Tryz.f71 [Enc.enc f] (fun _=>none) 0 (fun v _ _=>R v)=(R (B (decide ((((Fo.s f).size):Int)>200)))):=by kernel_rfl
theorem ok42:jan Tryz.prog 71 (sp1 s42):=by
 refine jb6 ok_H0 hmix (.m Tryz.func71) jal jag fun f hc=> ?_
 rw[ja4,v42];have hc:(f.s.size≤9223372036854775807):=jab hc
 try dsimp only[s42]
 rfl
def s43(f:Fo):Bool×Value:=(decide (f.s.size≤9223372036854775807),B (pBad f))
theorem v43(f:Fo)(R:Value→Prop):jax Tryz.prog H0 noL Tryz.f76 [Enc.enc f] (fun _=>none) 0 (fun v _ _=>R v)=(bif decide ((Fo.s f).size≤9223372036854775807)then R (B !jcj f)else False):=by kernel_rfl
theorem ok43:jan Tryz.prog 76 (sp1 s43):=by
 refine jb6 ok_H0 hmix (.m Tryz.func76) jal jag fun f hc=> ?_
 rw[ja4,v43];have hc:(f.s.size≤9223372036854775807):=jab hc
 try dsimp only[s43]
 rw[jaa hc,cond_true];rfl
attribute [local instance 5000] tabsB
namespace K42
def H1:Env:=H0.add 71 (sp1 s42)
theorem ok_H1:ja3 Tryz.prog H1:=jaj ok_H0 ok42
def V77_0:J×Nat×Nat×Nat×Nat×Int×Int×Int→J:=fun(c,ty,off,n,cap,r,m,i)=> [.slice (some ⟨0,off,some 1⟩) n cap,.func (.func 71) ⟨[]⟩ ⟨[]⟩,I r,I m,I i]
def B77_0:J×Nat×Nat×Nat×Nat×Int×Int×Int→Ya:=fun(c,ty,off,n,cap,r,m,i)=> [some ⟨c,ty,false⟩]
def S77_0:LSpec (J×Nat×Nat×Nat×Nat×Int×Int×Int) where
 live:=[0,1,4,7,8]
 mid:=[0]
 n:=60
 dec vs bs:=match vs,bs with | [.slice (some ⟨0,off,some 1⟩) n cap,.func (.func 71) ⟨[]⟩ ⟨[]⟩,.int .i64 r,.int .i64 m,.int .i64 i],[some ⟨c,ty,false⟩]=>some (c,ty,off,n,cap,r,m,i) | _,_=>none
 pre:=fun(c,ty,off,n,cap,r,m,i)=>foOK c off n&&decide (n≤1000000∧m=n∧0≤i∧i≤n)
 fin:=fun(c,ty,off,n,cap,r,m,i) Z=>(bif (ixV jeo c off n i)== -1 then Z (.exit 0) [.slice (some ⟨0,off,some 1⟩) n cap,.func (.func 71) ⟨[]⟩ ⟨[]⟩,I r,I m,I n] [some ⟨c,ty,false⟩]else Z .ret [.slice (some ⟨0,off,some 1⟩) n cap,.func (.func 71) ⟨[]⟩ ⟨[]⟩,I (ixV jeo c off n i),I m,I (ixV jeo c off n i)] [some ⟨c,ty,false⟩])
def ma(b:Int)(a:Nat):Nat:=a+b.toNat*4+1
def qj(f:Bool)(g:Exit→J→Ya→Prop)(i:FuncId)(a b k:Int)(d:J)(c e h j:Nat):Prop:=bif bw a b then ja (jbg .i64 d (e+a.toNat*4) && (jbg .i64 d (Fg.K42.ma a e) && (jbg .i64 d (Fg.K42.ma a e+1) && (jg4 d (Fg.K42.ma a e+1+1) &&true)))) a (c:Int) (gv f (jhl d (Fg.K42.ma a e+1+1)) (g .ret (cq 0 e c h::jg i []::ak a::bp b a) [some (.mk d j false)]) (g .normal (cq 0 e c h::jg i []::ak k::ct b a) [some (.mk d j false)])) False else g (.exit 0) (cq 0 e c h::jg i []::ak k::bp b a) [some (.mk d j false)]
def ql(c:Int)(a:J)(b:Nat):Ff.Fo:=Ff.Fo.mk (jar a (b+c.toNat*4)) (jar a (Fg.K42.ma c b)) (jar a (Fg.K42.ma c b+1)) (jhl a (Fg.K42.ma c b+1+1))
theorem r77_0(c:J)(ty:Nat)(off:Nat)(n:Nat)(cap:Nat)(r:Int)(m:Int)(i:Int)(jk:Tmps)(R:Exit→J→Ya→Prop):(jbn Tryz.prog H1 noL Tryz.f120.ntmps (ja2 Tryz.f120 0) (tl S77_0.live (V77_0 (c,ty,off,n,cap,r,m,i)) jk) (ml S77_0.mid (B77_0 (c,ty,off,n,cap,r,m,i))) S77_0.n fun e t' m' _=>R e (List.map t' S77_0.live) (List.map m' S77_0.mid))=(Fg.K42.qj (Fg.jeo (Fg.K42.ql i c off)) R 71 i m r c n off cap ty):=by kernel_rfl
theorem l77_0:LOKf Tryz.prog (oneL 0 S77_0.hQ) Tryz.f120:=by
 refine jbb (h:=S77_0.hQ) (by kernel_rfl) (loop_specV ok_H1 hmix (by kernel_rfl) (ja0 _) S77_0 V77_0 B77_0 (fun(c,ty,off,n,cap,r,m,i)=>(n-i).toNat) ?_ ?_ ?_)
 ·intro vs bs s h;simp only[S77_0]at h;split at h
  all_goals first | (cases h;exact⟨rfl,rfl⟩) | cases h | (split at h<;>first | (rename_i hq;cases h;have hq:=jah hq;subst hq;exact⟨rfl,rfl⟩) | (rename_i hq;cases h;simp only[cnd,jaf,Nat.beq_eq]at hq;obtain⟨rfl,rfl,rfl⟩:=hq;exact⟨rfl,rfl⟩) | cases h)
 ·exact fun k ⟨c,ty,off,n,cap,r,m,i⟩ ⟨c',ty',off',n',cap',r',m',i'⟩ hp h=>by
   simp only[S77_0,jaf]at hp;have hq:=jhr (n:=k) (jld hp.1).2.1;simp_all[V77_0,B77_0,jbs,jaw,idsL,ids]
 ·intro⟨c,ty,off,n,cap,r,m,i⟩ jk Z hp hf;rw[r77_0];delta ak bp jg cq cl ja av cw gv ax az ct Fg.K42.ma bw Fg.K42.qj Fg.K42.ql;simp only[S77_0]at hp hf;simp only[jaf,jae]at hp;obtain⟨ho,h1,rfl,h3,h4⟩:=hp;obtain⟨hl,hpl,hat⟩:=jld ho;rw[ixV]at hf;apply Ka<;>intro h
  ·have h:=jab h;obtain⟨f,hf1,hsz,q1,q2,q3,q4,e1,e2,e3,e4⟩:=hat i.toNat (by omega);have hd:=drop_at hf1;have hi:(i+1).toNat=i.toNat+1:=by omega
   rw[hd,ixF]at hf;rw[q1,q2,q3,q4,e1,e2,e3,e4];refine c_t (jaa (by omega)) (c_t rfl (c_t (jaa hsz) ?_));have hp':jeo ⟨f.k,f.w,f.d,f.s⟩=jeo f:=rfl;rw[hp'];cases hq:jeo f
   ·rw[hq,cond_false]at hf;refine c_f rfl ?_;rw[w64 (n:=i+1) (by omega)];refine⟨(c,ty,off,n,cap,r,n,i+1),rfl,rfl,?_,by simp only;omega,?_⟩
    ·simp only[S77_0,jaf,jae];exact⟨ho,h1,trivial,by omega,by omega⟩
    ·simp only[S77_0,ixV];rw[hi];exact hf
   ·rw[hq,cond_true,show(i== -1)=false by simp;omega]at hf;exact c_t rfl hf
  ·have h:=jac h;obtain rfl:i=n:=by omega
   rw[Int.toNat_natCast,KD (by omega)]at hf;exact hf
def s77n:Ab.Spec:=fun args bs=>match args,bs with
 | [.slice none 0 0,.func (.func 71) ⟨[]⟩ ⟨[]⟩],[none,none]=>some (true,I (-1))
 | _,_=>none
theorem fn77:Fn1 Tryz.prog 120 Tryz.f120:= .m Tryz.func120
theorem v77n_0(R:Value→Prop):jax Tryz.prog H1 noL Tryz.f120 [.slice none 0 0,.func (.func 71) ⟨[]⟩ ⟨[]⟩] (jem [none,none]) 2 (fun v _ _=>R v)=(bif decide (0<natO 0)then False else R (I (-1))):=by kernel_rfl
theorem k77n_0(hc:(true)=true):jb3 Tryz.prog H1 noL Tryz.f120 [.slice none 0 0,.func (.func 71) ⟨[]⟩ ⟨[]⟩] [none,none] 2 (I (-1)):=by
 rw[jb3,v77n_0];rw[jby];rfl
theorem ok77n:jan Tryz.prog 120 s77n:=by
 refine jcl ok_H1 hmix fn77 jal fun args bs v hs=> ?_
 simp only[s77n]at hs;split at hs
 ·simp only[Kb,Ke]at hs;obtain⟨hc,rfl⟩:=hs;exact⟨_,2,rfl,rfl,jag,k77n_0 (by first | rfl | exact hc)⟩
 ·cases hs
def s77w:Ab.Spec:=fun args bs=>match args,bs with
 | [.slice (some ⟨_,off,some 1⟩) n cap,.func (.func 71) ⟨[]⟩ ⟨[]⟩],[some ⟨c,ty,o⟩,none]=>some ((foOK c off n&&decide (n≤1000000)),I (ixV jeo c off n 0))
 | _,_=>none
theorem v77w_0(c:J)(ty:TypeId)(o:Bool)(off:Nat)(n:Nat)(cap:Nat)(R:Value→Prop):jax Tryz.prog H1 (oneL 0 S77_0.hQ) Tryz.f120 [.slice (some ⟨0,off,some 1⟩) n cap,.func (.func 71) ⟨[]⟩ ⟨[]⟩] (vw c ty) 2 (fun v _ _=>R v)=(bif dx c 60 then io (Fg.K42.S77_0.pre (c,(ty,(off,(n,(cap,((0:Int),(natO n,(0:Int))))))))) (Fg.ixV Fg.jeo c off n 0== -(1:Int)) (gy (dx c 60) (I (-1)) R) (gy (dx c 60) (I (Fg.ixV Fg.jeo c off n 0)) R)else False):=by kernel_rfl
theorem k77w_0(c:J)(ty:TypeId)(o:Bool)(off:Nat)(n:Nat)(cap:Nat)(hc:((foOK c off n&&decide (n≤1000000)))=true):jb3 Tryz.prog H1 (oneL 0 S77_0.hQ) Tryz.f120 [.slice (some ⟨0,off,some 1⟩) n cap,.func (.func 71) ⟨[]⟩ ⟨[]⟩] [some ⟨c,ty,o⟩,none] 2 (I (ixV jeo c off n 0)):=by
 rw[jb3,jgh (o:=o) (jfw hc),v77w_0 (o:=o)];delta av io gy dx;rw[jby];simp only[jaf,jae]at hc;obtain⟨ho,hn⟩:=hc;have hi:jaw 60 c=true:=jhr (jld ho).2.1;refine c_t (by simp[hi]) (c_t ?_ ?_)
 ·simp only[S77_0,jaf,jae];exact⟨ho,hn,trivial,by omega,by omega⟩
 ·skip
  apply Ka<;>intro h
  ·rw[eq_of_beq h];exact c_t (by simp[hi]) fun _=>rfl
  ·exact c_t (by simp[hi]) fun _=>rfl
theorem ok77w:jan Tryz.prog 120 s77w:=by
 refine jcl ok_H1 hmix fn77 l77_0 fun args bs v hs=> ?_
 simp only[s77w]at hs;split at hs
 ·simp only[Kb,Ke]at hs;obtain⟨hc,rfl⟩:=hs;exact⟨_,2,rfl,rfl,jag,k77w_0 _ _ _ _ _ _ (by first | rfl | exact hc)⟩
 ·cases hs
def s77:Ab.Spec:=altS s77n s77w
theorem ok77:jan Tryz.prog 120 s77:=pure_alt ok77n ok77w
def H2:Env:=H1.add 120 s77
theorem ok_H2:ja3 Tryz.prog H2:=jaj ok_H1 ok77
def s41:Ab.Spec:=fun args bs=>match args,bs with
 | [.slice none 0 0,.func (.func 71) ⟨[]⟩ ⟨[]⟩],[none,none]=>some (true,B false)
 | [.slice (some ⟨_,off,some 1⟩) n cap,.func (.func 71) ⟨[]⟩ ⟨[]⟩],[some ⟨c,ty,o⟩,none]=>some ((foOK c off n&&decide (n≤1000000)),B ((foA c off n).any jeo))
 | _,_=>none
theorem v41_0(R:Value→Prop):jax Tryz.prog H2 noL Tryz.f70 [.slice none 0 0,.func (.func 71) ⟨[]⟩ ⟨[]⟩] (jem [none,none]) 2 (fun v _ _=>R v)=(R (B (decide (-1≥0)))):=by kernel_rfl
theorem v41_1(c:J)(ty:TypeId)(o:Bool)(off:Nat)(n:Nat)(cap:Nat)(R:Value→Prop):jax Tryz.prog H2 noL Tryz.f70 [.slice (some ⟨0,off,some 1⟩) n cap,.func (.func 71) ⟨[]⟩ ⟨[]⟩] (vw c ty) 2 (fun v _ _=>R v)=(bif foOK c off n&&decide (n≤1000000)then R (B (decide (ixV jeo c off n 0≥0)))else False):=by kernel_rfl
theorem k41_0(hc:(true)=true):jb3 Tryz.prog H2 noL Tryz.f70 [.slice none 0 0,.func (.func 71) ⟨[]⟩ ⟨[]⟩] [none,none] 2 (B false):=by
 rw[jb3,v41_0];rfl
theorem k41_1(c:J)(ty:TypeId)(o:Bool)(off:Nat)(n:Nat)(cap:Nat)(hc:((foOK c off n&&decide (n≤1000000)))=true):jb3 Tryz.prog H2 noL Tryz.f70 [.slice (some ⟨0,off,some 1⟩) n cap,.func (.func 71) ⟨[]⟩ ⟨[]⟩] [some ⟨c,ty,o⟩,none] 2 (B ((foA c off n).any jeo)):=by
 rw[jb3,jgh (o:=o) (jfw hc),v41_1 (o:=o)];refine c_t hc ?_;rw[←ixV_any]
theorem ok41:jan Tryz.prog 70 s41:=by
 refine jcl ok_H2 hmix (.m Tryz.func70) jal fun args bs v hs=> ?_
 simp only[s41]at hs;split at hs
 ·simp only[Kb,Ke]at hs;obtain⟨hc,rfl⟩:=hs;exact⟨_,2,rfl,rfl,jag,k41_0 (by first | rfl | exact hc)⟩
 ·simp only[Kb,Ke]at hs;obtain⟨hc,rfl⟩:=hs;exact⟨_,2,rfl,rfl,jag,k41_1 _ _ _ _ _ _ (by first | rfl | exact hc)⟩
 ·cases hs
def H3:Env:=H2.add 70 s41
theorem ok_H3:ja3 Tryz.prog H3:=jaj ok_H2 ok41
def s11:Ab.Spec:=fun args bs=>match args,bs with
 | [.slice none 0 0],[none]=>some (true,B true)
 | [.slice (some ⟨_,off,some 1⟩) n cap],[some ⟨c,ty,o⟩]=>some ((foOK c off n&&true),B (decide ((n:Int)≤40) && !(foA c off n).any jeo))
 | _,_=>none
theorem v11_0(R:Value→Prop):jax Tryz.prog H3 noL Tryz.f22 [.slice none 0 0] (jem [none]) 1 (fun v _ _=>R v)=(bif decide (natO 0≤40) || true then R (B (decide (natO 0≤40) && !false))else False):=by kernel_rfl
theorem v11_1(c:J)(ty:TypeId)(o:Bool)(off:Nat)(n:Nat)(cap:Nat)(R:Value→Prop):jax Tryz.prog H3 noL Tryz.f22 [.slice (some ⟨0,off,some 1⟩) n cap] (vw c ty) 1 (fun v _ _=>R v)=(np (decide (natO n≤40)) (Fg.foOK c off n&&decide (n≤1000000)) true (!(Fg.foA c off n).any Fg.jeo) R):=by kernel_rfl
theorem k11_0(hc:(true)=true):jb3 Tryz.prog H3 noL Tryz.f22 [.slice none 0 0] [none] 1 (B true):=by
 rw[jb3,v11_0];rw[jby];rfl
theorem k11_1(c:J)(ty:TypeId)(o:Bool)(off:Nat)(n:Nat)(cap:Nat)(hc:((foOK c off n&&true))=true):jb3 Tryz.prog H3 noL Tryz.f22 [.slice (some ⟨0,off,some 1⟩) n cap] [some ⟨c,ty,o⟩] 1 (B (decide ((n:Int)≤40) && !(foA c off n).any jeo)):=by
 rw[jb3,jhz (o:=o) (jfw hc),v11_1 (o:=o)];delta bv np;rw[jby];simp only[jaf,and_true]at hc;rw[hc];refine c_t ?_ rfl;by_cases h:(n:Int)≤40
 ·rw[jaa h];simp;omega
 ·rw[jad h];rfl
theorem ok11:jan Tryz.prog 22 s11:=by
 refine jcl ok_H3 hmix (.m Tryz.func22) jal fun args bs v hs=> ?_
 simp only[s11]at hs;split at hs
 ·simp only[Kb,Ke]at hs;obtain⟨hc,rfl⟩:=hs;exact⟨_,1,rfl,rfl,jag,k11_0 (by first | rfl | exact hc)⟩
 ·simp only[Kb,Ke]at hs;obtain⟨hc,rfl⟩:=hs;exact⟨_,1,rfl,rfl,jag,k11_1 _ _ _ _ _ _ (by first | rfl | exact hc)⟩
 ·cases hs
end K42
attribute [local instance 5000] tabsB
namespace K43
def H1:Env:=H0.add 76 (sp1 s43)
theorem ok_H1:ja3 Tryz.prog H1:=jaj ok_H0 ok43
def V77_0:J×Nat×Nat×Nat×Nat×Int×Int×Int→J:=fun(c,ty,off,n,cap,r,m,i)=> [.slice (some ⟨0,off,some 1⟩) n cap,.func (.func 76) ⟨[]⟩ ⟨[]⟩,I r,I m,I i]
def B77_0:J×Nat×Nat×Nat×Nat×Int×Int×Int→Ya:=fun(c,ty,off,n,cap,r,m,i)=> [some ⟨c,ty,false⟩]
def S77_0:LSpec (J×Nat×Nat×Nat×Nat×Int×Int×Int) where
 live:=[0,1,4,7,8]
 mid:=[0]
 n:=60
 dec vs bs:=match vs,bs with | [.slice (some ⟨0,off,some 1⟩) n cap,.func (.func 76) ⟨[]⟩ ⟨[]⟩,.int .i64 r,.int .i64 m,.int .i64 i],[some ⟨c,ty,false⟩]=>some (c,ty,off,n,cap,r,m,i) | _,_=>none
 pre:=fun(c,ty,off,n,cap,r,m,i)=>foOK c off n&&decide (n≤1000000∧m=n∧0≤i∧i≤n)
 fin:=fun(c,ty,off,n,cap,r,m,i) Z=>(bif (ixV pBad c off n i)== -1 then Z (.exit 0) [.slice (some ⟨0,off,some 1⟩) n cap,.func (.func 76) ⟨[]⟩ ⟨[]⟩,I r,I m,I n] [some ⟨c,ty,false⟩]else Z .ret [.slice (some ⟨0,off,some 1⟩) n cap,.func (.func 76) ⟨[]⟩ ⟨[]⟩,I (ixV pBad c off n i),I m,I (ixV pBad c off n i)] [some ⟨c,ty,false⟩])
theorem r77b_0(c:J)(ty:Nat)(off:Nat)(n:Nat)(cap:Nat)(r:Int)(m:Int)(i:Int)(jk:Tmps)(R:Exit→J→Ya→Prop):(jbn Tryz.prog H1 noL Tryz.f120.ntmps (ja2 Tryz.f120 0) (tl S77_0.live (V77_0 (c,ty,off,n,cap,r,m,i)) jk) (ml S77_0.mid (B77_0 (c,ty,off,n,cap,r,m,i))) S77_0.n fun e t' m' _=>R e (List.map t' S77_0.live) (List.map m' S77_0.mid))=(Fg.K42.qj (Fg.pBad (Fg.K42.ql i c off)) R 76 i m r c n off cap ty):=by kernel_rfl
theorem l77_0:LOKf Tryz.prog (oneL 0 S77_0.hQ) Tryz.f120:=by
 refine jbb (h:=S77_0.hQ) (by kernel_rfl) (loop_specV ok_H1 hmix (by kernel_rfl) (ja0 _) S77_0 V77_0 B77_0 (fun(c,ty,off,n,cap,r,m,i)=>(n-i).toNat) ?_ ?_ ?_)
 ·intro vs bs s h;simp only[S77_0]at h;split at h
  all_goals first | (cases h;exact⟨rfl,rfl⟩) | cases h | (split at h<;>first | (rename_i hq;cases h;have hq:=jah hq;subst hq;exact⟨rfl,rfl⟩) | (rename_i hq;cases h;simp only[cnd,jaf,Nat.beq_eq]at hq;obtain⟨rfl,rfl,rfl⟩:=hq;exact⟨rfl,rfl⟩) | cases h)
 ·exact fun k ⟨c,ty,off,n,cap,r,m,i⟩ ⟨c',ty',off',n',cap',r',m',i'⟩ hp h=>by
   simp only[S77_0,jaf]at hp;have hq:=jhr (n:=k) (jld hp.1).2.1;simp_all[V77_0,B77_0,jbs,jaw,idsL,ids]
 ·intro⟨c,ty,off,n,cap,r,m,i⟩ jk Z hp hf;rw[r77b_0];delta ak bp jg cq cl ja av cw gv ax az ct Fg.K42.ma bw Fg.K42.qj Fg.K42.ql;simp only[S77_0]at hp hf;simp only[jaf,jae]at hp;obtain⟨ho,h1,rfl,h3,h4⟩:=hp;obtain⟨hl,hpl,hat⟩:=jld ho;rw[ixV]at hf;apply Ka<;>intro h
  ·have h:=jab h;obtain⟨f,hf1,hsz,q1,q2,q3,q4,e1,e2,e3,e4⟩:=hat i.toNat (by omega);have hd:=drop_at hf1;have hi:(i+1).toNat=i.toNat+1:=by omega
   rw[hd,ixF]at hf;rw[q1,q2,q3,q4,e1,e2,e3,e4];refine c_t (jaa (by omega)) (c_t rfl (c_t (jaa hsz) ?_));have hp':pBad ⟨f.k,f.w,f.d,f.s⟩=pBad f:=rfl;rw[hp'];cases hq:pBad f
   ·rw[hq,cond_false]at hf;refine c_f rfl ?_;rw[w64 (n:=i+1) (by omega)];refine⟨(c,ty,off,n,cap,r,n,i+1),rfl,rfl,?_,by simp only;omega,?_⟩
    ·simp only[S77_0,jaf,jae];exact⟨ho,h1,trivial,by omega,by omega⟩
    ·simp only[S77_0,ixV];rw[hi];exact hf
   ·rw[hq,cond_true,show(i== -1)=false by simp;omega]at hf;exact c_t rfl hf
  ·have h:=jac h;obtain rfl:i=n:=by omega
   rw[Int.toNat_natCast,KD (by omega)]at hf;exact hf
def s77n:Ab.Spec:=fun args bs=>match args,bs with
 | [.slice none 0 0,.func (.func 76) ⟨[]⟩ ⟨[]⟩],[none,none]=>some (true,I (-1))
 | _,_=>none
theorem fn77:Fn1 Tryz.prog 120 Tryz.f120:= .m Tryz.func120
theorem v77nb_0(R:Value→Prop):jax Tryz.prog H1 noL Tryz.f120 [.slice none 0 0,.func (.func 76) ⟨[]⟩ ⟨[]⟩] (jem [none,none]) 2 (fun v _ _=>R v)=(bif decide (0<natO 0)then False else R (I (-1))):=by kernel_rfl
theorem k77nb_0(hc:(true)=true):jb3 Tryz.prog H1 noL Tryz.f120 [.slice none 0 0,.func (.func 76) ⟨[]⟩ ⟨[]⟩] [none,none] 2 (I (-1)):=by
 rw[jb3,v77nb_0];rw[jby];rfl
theorem ok77n:jan Tryz.prog 120 s77n:=by
 refine jcl ok_H1 hmix fn77 jal fun args bs v hs=> ?_
 simp only[s77n]at hs;split at hs
 ·simp only[Kb,Ke]at hs;obtain⟨hc,rfl⟩:=hs;exact⟨_,2,rfl,rfl,jag,k77nb_0 (by first | rfl | exact hc)⟩
 ·cases hs
def s77w:Ab.Spec:=fun args bs=>match args,bs with
 | [.slice (some ⟨_,off,some 1⟩) n cap,.func (.func 76) ⟨[]⟩ ⟨[]⟩],[some ⟨c,ty,o⟩,none]=>some ((foOK c off n&&decide (n≤1000000)),I (ixV pBad c off n 0))
 | _,_=>none
theorem v77wb_0(c:J)(ty:TypeId)(o:Bool)(off:Nat)(n:Nat)(cap:Nat)(R:Value→Prop):jax Tryz.prog H1 (oneL 0 S77_0.hQ) Tryz.f120 [.slice (some ⟨0,off,some 1⟩) n cap,.func (.func 76) ⟨[]⟩ ⟨[]⟩] (vw c ty) 2 (fun v _ _=>R v)=(bif dx c 60 then io (Fg.K43.S77_0.pre (c,(ty,(off,(n,(cap,((0:Int),(natO n,(0:Int))))))))) (Fg.ixV Fg.pBad c off n 0== -(1:Int)) (gy (dx c 60) (I (-1)) R) (gy (dx c 60) (I (Fg.ixV Fg.pBad c off n 0)) R)else False):=by kernel_rfl
theorem k77wb_0(c:J)(ty:TypeId)(o:Bool)(off:Nat)(n:Nat)(cap:Nat)(hc:((foOK c off n&&decide (n≤1000000)))=true):jb3 Tryz.prog H1 (oneL 0 S77_0.hQ) Tryz.f120 [.slice (some ⟨0,off,some 1⟩) n cap,.func (.func 76) ⟨[]⟩ ⟨[]⟩] [some ⟨c,ty,o⟩,none] 2 (I (ixV pBad c off n 0)):=by
 rw[jb3,jgh (o:=o) (jfw hc),v77wb_0 (o:=o)];delta av io gy dx;rw[jby];simp only[jaf,jae]at hc;obtain⟨ho,hn⟩:=hc;have hi:jaw 60 c=true:=jhr (jld ho).2.1;refine c_t (by simp[hi]) (c_t ?_ ?_)
 ·simp only[S77_0,jaf,jae];exact⟨ho,hn,trivial,by omega,by omega⟩
 ·skip
  apply Ka<;>intro h
  ·rw[eq_of_beq h];exact c_t (by simp[hi]) fun _=>rfl
  ·exact c_t (by simp[hi]) fun _=>rfl
theorem ok77w:jan Tryz.prog 120 s77w:=by
 refine jcl ok_H1 hmix fn77 l77_0 fun args bs v hs=> ?_
 simp only[s77w]at hs;split at hs
 ·simp only[Kb,Ke]at hs;obtain⟨hc,rfl⟩:=hs;exact⟨_,2,rfl,rfl,jag,k77wb_0 _ _ _ _ _ _ (by first | rfl | exact hc)⟩
 ·cases hs
def s77:Ab.Spec:=altS s77n s77w
theorem ok77:jan Tryz.prog 120 s77:=pure_alt ok77n ok77w
def H2:Env:=H1.add 120 s77
theorem ok_H2:ja3 Tryz.prog H2:=jaj ok_H1 ok77
def s41:Ab.Spec:=fun args bs=>match args,bs with
 | [.slice none 0 0,.func (.func 76) ⟨[]⟩ ⟨[]⟩],[none,none]=>some (true,B false)
 | [.slice (some ⟨_,off,some 1⟩) n cap,.func (.func 76) ⟨[]⟩ ⟨[]⟩],[some ⟨c,ty,o⟩,none]=>some ((foOK c off n&&decide (n≤1000000)),B ((foA c off n).any pBad))
 | _,_=>none
theorem v41b_0(R:Value→Prop):jax Tryz.prog H2 noL Tryz.f70 [.slice none 0 0,.func (.func 76) ⟨[]⟩ ⟨[]⟩] (jem [none,none]) 2 (fun v _ _=>R v)=(R (B (decide (-1≥0)))):=by kernel_rfl
theorem v41b_1(c:J)(ty:TypeId)(o:Bool)(off:Nat)(n:Nat)(cap:Nat)(R:Value→Prop):jax Tryz.prog H2 noL Tryz.f70 [.slice (some ⟨0,off,some 1⟩) n cap,.func (.func 76) ⟨[]⟩ ⟨[]⟩] (vw c ty) 2 (fun v _ _=>R v)=(bif foOK c off n&&decide (n≤1000000)then R (B (decide (ixV pBad c off n 0≥0)))else False):=by kernel_rfl
theorem k41b_0(hc:(true)=true):jb3 Tryz.prog H2 noL Tryz.f70 [.slice none 0 0,.func (.func 76) ⟨[]⟩ ⟨[]⟩] [none,none] 2 (B false):=by
 rw[jb3,v41b_0];rfl
theorem k41b_1(c:J)(ty:TypeId)(o:Bool)(off:Nat)(n:Nat)(cap:Nat)(hc:((foOK c off n&&decide (n≤1000000)))=true):jb3 Tryz.prog H2 noL Tryz.f70 [.slice (some ⟨0,off,some 1⟩) n cap,.func (.func 76) ⟨[]⟩ ⟨[]⟩] [some ⟨c,ty,o⟩,none] 2 (B ((foA c off n).any pBad)):=by
 rw[jb3,jgh (o:=o) (jfw hc),v41b_1 (o:=o)];refine c_t hc ?_;rw[←ixV_any]
theorem ok41:jan Tryz.prog 70 s41:=by
 refine jcl ok_H2 hmix (.m Tryz.func70) jal fun args bs v hs=> ?_
 simp only[s41]at hs;split at hs
 ·simp only[Kb,Ke]at hs;obtain⟨hc,rfl⟩:=hs;exact⟨_,2,rfl,rfl,jag,k41b_0 (by first | rfl | exact hc)⟩
 ·simp only[Kb,Ke]at hs;obtain⟨hc,rfl⟩:=hs;exact⟨_,2,rfl,rfl,jag,k41b_1 _ _ _ _ _ _ (by first | rfl | exact hc)⟩
 ·cases hs
def H3:Env:=H2.add 70 s41
theorem ok_H3:ja3 Tryz.prog H3:=jaj ok_H2 ok41
def s12:Ab.Spec:=fun args bs=>match args,bs with
 | [.slice none 0 0],[none]=>some (true,I 0)
 | [.slice (some ⟨_,off,some 1⟩) n cap],[some ⟨c,ty,o⟩]=>some ((foOK c off n&&true),I (bif decide (16<(n:Int)) || (foA c off n).any pBad then 130 else 0))
 | _,_=>none
theorem v12_0(R:Value→Prop):jax Tryz.prog H3 noL Tryz.f24 [.slice none 0 0] (jem [none]) 1 (fun v _ _=>R v)=(bq (decide (natO 0>16)) true (decide (natO 0>16) &&true) (R (ak 130)) (R (ak 0))):=by kernel_rfl
theorem v12_1(c:J)(ty:TypeId)(o:Bool)(off:Nat)(n:Nat)(cap:Nat)(R:Value→Prop):jax Tryz.prog H3 noL Tryz.f24 [.slice (some ⟨0,off,some 1⟩) n cap] (vw c ty) 1 (fun v _ _=>R v)=(bq (decide (natO n>16)) (Fg.foOK c off n&&decide (n≤1000000) &&true) (decide (natO n>16) || (Fg.foA c off n).any Fg.pBad) (R (ak 130)) (R (ak 0))):=by kernel_rfl
theorem k12_0(hc:(true)=true):jb3 Tryz.prog H3 noL Tryz.f24 [.slice none 0 0] [none] 1 (I 0):=by
 rw[jb3,v12_0];delta av bq ak;rw[jby];rfl
theorem k12_1(c:J)(ty:TypeId)(o:Bool)(off:Nat)(n:Nat)(cap:Nat)(hc:((foOK c off n&&true))=true):jb3 Tryz.prog H3 noL Tryz.f24 [.slice (some ⟨0,off,some 1⟩) n cap] [some ⟨c,ty,o⟩] 1 (I (bif decide (16<(n:Int)) || (foA c off n).any pBad then 130 else 0)):=by
 rw[jb3,jhz (o:=o) (jfw hc),v12_1 (o:=o)];delta av bq ak;rw[jby];simp only[jaf,and_true]at hc;rw[hc];refine c_t ?_ (Ka (fun h=> ?_) (fun h=> ?_))
 ·by_cases h:(n:Int)>16
  ·rw[jaa h];rfl
  ·simp;omega
 ·rw[show decide (16<(n:Int))=decide ((n:Int)>16)from rfl,h,cond_true]
 ·rw[show decide (16<(n:Int))=decide ((n:Int)>16)from rfl,h,cond_false]
theorem ok12:jan Tryz.prog 24 s12:=by
 refine jcl ok_H3 hmix (.m Tryz.func24) jal fun args bs v hs=> ?_
 simp only[s12]at hs;split at hs
 ·simp only[Kb,Ke]at hs;obtain⟨hc,rfl⟩:=hs;exact⟨_,1,rfl,rfl,jag,k12_0 (by first | rfl | exact hc)⟩
 ·simp only[Kb,Ke]at hs;obtain⟨hc,rfl⟩:=hs;exact⟨_,1,rfl,rfl,jag,k12_1 _ _ _ _ _ _ (by first | rfl | exact hc)⟩
 ·cases hs
end K43
end Go.Fg
end
noncomputable section
set_option maxHeartbeats 3200000
set_option maxRecDepth 100000
namespace Go.Fi
open Go Go.Ab Go.Proofs Go.Shelf Go.Px Go.Cv Go.Cx Go.Ff Go.Fg Go.Fh
open Go.Fx (Ty Vl)
attribute [local instance 5000] tabsB
def noSt(l:O):O:=l.filter fun c=>decide (c≠42)
def E0:Env:=Env.nil
theorem ok_E0:ja3 Tryz.prog E0:=jav
theorem noSt_cons(c:Int)(l:O):noSt (c::l)=if c=42 then noSt l else c::noSt l:=by
 unfold noSt;rw[List.filter_cons];by_cases h:c=42<;>simp[h]
def V81_0:Y×Y×Rw×Int×Int→J:=fun(s,r,o,L,i)=> [S s,S r,o.v 200,I L,I i]
def B81_0:Y×Y×Rw×Int×Int→Ya:=fun(s,r,o,L,i)=> [o.b]
def S81_0:LSpecA (Y×Y×Rw×Int×Int) where
 live:=[0,2,3,6,7]
 mid:=[200]
 n:=210
 ap:=[(.tmp 3,200)]
 dec vs bs:=match vs,bs with
  | [.string s,.string r,.slice none 0 0,.int .i64 L,.int .i64 i],[none]=>some (s,r,.nil,L,i)
  | [.string s,.string r,.slice (some ⟨200,0,some 1⟩) m cap,.int .i64 L,.int .i64 i],[some ⟨d,5,true⟩]=>some (s,r,.own d m cap,L,i)
  | _,_=>none
 pre:=fun(s,r,o,L,i)=>o.ok&&decide (0≤i∧i≤s.size∧L=s.size∧s.size≤1000000∧(o.is=true→o.z≠ [])∧(o.z.length:Int)≤i)
 fin:=fun(s,r,o,L,i) Z=>(o.is=false→noSt ((bz s).drop i.toNat)=[]→Z (.exit 0) [S s,S r,.slice none 0 0,I L,I L] [none])∧(∀(d':J)(m' cap':Nat),jcp d' m' cap'=true→zc d' m'=o.z++noSt ((bz s).drop i.toNat)→zc d' m'≠ []→Z (.exit 0) [S s,S r,(.slice (some ⟨200,0,some 1⟩) m' cap'),I L,I L] [some ⟨d',5,true⟩])
theorem r81_0n(s:Y)(r:Y)(L:Int)(i:Int)(jk:Tmps)(R:Exit→J→Ya→Prop):(jbn Tryz.prog E0 noL Tryz.f81.ntmps (ja2 Tryz.f81 0) (tl S81_0.live (V81_0 (s,r,.nil,L,i)) jk) (ml S81_0.mid (B81_0 (s,r,.nil,L,i))) S81_0.n fun e t' m' _=>S81_0.out R e t' m')=(bif bw i L then gk (au s i !=42) s i (bif bk s i then∀a:Nat,∀b:J,fu b a 1→og s R [(222,200)] (.int .u8 (au s i)::b) (dp L i 200 1 a) 5 (S r)else False) (R .normal (e9 s r (ct L i) jm) [none])else R (.exit 0) (e9 s r (bp L i) jm) [none]):=by kernel_rfl
theorem r81_0o(s:Y)(r:Y)(d:J)(m:Nat)(cap:Nat)(L:Int)(i:Int)(jk:Tmps)(R:Exit→J→Ya→Prop):(jbn Tryz.prog E0 noL Tryz.f81.ntmps (ja2 Tryz.f81 0) (tl S81_0.live (V81_0 (s,r,.own d m cap,L,i)) jk) (ml S81_0.mid (B81_0 (s,r,.own d m cap,L,i))) S81_0.n fun e t' m' _=>S81_0.out R e t' m')=(dy (bw i L) (bk s i) (f0 d 200 200) (bif au s i !=42 then gk (e8 d cap m 1) s i (∀a:Nat,∀b:J,fu b a (m+1)→og s R [(222,200)] (gz (au s i) .u8 d b m) (cq 200 0 (m+1) a::ct L i) 5 (S r)) False else bm (f0 d 200 200) R [gn d] (S s::S r::dp L i 200 m cap)) (R (.exit 0) (S s::S r::du L i 200 m cap) [gn d])):=by kernel_rfl
theorem l81_0:LOKf Tryz.prog (oneL 0 S81_0.hA) Tryz.f81:=by
 refine jbb (h:=S81_0.hA) (by kernel_rfl) (jbo ok_E0 hmix (by kernel_rfl) (ja0 _) S81_0 V81_0 B81_0 (fun(s,r,o,L,i)=>(L-i).toNat) ?_ ?_ ?_)
 ·intro vs bs s h;simp only[S81_0]at h;split at h
  all_goals first | (cases h;exact⟨rfl,rfl⟩) | cases h | (split at h<;>first | (rename_i hq;cases h;have hq:=jah hq;subst hq;exact⟨rfl,rfl⟩) | (rename_i hq;cases h;simp only[cnd,jaf,Nat.beq_eq]at hq;obtain⟨rfl,rfl,rfl⟩:=hq;exact⟨rfl,rfl⟩) | cases h)
 ·exact fun⟨s,r,o,L,i⟩ hp=>by
   simp only[S81_0,jaf]at hp;cases o with
   | nil=>simp[V81_0,B81_0,S81_0,jaw,jbs,idsL,ids,Rw.v,Rw.b]
   | own d m cap=>simp[V81_0,B81_0,S81_0,jaw,jbs,idsL,ids,Rw.v,Rw.b,jao (jap.1 hp.1).plain]
 ·intro⟨s,r,o,L,i⟩ jk Z hp hf;simp only[S81_0]at hp hf;simp only[jaf,jae]at hp;obtain⟨hr,h0,hle,hL,hs,his,hzi⟩:=hp;subst hL;have hw:i<s.size→IntKind.i64.wrap (i+1)=i+1:=fun h=>w64 (by omega)
  have hin:i<s.size→decide (0≤i∧i<(s.size:Int))=true:=fun h=>jaa (by omega)
  by_cases hlt:i<s.size
  case neg=>
   have hz:(bz s).drop i.toNat=[]:=jck (by omega);have hi:i=s.size:=by omega
   subst hi;rw[hz]at hf;cases o with
   | nil=>
    rw[r81_0n];delta e9 jm ak bp av al bk gk ax az ct bm og cq dp au fu bw;exact c_f (by simp) (hf.1 rfl rfl)
   | own d m cap=>
    have hr:RowP d m cap:=jap.1 hr;rw[r81_0o];delta e7 dy gn ak bp cq du bm ax az ct dp f0 av al bk gk og g9 gz au fu e8 bw;rw[hr.good,hr.rlb];exact c_f (by simp) (c_t rfl (hf.2 d m cap (jap.2 hr) (by simp[Rw.z,noSt]) (his rfl)))
  rw[jca h0 (by omega),noSt_cons]at hf;cases o with
  | nil=>
   rw[r81_0n];delta e9 jm ak bp av al bk gk ax az ct bm og cq dp au fu bw;rw[hw hlt,hin hlt];refine c_t (by simpa using hlt) (c_t rfl (Ka (fun hg=> ?_) (fun hg=> ?_)))
   ·have hg:jai s i.toNat≠42:=by simpa using hg
    rw[Kc hg]at hf;refine c_t rfl (fun cap tail ht=> ?_);obtain⟨g1,g2⟩:=jgc [jai s i.toNat] (tail:=tail) (cap':=cap) ht;have g1:RowP (.int .u8 (jai s i.toNat)::tail) 1 cap:=g1;have g2:zc (.int .u8 (jai s i.toNat)::tail) 1=[jai s i.toNat]:=g2;rw[g1.good,g1.rlb];refine c_t rfl ⟨(s,r,.own _ 1 cap,(s.size:Int),i+1),rfl,rfl,?_,by simp only;omega,?_⟩
    ·simp only[S81_0,jaf,jae];refine⟨jap.2 g1,by omega,by omega,trivial,hs,?_⟩;simp only[Rw.z,g2];exact⟨fun _=>by simp,by simp;omega⟩
    ·simp only[S81_0];refine⟨fun h=>by(simp[Rw.is]at h),fun d' m' cap' q1 q2 q3=>hf.2 d' m' cap' q1 ?_ q3⟩;rw[q2];simp[Rw.z,g2]
   ·have hg:jai s i.toNat=42:=by simpa using hg
    rw[Kd hg]at hf;exact⟨(s,r,.nil,(s.size:Int),i+1),rfl,rfl,by simp only[S81_0,jaf,jae];exact⟨hr,by omega,by omega,trivial,hs,his,by omega⟩,by simp only;omega,hf⟩
  | own d m cap=>
   have hr:RowP d m cap:=jap.1 hr;have hzl:=jbe hr;have hz0:(Rw.own d m cap).z=zc d m:=rfl;rw[hz0]at hf hzi;rw[hzl]at hzi;rw[r81_0o];delta e7 dy gn ak bp cq du bm ax az ct dp f0 av al bk gk og g9 gz au fu e8 bw;rw[hw hlt,hin hlt];refine c_t (by simpa using hlt) (c_t rfl (Ka (fun hg=> ?_) (fun hg=> ?_)))
   ·have hg:jai s i.toNat≠42:=by simpa using hg
    rw[Kc hg]at hf;refine c_t rfl ?_;rw[hr.ask (k:=1) (by omega)];intro cap' tail ht;obtain⟨g1,g2⟩:=hr.app1 (jai s i.toNat) ht;rw[g1.good,g1.rlb];refine c_t rfl ⟨(s,r,.own _ (m+1) cap',(s.size:Int),i+1),rfl,rfl,?_,by simp only;omega,?_⟩
    ·simp only[S81_0,jaf,jae];refine⟨jap.2 g1,by omega,by omega,trivial,hs,?_⟩;simp only[Rw.z,g2];exact⟨fun _=>by simp,by simp;omega⟩
    ·simp only[S81_0];refine⟨fun h=>by(simp[Rw.is]at h),fun d' m' cap' q1 q2 q3=>hf.2 d' m' cap' q1 ?_ q3⟩;rw[q2];simp only[Rw.z,g2];rw[Kz];rfl
   ·have hg:jai s i.toNat=42:=by simpa using hg
    rw[Kd hg]at hf;rw[hr.good,hr.rlb];exact c_t rfl ⟨(s,r,.own d m cap,(s.size:Int),i+1),rfl,rfl,by simp only[S81_0,jaf,jae];exact⟨jap.2 hr,by omega,by omega,trivial,hs,his,by rw[hz0,hzl];omega⟩,by simp only;omega,hf⟩
def s81(s:Y):Bool×Value:=(decide (s.size≤1000000),S (szO (noSt (bz s))))
theorem v81(s:Y)(R:Value→Prop):jax Tryz.prog E0 (oneL 0 S81_0.hA) Tryz.f81 [Enc.enc s] (fun _=>none) 0 (fun v _ _=>R v)=(bif Fi.S81_0.toLSpec.pre (s,(ay,(Rw.nil,(al s,(0:Int)))))then(Rw.is Rw.nil=false→(bu s 0).filter (fun a:Int=>decide (a≠42))=([]:O)→Tmps→R (S ByteArray.empty))∧(∀a:J,∀b:Nat,∀c:Nat,jcp a b c=true→zc a b=Rw.z Rw.nil++Fi.noSt (bu s 0)→zc a b≠([]:O)→li a b R)else False):=by kernel_rfl
theorem ok81:jan Tryz.prog 81 (sp1 s81):=by
 refine jb6 ok_E0 hmix (.m Tryz.func81) l81_0 jag fun s hc=> ?_
 rw[ja4,v81];delta br ko li bu al ay;have hc:(s.size≤1000000):=jab hc
 try dsimp only[s81]
 refine c_t ?_ ⟨fun _ hz _=> ?_,fun d' m' cap' hr hz hne=> ?_⟩
 ·simp only[S81_0,jaf,jae];exact⟨rfl,by omega,by omega,trivial,hc,(fun h=>by cases h),by simp[Rw.z]⟩
 ·have hz:noSt (bz s)=[]:=hz;rw[hz,jdi];rfl
 ·have hr:=jap.1 hr;have hz:zc d' m'=noSt (bz s):=hz;refine c_t (by rw[jba hr.plain];rfl) fun _=>c_t hr.str.1 ?_
  rw[hr.str.2,hz,jcx]
theorem tl_isB{l:O}(h:IsB l)(c:Int):IsB (tlZ l c):=fun d hd=>h d (by unfold tlZ at hd;exact(Kt _).subset hd)
theorem tr_isB{l:O}(h:IsB l)(c:Int):IsB (trZ l c):=fun d hd=>h d (by
 unfold trZ at hd;exact List.mem_reverse.1 ((Kt _).subset (List.mem_reverse.1 hd)))
def stP(s:Y):Bool:=decide (trZ (tlZ (bz s) 32) 32≠ []∧trZ (tlZ (noSt (bz s)) 32) 32=[])
theorem stO_ex:∃d:Y→Bool,d=stP:=⟨_,rfl⟩
def stO:Y→Bool:=Classical.choose stO_ex
theorem jmq:stO=stP:=Kn stO_ex
def E1:Env:=(Env.nil.add 80 (sp1 Cx.s79)).add 81 (sp1 s81)
theorem ok_E1:ja3 Tryz.prog E1:=jaj (jaj jav (pureB Cx.ok79)) ok81
def s27(s:Y):Bool×Value:=(decide (s.size≤1000000),B (stO s))
theorem v27(s:Y)(R:Value→Prop):jax Tryz.prog E1 noL Tryz.f27 [Enc.enc s] (fun _=>none) 0 (fun v _ _=>R v)=(br (cw s&&bv (!j2 (trZ (tlZ (bz s) 32) 32)) (decide (s.size≤1000000) && (cw (szO (Fi.noSt (bz s))) &&true)) true) (B (!j2 (trZ (tlZ (bz s) 32) 32) &&j2 (trZ (tlZ (bz (szO (Fi.noSt (bz s)))) 32) 32))) R):=by kernel_rfl
theorem ok27:jan Tryz.prog 27 (sp1 s27):=by
 refine jb6 ok_E1 hmix (.m Tryz.func27) jal jag fun s hc=> ?_
 rw[ja4,v27];delta br ay j2 bv cw;have hc:(s.size≤1000000):=jab hc
 try dsimp only[s27]
 have hl:(noSt (bz s)).length≤(bz s).length:=List.length_filter_le _ _;rw[jak]at hl;have n1:IsB (noSt (bz s)):=fun c hc=>jdh s c (List.mem_filter.1 hc).1
 rw[jb8,jb8,jcs n1,jcs (tr_isB (tl_isB (jdh s) _) _),jcs (tr_isB (tl_isB n1 _) _),jmq];rw[jaa (show s.size≤9223372036854775807 by omega),jaa hc,jaa (show(szO (noSt (bz s))).size≤9223372036854775807 by rw[jbu];omega)];refine c_t (by cases decide (trZ (tlZ (bz s) 32) 32=[]) <;>rfl) ?_;unfold stP;rw[Bool.decide_and,decide_not]
attribute [local instance 5000] tabsB
def whN(n q:Int):Num:=jaz (decide (n<0)) (itoZ (n.natAbs:Int)) q
def J0:Env:=(Env.nil.add 130 (sp1 Cx.s29)).add 83 (sp3 Cx.s80)
theorem ok_J0:ja3 Tryz.prog J0:=jaj (jaj jav (pureB Cx.ok29)) (pureB Cx.ok80)
def s82w(n:Int)(q:Int):Bool×Value:=(decide (-2147483648≤n∧n≤2147483648∧ -1000≤q∧q≤1000),Cx.numV (whN n q))
theorem v82w(n:Int)(q:Int)(R:Value→Prop):jax Tryz.prog J0 noL Tryz.f82 [Enc.enc n,Enc.enc q] (fun _=>none) 0 (fun v _ _=>R v)=(bif dw n then oo (dt 0 n) q 1000 (cu (lf (dw n) (szO (itoZ (dt 0 n))) q)) R else oo n q 1000 (cu (lf (dw n) (szO (itoZ n)) q)) R):=by kernel_rfl
theorem ok82w:jan Tryz.prog 82 (sp2 s82w):=by
 refine jcz ok_J0 hmix (.m Tryz.func82) jal jag fun n q hc=> ?_
 rw[ja4,v82w];delta e7 ia lj l9 oo cu jw lf dw dt;have hc:(-2147483648≤n∧n≤2147483648∧ -1000≤q∧q≤1000):=jab hc
 try dsimp only[s82w]
 obtain⟨h1,h2,h3,h4⟩:=hc;have hb:∀m:Int,bz (szO (itoZ m))=itoZ m:=fun m=>jcs (jge m)
 have hl:(itoZ (n.natAbs:Int)).length≤10:=jd9 (by omega);unfold whN;apply Ka<;>intro q0
 ·have q0:n<0:=by simpa using q0
  have e:IntKind.i64.wrap (0-n)=(n.natAbs:Int):=by rw[w64 (by omega)];omega
  rw[e];refine c_t (jaa (by omega)) (c_t (jaa ⟨by rw[jbu];omega,by omega,by omega⟩) ?_);rw[hb]
 ·have q0:¬n<0:=by simpa using q0
  have e:(n.natAbs:Int)=n:=by omega
  rw[e]at hl ⊢;refine c_t (jaa (by omega)) (c_t (jaa ⟨by rw[jbu];omega,by omega,by omega⟩) ?_);rw[hb]
def J1:Env:=(((((((Env.nil.add 82 (sp2 s82w)).add 83 (sp3 Cx.s80)).add 84 (sp2 Px.s87)).add 85 (sp1 Cx.s82)).add 86 (sp1 Px.s49)).add 87 (sp2 Px.s23)).add 88 (sp1 Px.s47)).add 89 (sp1 Cx.s25)
def nrP(v:Vl)(t:Ty):Num:=
 if t.k=1 then whN v.n t.q else if t.k=2 then whN v.n 0 else if t.k=4 then jaz false (decZ (binG (bz v.s) 0)) 0
 else if t.k=5∧pN (bz t.s)=true then whN (rdV (bz t.s) (bz v.s)).1 (pQ (bz t.s))else(rdN (bz v.s)).getD num0
theorem nrO_ex:∃d:Vl→Ty→Num,d=nrP:=⟨_,rfl⟩
def nrO:Vl→Ty→Num:=Classical.choose nrO_ex
theorem nrO_eq:nrO=nrP:=Kn nrO_ex
def c28(v:Vl)(t:Ty):Prop:=c75 v t∧fit4 v t=0
instance (v:Vl)(t:Ty):Decidable (c28 v t):=by unfold c28;infer_instance
theorem ok_J1:ja3 Tryz.prog J1:=jaj (jaj (jaj (jaj (jaj (jaj (jaj (jaj jav ok82w) (pureB Cx.ok80)) (pureB Px.ok87)) (pureB Cx.ok82)) (pureB Px.ok49)) (pureB Px.ok23)) (pureB Px.ok47)) (pureB Cx.ok25)
def s28n(v:Vl)(t:Ty):Bool×Value:=(decide (c28 v t),.tuple ⟨[Cx.numV (nrO v t),B (nuO v t).2]⟩)
theorem v28n(v:Vl)(t:Ty)(R:Value→Prop):jax Tryz.prog J1 noL Tryz.f28 [Enc.enc v,Enc.enc t] (fun _=>none) 0 (fun v _ _=>R v)=(qi (jj (-2147483648) (Fx.Vl.n v) 2147483648 (-1000) (Fx.Ty.q t) 1000) (jj (-2147483648) (Fx.Vl.n v) 2147483648 (-1000) 0 1000) t (bif jcn (j5 v) &&decide ((Fx.Vl.s v).size≤64)then oq (cl (binG (j5 v) 0) 18446744073709551616) (jm2 10) false (sz (decZ (binG (j5 v) 0))) 1000 (B true) R else False) (qh true (Fi.whN (kf (Fx.Ty.s t) (Fx.Vl.s v)) (pQ (bz (Fx.Ty.s t)))) t v R) (br (cw (Fx.Vl.s v)) (aq [B (rdN (j5 v)).isSome] (cu (jw ((rdN (j5 v)).getD num0).fst ((rdN (j5 v)).getD num0).snd))) R) (cu (jw (Prod.fst (Fi.whN (Fx.Vl.n v) (Fx.Ty.q t))) (Prod.snd (Fi.whN (Fx.Vl.n v) (Fx.Ty.q t))))) (B true) (cu (jw (Prod.fst (Fi.whN (Fx.Vl.n v) 0)) (Prod.snd (Fi.whN (Fx.Vl.n v) 0)))) R):=by kernel_rfl
theorem ok28n:jan Tryz.prog 28 (sp2 s28n):=by
 refine jcz ok_J1 hmix (.m Tryz.func28) jal jag fun v t hc=> ?_
 rw[ja4,v28n];delta av cw gv dl br aq qi cu jw j5 im nh jj kf qh lf l9 nl oq cl;have hc:(c28 v t):=jab hc
 try dsimp only[s28n]
 obtain⟨⟨h1,h2,h3,h4⟩,hf⟩:=hc;rw[jlz,nrO_eq];unfold nmU nrP;apply Ka<;>intro q1
 ·have q1:t.k=1:=eq_of_beq q1;rw[Kd (Or.inl q1),Kd q1];exact c_t (jaa (h3 (Or.inl q1))) rfl
 have q1:¬t.k=1:=by simpa using q1
 apply Ka<;>intro q2
 ·have q2:t.k=2:=eq_of_beq q2;rw[Kd (Or.inr q2),Kc q1,Kd q2];exact c_t (jaa ⟨(h3 (Or.inr q2)).1,(h3 (Or.inr q2)).2.1,by omega,by omega⟩) rfl
 have q2:¬t.k=2:=by simpa using q2
 rw[Kc q1,Kc q2,Kc (show¬(t.k=1∨t.k=2)by omega)];apply Ka<;>intro q4
 ·have q4:t.k=4:=eq_of_beq q4;obtain⟨hb,hs⟩:=h4 q4;obtain⟨l1,l2⟩:=jiy (bz v.s) 0 hb (by omega);have h64:(2:Int) ^ (bz v.s).length≤2^64:=by exact_mod_cast Nat.pow_le_pow_right (n:=2) (by omega) (show(bz v.s).length≤64 by rw[jak];omega)
  have e64:(2:Int) ^64=18446744073709551616:=rfl
  have hl:=jj6 19 (binG (bz v.s) 0).toNat (by
   have:(10:Nat) ^ (19+1)=100000000000000000000:=rfl;omega)
  have e:(decZ (binG (bz v.s) 0)).length=(Lib.decDigits (binG (bz v.s) 0).toNat).length:=by simp[decZ,zl]
  rw[Kd q4,Kc (show¬(t.k=5∧pN (bz t.s)=true)by omega),Kd q4];refine c_t (by rw[hb,jaa hs];rfl) (c_t (by rw[jaa (by omega)];rfl) (c_t (jaa ⟨by rw[jco];omega,by omega,by omega⟩) ?_));rw[jc7 (jod _)]
 have q4:¬t.k=4:=by simpa using q4
 apply Ka<;>intro q5
 ·have q5:t.k=5:=eq_of_beq q5;refine c_t (jaa h1) (Ka (fun hp=> ?_) (fun hp=> ?_))
  ·have hr:=jk3 (t:=v.s) hp;obtain⟨_,_,p1,p2⟩:=jdv hp;have p3:=(jdv hp).2.1;rw[Kc q4,Kd ⟨q5,hp⟩,Kd ⟨q5,hp⟩];refine c_t (jaa ⟨h1,h2⟩) (c_t (jaa h1) (c_t (jaa (by omega)) ?_))
   have hz:(rdV (bz t.s) (bz v.s)).2=0:=by
    have hi:=(fit0.1 hf).2;unfold is4 at hi;rw[Kc (by omega),Kc (by omega),Kc (by omega),Kd q5]at hi;simp only[jaf,jae]at hi;have hh:=hi.2;rw[ho_rd hp]at hh;exact jab hh
   rw[hz];rfl
  ·have q6:¬(t.k=5∧pN (bz t.s)=true):=fun h=>by rw[hp]at h;cases h.2
   rw[Kc q4,Kc q6,Kc q6,Kc q4];exact c_t (jaa h2) rfl
 have q5:¬t.k=5:=by simpa using q5
 have q6:¬(t.k=5∧pN (bz t.s)=true):=fun h=>q5 h.1
 rw[Kc q4,Kc q6,Kc q6,Kc q4];exact c_t (jaa h2) rfl
end Go.Fi
end
noncomputable section
namespace Go.Cs
open Go Go.Ab Go.Proofs Go.Shelf Go.Px Go.Cx Go.RowKit
class MaxL where
 mx:Int
variable [MaxL]
def rowsC:Nat→Option J:=fun b=>match Nat.beq b 1 with
 | true=>some [.int .i64 MaxL.mx]
 | false=>jmj b
/-- The tables; lengths and characters are computed. -/
instance tabsC:Tabs where
 row:=rowsC
 plain:=fun b r h=>by
  unfold rowsC at h;split at h
  ·cases h;rfl
  ·exact tabs.plain b r h
 conc:=true
 wide:=true
theorem rowsC_of{b:Nat}{r:J}(h:jmj b=some r):rowsC b=some r:=by
 unfold rowsC;split
 ·rename_i hb;obtain rfl:=jah hb;cases h
 ·exact h
theorem tabsIn_T{N:Nat}{w:World}(h: @TabsIn tabsC N w): @TabsIn tabs N w:=fun b r hr=>h b r (rowsC_of hr)
theorem tabsIn_B{N:Nat}{w:World}(h: @TabsIn tabsC N w): @TabsIn Ff.tabsB N w:=fun b r hr=>h b r (rowsC_of hr)
theorem RelM.toT{N:Nat}{w0:World}{m:Lk}{ι:Nm}{w:World}(h: @RelM tabsC N w0 m ι w): @RelM tabs N w0 m ι w:=
 @RelM.mk tabs N w0 m ι w h.below ⟨h.base.1,tabsIn_T h.base.2⟩ h.blk h.view h.inj
theorem RelM.toB{N:Nat}{w0:World}{m:Lk}{ι:Nm}{w:World}(h: @RelM tabsC N w0 m ι w): @RelM Ff.tabsB N w0 m ι w:=
 @RelM.mk Ff.tabsB N w0 m ι w h.below ⟨h.base.1,tabsIn_B h.base.2⟩ h.blk h.view h.inj
theorem RelM.toC{N:Nat}{w0:World}{m:Lk}{ι:Nm}{w:World}(hb: @TabsIn tabsC N w0)(h: @RelM tabs N w0 m ι w): @RelM tabsC N w0 m ι w:=
 @RelM.mk tabsC N w0 m ι w (@RelM.below tabs N w0 m ι w h) ⟨(@RelM.base tabs N w0 m ι w h).1,hb⟩ (@RelM.blk tabs N w0 m ι w h) (@RelM.view tabs N w0 m ι w h) (@RelM.inj tabs N w0 m ι w h)
theorem pureC{f:FuncId}{s:Ab.Spec}(h: @jan tabs Tryz.prog f s): @jan tabsC Tryz.prog f s:=
 ⟨h.1,fun args v N w0 lk ι w hr hs hv=>h.2 args v N w0 lk ι w (RelM.toT hr) hs hv⟩
theorem pureCB{f:FuncId}{s:Ab.Spec}(h: @jan Ff.tabsB Tryz.prog f s): @jan tabsC Tryz.prog f s:=
 ⟨h.1,fun args v N w0 lk ι w hr hs hv=>h.2 args v N w0 lk ι w (RelM.toB hr) hs hv⟩
theorem jjm{f:FuncId}{s:Ab.Spec}(h:jan Tryz.prog f s){l:List (J×Value)}(hl:∀a v,(a,v)∈l→ ∀bs,s a bs=some (true,v)):jan Tryz.prog f (memo l):=
 ⟨h.1,fun args v N w0 lk ι w hr hs hv=>h.2 args v N w0 lk ι w hr (hl _ _ (jgq hs).2 _) hv⟩
def s154(s t:Y):Bool×Value:=(oneB t&&asc (bz t),.string (sz (tlZ (bz s) ((bz t).getD 0 0))))
theorem ok154:jan Tryz.prog 110 (sp2 s154):=by
 have e:s154=Cx.s154:=by funext s t;simp only[s154,Cx.s154,jcx]
 rw[e];exact pureC Cx.ok154
def s131(s t:Y):Bool×Value:=(decide (s.size≤9223372036854775807) && (oneB t&&asc (bz t)),.string (sz (trZ (bz s) ((bz t).getD 0 0))))
theorem ok131:jan Tryz.prog 289 (sp2 s131):=by
 have e:s131=Cx.s131:=by funext s t;simp only[s131,Cx.s131,jcx]
 rw[e];exact pureC Cx.ok131
def s55(s t:Y):Bool×Value:=(decide (s.size≤9223372036854775807) && (decide (t.size≤1000) &&asc (bz t)),.string (sz (jcm (bz s) (bz t))))
theorem ok55:jan Tryz.prog 124 (sp2 s55):=by
 have e:s55=Cx.s55:=by funext s t;simp only[s55,Cx.s55,jcx]
 rw[e];exact pureC Cx.ok55
def s30(s:Y)(n:Int):Bool×Value:=(decide (0≤n∧n≤1000∧s.size≤1000),.string (sz (repZ (bz s) n.toNat)))
theorem ok30:jan Tryz.prog 114 (sp2 s30):=by
 have e:s30=Cx.s30:=by funext s n;simp only[s30,Cx.s30,jcx]
 rw[e];exact pureC Cx.ok30
theorem dec125:Lib.decDigits 125=[49,50,53]:=by
 rw[Lib.decDigits,dif_neg (by decide),Lib.decDigits_two (by decide) (by decide)];rfl
theorem dec150:Lib.decDigits 150=[49,53,48]:=by
 rw[Lib.decDigits,dif_neg (by decide),Lib.decDigits_two (by decide) (by decide)];rfl
theorem dec123:Lib.decDigits 123=[49,50,51]:=by
 rw[Lib.decDigits,dif_neg (by decide),Lib.decDigits_two (by decide) (by decide)];rfl
theorem dec1234:Lib.decDigits 1234=[49,50,51,52]:=by
 rw[Lib.decDigits,dif_neg (by decide),Lib.decDigits,dif_neg (by decide),Lib.decDigits_two (by decide) (by decide)];rfl
theorem dec5:Lib.decDigits 5=[53]:=by
 rw[Lib.decDigits,dif_pos (by decide)];rfl
theorem ito{n:Nat}{l:Yc}(h:Lib.decDigits n=l):Cx.s29 (n:Int)=(decide (-9223372036854775808≤(n:Int)∧(n:Int)≤9223372036854775807),.string ⟨l.toArray⟩):=by
 rw[Cx.s29,jcx,itoZ,Lib.itoa_nonneg,h,jhk]
theorem fmt{n:Nat}{l:Yc}(h:Lib.decDigits n=l):Px.s87 ⟨(n:Int)⟩ 10=(decide (0≤(n:Int)∧(n:Int)<18446744073709551616) &&jm2 10,.string ⟨l.toArray⟩):=by
 show(_,Value.string (sz (zl (Lib.decDigits (n:Int).toNat))))=_;rw[Int.toNat_natCast,h,jhk]
def m29:List (J×Value):=[([.int .i64 125],.string ⟨#[49,50,53]⟩),([.int .i64 150],.string ⟨#[49,53,48]⟩),([.int .i64 5],.string ⟨#[53]⟩),([.int .i64 1234],.string ⟨#[49,50,51,52]⟩)]
theorem jic{α:Type}{p:α→Prop}:∀{l:List α},(l.foldr (fun a q=>p a∧q) True)→ ∀a∈l,p a
 | _::_,h,_,ha=>by
  rcases Kg.1 ha with rfl | ha
  ·exact h.1
  ·exact jic h.2 _ ha
theorem pk29:jan Tryz.prog 130 (memo m29):=jjm (pureC Cx.ok29) fun a v h bs=>by
 have:=jic (p:=fun x:J×Value=>sp1 Cx.s29 x.1 bs=some (true,x.2)) (l:=m29) ⟨congrArg some (ito dec125),congrArg some (ito dec150),congrArg some (ito dec5),congrArg some (ito dec1234),trivial⟩ _ h;exact this
def m81:List (J×Value):=[([.int .u64 123,.int .i64 10],.string ⟨#[49,50,51]⟩)]
theorem pk81:jan Tryz.prog 84 (memo m81):=jjm (pureC Px.ok87) fun a v h bs=>by
 have:=jic (p:=fun x:J×Value=>sp2 Px.s87 x.1 bs=some (true,x.2)) (l:=m81) ⟨congrArg some (fmt dec123),trivial⟩ _ h;exact this
def m180:List (J×Value):=[([.string ⟨#[49,50]⟩],.string ⟨#[48,49,51]⟩),([.string ⟨#[]⟩],.string ⟨#[49]⟩)]
theorem pk180:jan Tryz.prog 241 (memo m180):=jjm (pureCB Ff.ok180) fun a v h bs=>by
 have:=jic (p:=fun x:J×Value=>sp1 Ff.s180 x.1 bs=some (true,x.2)) (l:=m180) ⟨by kernel_rfl,by kernel_rfl,trivial⟩ _ h;exact this
def m118:List (J×Value):=[([.string ⟨#[49,50,53]⟩],.tuple ⟨[.int .i64 125,.nilIface]⟩)]
theorem pk118:jan Tryz.prog 183 (memo m118):=jjm (pureC Px.ok68) fun a v h bs=>by
 have:=jic (p:=fun x:J×Value=>sp1 Px.s68 x.1 bs=some (true,x.2)) (l:=m118) ⟨by kernel_rfl,trivial⟩ _ h;exact this
theorem Tryz.Builder_Extra_155:Builder.Extra Tryz.prog Tryz.lays155_ren:={
 sizeBuilder:=by kernel_rfl
 liesBuilder:=by kernel_rfl
 t5:=Tryz.underlying5
 a5:=Tryz.isAgg5
 z5:=Tryz.sizeOf5
 v5:=Tryz.zeroValue5
 infoByte:=by kernel_rfl
 cellsByte:=by kernel_rfl
 sizeByte:=by kernel_rfl
 neB5:=by decide}
theorem pure_shelfC{P:Program}{f:FuncId}{s:Ab.Spec}(hc:jbt P f)
  (h:∀args bs v,s args bs=some (true,v)→ja1 args=true∧ ∀w,TabsIn w.heap.size w→Calls P f args.toArray w fun e w'=>e= .returned v∧RowKit.Below w.heap.size w w'):jan P f s:=by
 refine⟨hc,fun args v N w0 lk ι w hrel hs hp=> ?_⟩;obtain⟨h1,h2⟩:=h _ _ _ hs;have hren:args.map (ren ι)=args:=by rw[←jb1,jb4 _ h1]
 rw[hren];exact h2 w hrel.tabs
def m93:List (J×Value):=[([.string ⟨#[105,116,39,39,115]⟩,.string ⟨#[39,39]⟩,.string ⟨#[39]⟩],.string ⟨#[105,116,39,115]⟩)]
theorem pk93:jan Tryz.prog 151 (memo m93):=pure_shelfC (cal Tryz.func151 (by kernel_rfl) (by kernel_rfl)) fun args bs v hs=>by
 have hm:(args,v)∈m93:=(jgq hs).2;have hm:=List.mem_singleton.1 hm;cases hm;refine⟨rfl,fun w hw=> ?_⟩;have hc:w.cell? ⟨1,0,none⟩=some (.int .i64 MaxL.mx):=hw.cell (b:=1) rfl (i:=0) rfl;exact(Any.strings_ReplaceAll (ρ:=Tryz.lays155_ren) Tryz.lays155 Tryz.Builder_Extra_155 ⟨#[105,116,39,39,115]⟩ ⟨#[39,39]⟩ ⟨#[39]⟩ MaxL.mx w (by decide) hc (by decide) (by decide)).mono fun e w' ⟨h1,h2⟩=>⟨by rw[h1];kernel_rfl,h2⟩
theorem genC: @jcw tabsC Tryz.prog 168 h100:=by
 obtain⟨h1,h2⟩:= @gen100;refine⟨h1,fun args m n K hh N w0 ι w hrel hwf hargs=> ?_⟩;refine(h2 args m n K hh N w0 ι w (RelM.toT hrel) hwf hargs).mono fun e w' ⟨v,m',n',ι',h⟩=>⟨v,m',n',ι',h.1,h.2.1,h.2.2.1,h.2.2.2.1,RelM.toC hrel.base.2 h.2.2.2.2.1,h.2.2.2.2.2⟩
def S0:Env:=Env.nil.add 110 (sp2 s154) |>.add 289 (sp2 s131) |>.add 124 (sp2 s55) |>.add 114 (sp2 s30) |>.add 130 (memo m29) |>.add 84 (memo m81) |>.add 221 (sp2 Px.s141) |>.add 253 (sp2 Px.s157) |>.add 189 (sp2 s132) |>.add 187 (sp2 s130) |>.add 128 (sp2 s102) |>.add 118 (sp2 s280) |>.add 241 (memo m180) |>.add 183 (memo m118) |>.add 151 (memo m93) |>.addG 168 h100
theorem ok_S0:ja3 Tryz.prog S0:=jau (jaj (jaj (jaj (jaj (jaj (jaj (jaj (jaj (jaj (jaj (jaj (jaj (jaj (jaj (jaj jav ok154) ok131) ok55) ok30) pk29) pk81) (pureC Px.ok141)) (pureC Px.ok157)) (pureC ok132)) (pureC ok130)) (pureC ok102)) (pureC ok280)) pk180) pk118) pk93) genC
end Go.Cs
end
