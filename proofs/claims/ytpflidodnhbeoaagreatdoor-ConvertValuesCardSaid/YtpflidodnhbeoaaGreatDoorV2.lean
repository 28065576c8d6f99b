/-
  Part 2: the run and laws.
-/
import Derived.Test.YtpflidodnhbeoaaGreatDoorV1
set_option linter.unusedVariables false
set_option linter.unusedSimpArgs false
noncomputable section
namespace Go.Px
open Go Go.Ab Go.Proofs
theorem dec_cases{s:Y}{p:Int}(h0:0≤p)(h:p<s.size):(jaj s p.toNat<128→decO s p.toNat=((jaj s p.toNat).toNat,1))∧(128≤jaj s p.toNat→128≤(decO s p.toNat).1∧(decO s p.toNat).1≤2147483647∧1≤(decO s p.toNat).2):=by
 rw[decO_eq];have hs:p.toNat<s.size:=by omega
 have e:jaj s p.toNat=((s[p.toNat]'hs).toNat:Int):=by
  have hl:p.toNat<s.data.toList.length:=by rw[Array.length_toList];exact hs
  simp only[jaj,List.getElem?_eq_getElem hl];rfl
 rw[e];refine⟨fun h=> ?_,fun h=> ?_⟩
 ·rw[decode_ascii s _ hs (by omega)];rfl
 ·have:=decode_high s _ hs (by omega);exact⟨this.1,decode_le s _,this.2⟩
theorem kL_lt{c:Int}(h:hasZ kL c=true):0≤c∧c<128:=by
 have:∀x∈kL,0≤x∧x<128:=by decide
 exact this c (jbm.1 h)
theorem jju:∀(l:J)(n m:Int)(out:J),xpGo l 0 n out=xpGo l 0 m out
 | [],_,_,_=>rfl
 | c::r,n,m,out=>by
  simp only[xpGo];rfl
theorem xp_high{c:Int}(h:128≤c)(r:J)(st n:Int)(out:J):xpGo (c::r) st n out=([],false):=by
 have hu:upZ c=c:=by unfold upZ;rw[if_neg (by omega)]
 have hk:¬hasZ kL c=true:=fun q=>by have:=kL_lt q;omega
 have hd:¬je3 c=true:=fun q=>by have:=jab q;omega
 rw[xpGo];split
 ·rw[if_neg (by omega),if_neg (fun q=>hd q.1)]
 ·rw[if_neg (by omega),if_neg (by omega),hu,if_neg (fun q=>hk q.1)]
theorem dec_step{s:Y}{p:Int}(h0:0≤p)(h:p<s.size):0≤((decO s p.toNat).1:Int)∧((decO s p.toNat).1:Int)≤2147483647∧1≤((decO s p.toNat).2:Int)∧
  ∀st n out,xpGo ((bz s).drop p.toNat) st n out=xpGo (((decO s p.toNat).1:Int)::(bz s).drop (p+((decO s p.toNat).2:Int)).toNat) st n out:=by
 obtain⟨h1,h2⟩:=dec_cases h0 h;have hb:=jfw s p.toNat;by_cases hc:jaj s p.toNat<128
 ·have e:=h1 hc;rw[e];simp only;rw[Int.toNat_of_nonneg hb.1];refine⟨hb.1,by omega,by omega,fun st n out=> ?_⟩;rw[jb4 h0 h];rfl
 ·obtain⟨q1,q2,q3⟩:=h2 (by omega);refine⟨by omega,by omega,by omega,fun st n out=> ?_⟩;rw[jb4 h0 h,xp_high (by omega),xp_high (by omega)]
theorem x1{c st n:Int}{r out:J}(h:st=1)(hc:c=41)(hn:0<n):xpGo (c::r) st n out=xpGo r 2 n out:=by rw[xpGo,if_pos h,if_pos hc,if_pos hn]
theorem x2{c st n:Int}{r out:J}(h:st=1)(hc:c=41)(hn:¬0<n):xpGo (c::r) st n out=([],false):=by rw[xpGo,if_pos h,if_pos hc,if_neg hn]
theorem x34{c st n:Int}{r out:J}(h:st=1)(hc:¬c=41):xpGo (c::r) st n out=if(rpZ n c).2=true then xpGo r 1 (rpZ n c).1 out else([],false):=by
 rw[xpGo,if_pos h,if_neg hc,rpZ];by_cases q:c<48∨c>57∨(n=0∧c=48)
 ·rw[if_pos q,if_neg,if_neg (by simp)];simp only[je3,jae];omega
 ·rw[if_neg q];simp only[je3,jae];by_cases q2:10*n+(c-48)≤32
  ·rw[if_pos (by omega),if_pos q2]
  ·rw[if_neg (by omega),if_neg q2]
theorem rp_rng{n c:Int}(hn:0≤n)(h:(rpZ n c).2=true):0≤(rpZ n c).1∧(rpZ n c).1≤32:=by
 unfold rpZ at h ⊢;split at h
 ·cases h
 ·rename_i q;rw[if_neg q];simp only[jae]at h ⊢;omega
theorem x5{c st n:Int}{r out:J}(h:¬st=1)(hc:c=41∨st=2∧c=40):xpGo (c::r) st n out=([],false):=by rw[xpGo,if_neg h,if_pos hc]
theorem x6{c st n:Int}{r out:J}(h:¬st=1)(hc:¬(c=41∨st=2∧c=40))(h2:c=40):xpGo (c::r) st n out=xpGo r 1 0 out:=by rw[xpGo,if_neg h,if_neg hc,if_pos h2]
theorem x7{c st n:Int}{r out:J}(h:¬st=1)(hc:¬(c=41∨st=2∧c=40))(h2:¬c=40):xpGo (c::r) st n out=if hasZ kL (upZ c)=true∧(out.length:Int)+(if st=2 then n else 1)≤32 then xpGo r 0 0 (out++rep1 (upZ c) (if st=2 then n else 1).toNat)else([],false):=by rw[xpGo,if_neg h,if_neg hc,if_neg h2]
theorem put_gate{u k:Int}{L:Nat}(hu:0≤u∧u≤2147483647)(hk:1≤k∧k≤32)(hL:L≤32):
  (decide (u≥128) || decide (0≤IntKind.wrap IntKind.u8 u∧IntKind.wrap IntKind.u8 u<256) && (decide (idxZ (bz (ByteArray.mk #[57,86,90,42,89,84,73,82,83,43,45,36,44,46,47,66,67,68,65,88])) (IntKind.wrap IntKind.u8 u)<0) || true))=true∧
  (decide (u≥128) || (decide (idxZ (bz (ByteArray.mk #[57,86,90,42,89,84,73,82,83,43,45,36,44,46,47,66,67,68,65,88])) (IntKind.wrap IntKind.u8 u)<0) || decide (IntKind.wrap IntKind.i64 (natO L+k)>32)))= !(decide (hasZ kL u=true∧(L:Int)+k≤32)):=by
 have eb:bz (ByteArray.mk #[57,86,90,42,89,84,73,82,83,43,45,36,44,46,47,66,67,68,65,88])=kL:=by kernel_rfl
 rw[eb,jca,w64 (by omega)];by_cases h:u≥128
 ·have hh:¬(hasZ kL u=true∧(L:Int)+k≤32):=fun q=>by have:=kL_lt q.1;omega
  rw[jaa h,jad hh];exact⟨rfl,rfl⟩
 ·rw[w8 (by omega),jad h,jaa (show 0≤u∧u<256 by omega)];refine⟨by simp,?_⟩;have hi:=jgt u kL;rw[←jbm]at hi;by_cases h1:hasZ kL u=true
  ·rw[h1]at hi ⊢;have hi:=hi.2.2 rfl;rw[jad (show¬idxZ kL u<0 by omega)];by_cases h2:(L:Int)+k≤32
   ·rw[jad (show¬(L:Int)+k>32 by omega),jaa ⟨rfl,h2⟩];rfl
   ·rw[jaa (show(L:Int)+k>32 by omega),jad (fun q=>h2 q.2)];rfl
  ·have hn:idxZ kL u<0:=by
    have:¬0≤idxZ kL u:=fun q=>h1 (hi.2.1 q)
    omega
   rw[jaa hn,jad (show¬(hasZ kL u=true∧(L:Int)+k≤32)from fun q=>h1 q.1)];rfl
theorem ji6{u k:Int}{p:Int}{s:Y}(hu:0≤u∧u≤2147483647)(hk:1≤k∧k≤32){A:Prop}{Q:Nat→Nat→E→Prop}
  (h1:¬(hasZ kL u=true∧((([]:J).length:Nat):Int)+k≤32)→A)
  (h2:hasZ kL u=true∧((([]:J).length:Nat):Int)+k≤32→ ∀d' m' cap',RowP d' m' cap'→zc d' m'=[]++rep1 u k.toNat→Q m' cap' d'):
  bif decide (u≥128) || decide (0≤IntKind.wrap IntKind.u8 u∧IntKind.wrap IntKind.u8 u<256) && (decide (idxZ (bz (ByteArray.mk #[57,86,90,42,89,84,73,82,83,43,45,36,44,46,47,66,67,68,65,88])) (IntKind.wrap IntKind.u8 u)<0) || true)then
   bif decide (u≥128) || (decide (idxZ (bz (ByteArray.mk #[57,86,90,42,89,84,73,82,83,43,45,36,44,46,47,66,67,68,65,88])) (IntKind.wrap IntKind.u8 u)<0) || decide (IntKind.wrap IntKind.i64 (natO 0+k)>32))then A
   else
    bif LSpec.pre (LSpecA.toLSpec S114_0) (Blk.mk [Value.string s,Value.int IntKind.i64 p] 4611686018427387904 true,u,k,Rw.nil,0)then
     ∀(d':E)(m' cap':Nat),jcm d' m' cap'=true→zc d' m'=Rw.z Rw.nil++rep1 u (Int.toNat (k-0))→
      bif ja3 420 d'&&true then∀(_:Tmps),bif jav [(400,200)] d'&&true&&true then Q m' cap' d' else False else False
    else False
  else False:=by
 obtain⟨g1,g2⟩:=put_gate (L:=0) hu hk (by omega);refine c_t g1 ?_;rw[g2];by_cases hq:hasZ kL u=true∧((0:Nat):Int)+k≤32
 ·rw[jaa hq];have hkl:=kL_lt hq.1;refine c_f rfl (c_t ?_ fun d' m' cap' r1 r2=> ?_)
  ·simp only[S114_0,jaf,jae,Rw.ok,Rw.is,Rw.z,List.length_nil,Bool.false_or,true_and,ja8,plain];exact⟨by omega,jaa (by omega)⟩
  ·have r1:=jat.1 r1;refine c_t (by rw[jbj r1.plain];rfl) fun x=>c_t (by rw[r1.good];rfl) ?_
   exact h2 hq d' m' cap' r1 (by rw[r2,Int.sub_zero];rfl)
 ·rw[jad hq];exact c_t rfl (h1 hq)
theorem ji5{u k:Int}{p:Int}{s:Y}{d:E}{m cap:Nat}(hr:RowP d m cap)(hm:m≤32)(hu:0≤u∧u≤2147483647)(hk:1≤k∧k≤32){A:Prop}{Q:Nat→Nat→E→Prop}
  (h1:¬(hasZ kL u=true∧((zc d m).length:Int)+k≤32)→A)
  (h2:hasZ kL u=true∧((zc d m).length:Int)+k≤32→ ∀d' m' cap',RowP d' m' cap'→zc d' m'=zc d m++rep1 u k.toNat→Q m' cap' d'):
  bif decide (u≥128) || decide (0≤IntKind.wrap IntKind.u8 u∧IntKind.wrap IntKind.u8 u<256) && (decide (idxZ (bz (ByteArray.mk #[57,86,90,42,89,84,73,82,83,43,45,36,44,46,47,66,67,68,65,88])) (IntKind.wrap IntKind.u8 u)<0) || true)then
   bif decide (u≥128) || (decide (idxZ (bz (ByteArray.mk #[57,86,90,42,89,84,73,82,83,43,45,36,44,46,47,66,67,68,65,88])) (IntKind.wrap IntKind.u8 u)<0) || decide (IntKind.wrap IntKind.i64 (natO m+k)>32))then
    bif jav [] d&&true&&true then A else False
   else
    bif jav [(200,400)] d&&true&&true&& (ja3 420 d&&true)then
     bif LSpec.pre (LSpecA.toLSpec S114_0) (Blk.mk [Value.string s,Value.int IntKind.i64 p] 4611686018427387904 true,u,k,Rw.own d m cap,0)then
      ∀(d':E)(m' cap':Nat),jcm d' m' cap'=true→zc d' m'=Rw.z (Rw.own d m cap)++rep1 u (Int.toNat (k-0))→
       bif ja3 420 d'&&true then∀(_:Tmps),bif jav [(400,200)] d'&&true&&true then Q m' cap' d' else False else False
     else False
    else False
  else False:=by
 obtain⟨g1,g2⟩:=put_gate (L:=m) hu hk (by omega);rw[jba hr]at h1 h2;have hzl:=jba hr;refine c_t g1 ?_;rw[g2,hr.good,hr.good,jbj hr.plain];by_cases hq:hasZ kL u=true∧(m:Int)+k≤32
 ·rw[jaa hq];have hkl:=kL_lt hq.1;refine c_f rfl (c_t rfl (c_t ?_ fun d' m' cap' r1 r2=> ?_))
  ·simp only[S114_0,jaf,jae,Rw.ok,Rw.is,Rw.z,Bool.true_or,true_and,ja8,plain];exact⟨jat.2 hr,jaa (by omega)⟩
  ·have r1:=jat.1 r1;refine c_t (by rw[jbj r1.plain];rfl) fun x=>c_t (by rw[r1.good];rfl) ?_
   exact h2 hq d' m' cap' r1 (by rw[r2,Int.sub_zero];rfl)
 ·rw[jad hq];exact c_t rfl (c_t rfl (h1 hq))
def V80_0:Y×Bool×Rw×Int×Int×Bool×Y×Int→E:=fun(r,rb,o,st,n,f,s,p)=> [.string r,.bool rb,o.v 200,.int .i64 st,.int .i64 n,.bool f,.pointer (some ⟨7,0,some 0⟩)]
def B80_0:Y×Bool×Rw×Int×Int×Bool×Y×Int→O:=fun(r,rb,o,st,n,f,s,p)=> [some ⟨[.string s,.int .i64 p],itTy,true⟩,o.b]
def S80_0:LSpecA (Y×Bool×Rw×Int×Int×Bool×Y×Int) where
 live:=[2,3,4,5,6,7,11]
 mid:=[7,200]
 n:=210
 ap:=[(.tmp 4,200)]
 dec vs bs:=match vs,bs with
  | [.string r,.bool rb,.slice none 0 0,.int .i64 st,.int .i64 n,.bool f,.pointer (some ⟨7,0,some 0⟩)],[some ⟨[.string s,.int .i64 p],ty,true⟩,none]=>match Nat.beq ty itTy with | true=>some (r,rb,.nil,st,n,f,s,p) | false=>none
  | [.string r,.bool rb,.slice (some ⟨200,0,some 1⟩) m cap,.int .i64 st,.int .i64 n,.bool f,.pointer (some ⟨7,0,some 0⟩)],[some ⟨[.string s,.int .i64 p],ty,true⟩,some ⟨d,5,true⟩]=>match Nat.beq ty itTy with | true=>some (r,rb,.own d m cap,st,n,f,s,p) | false=>none
  | _,_=>none
 pre:=fun(r,rb,o,st,n,f,s,p)=>o.ok&& (f&&decide (0≤p∧s.size≤9223372036854775807∧(st=0∨st=1∨(st=2∧0<n))∧0≤n∧n≤32∧o.z.length≤32))
 fin:=fun(r,rb,o,st,n,f,s,p) Z=>(xpGo ((bz s).drop p.toNat) st n o.z=([],false)→(∀st' n' f' p',Z .ret [.string ⟨#[]⟩,.bool false,.slice none 0 0,.int .i64 st',.int .i64 n',.bool f',.pointer (some ⟨7,0,some 0⟩)] [some ⟨[.string s,.int .i64 p'],itTy,true⟩,none])∧(∀d' m' cap' st' n' f' p',jcm d' m' cap'=true→Z .ret [.string ⟨#[]⟩,.bool false,.slice (some ⟨200,0,some 1⟩) m' cap',.int .i64 st',.int .i64 n',.bool f',.pointer (some ⟨7,0,some 0⟩)] [some ⟨[.string s,.int .i64 p'],itTy,true⟩,some ⟨d',5,true⟩])∧(∀d' st' n' f' p',ja8 d'=true→Z .ret [.string ⟨#[]⟩,.bool false,.slice none 0 0,.int .i64 st',.int .i64 n',.bool f',.pointer (some ⟨7,0,some 0⟩)] [some ⟨[.string s,.int .i64 p'],itTy,true⟩,some ⟨d',5,true⟩]))∧(∀st' n' f' p',xpGo ((bz s).drop p.toNat) st n o.z=([],decide (st'=0))→Z (.exit 0) [.string r,.bool rb,.slice none 0 0,.int .i64 st',.int .i64 n',.bool f',.pointer (some ⟨7,0,some 0⟩)] [some ⟨[.string s,.int .i64 p'],itTy,true⟩,none])∧(∀d' m' cap' st' n' f' p',jcm d' m' cap'=true→xpGo ((bz s).drop p.toNat) st n o.z=(zc d' m',decide (st'=0))→Z (.exit 0) [.string r,.bool rb,.slice (some ⟨200,0,some 1⟩) m' cap',.int .i64 st',.int .i64 n',.bool f',.pointer (some ⟨7,0,some 0⟩)] [some ⟨[.string s,.int .i64 p'],itTy,true⟩,some ⟨d',5,true⟩])
def g8(a:Y)(b:Int):Int:=((decO a b.toNat).fst:Int)
def qc(c:Y)(a b d:Int)(e f g h i:Prop):Prop:=bif a==1 then bif kc 0 b 32 0 (g8 c d) 2147483647 then e else False else i7 (g8 c d==41) (a==2 || true) (g8 c d==41 || a==2&&g8 c d==40) f (bif g8 c d==40 then g else av (a==2) h i)
def qz(a c:Int)(b:Nat):Bool:=e9 a 128 || (b8 (idxZ mf (IntKind.u8.wrap a)) 0 || decide (aw (natO b+c) .i64>32))
def q8(a:Int):Bool:=e9 a 128 || b6 (IntKind.u8.wrap a) 256&& (b8 (idxZ mf (IntKind.u8.wrap a)) 0 || true)
def q9(a:Y)(b c:Int)(d:Nat)(e f g:Prop):Prop:=bif ft (g8 a b) 97 122 then bif q8 (aw (g8 a b-32) .i32)then av (qz (aw (g8 a b-32) .i32) c d) e f else False else bif q8 (g8 a b)then av (qz (g8 a b) c d) e g else False
def lf(a:Y)(b:Int):Blk:= .mk [.string a,.int .i64 (b+((decO a b.toNat).snd:Int))] 4611686018427387904 true
def ph(k:Bool)(d j:Y)(i:Exit→E→O→Prop)(e f g l m:Int)(h:Px.Rw):Prop:=bif S114_0.toLSpec.pre (lf d e,(f,(g,(h,(0:Int)))))then∀a:E,∀b:Nat,∀c:Nat,jcm a b c=true→zc a b=Rw.z h++rep1 f (Int.toNat (g-0))→jr a 420 (bm (gv a 400 200) i [some (lf d e),e8 [(400,200)] a] [.string j,.bool k,bv 200 b c,ak l,ak m,.bool true,aq 7])else False
def m6(c:Bool)(a:Int)(b:Value):E:=[.bool false,jt,ak a,b,.bool c,aq 7]
def rk(g:Bool)(a h:Y)(d:Exit→E→O→Prop)(b c e f:Int):Prop:=bif gx (g8 a b) 97 then q9 a b c 0 (d .ret (cu::m6 false e (ak f)) [some (lf a b),none]) (ph g a h d b (aw (g8 a b-32) .i32) c e f Rw.nil) (ph g a h d b (g8 a b) c e f Rw.nil)else False
def f9(a:Int):Bool:=decide (a>0)
theorem r80_0n(r:Y)(rb:Bool)(st:Int)(n:Int)(f:Bool)(s:Y)(p:Int)(jk:Tmps)(R:Exit→E→O→Prop):(jbp Tryz.prog G17 noL Tryz.f188.ntmps (ja6 Tryz.f188 0) (tl S80_0.live (V80_0 (r,rb,.nil,st,n,f,s,p)) jk) (ml S80_0.mid (B80_0 (r,rb,.nil,st,n,f,s,p))) S80_0.n fun e t' m' _=>S80_0.out R e t' m')=(bif decide (0≤p)then bif dw s p then bw (st==1) true (st==1&&g8 s p==41) (kj (!f9 n) R [some (lf s p),none] (cu::m6 (f9 n) 2 (ak n)) (dt rb r (ak 2::gp (f9 n) n [] (aq 7)) jt)) (qc s st n p (kj (!(rpZ n (g8 s p)).snd) R [some (lf s p),none] (cu::m6 (rpZ n (g8 s p)).snd st (I (rpZ n (g8 s p)).fst)) (dt rb r [ak st,I (rpZ n (g8 s p)).fst,B (rpZ n (g8 s p)).snd,aq 7] jt)) (R .ret (cu::m6 false st (ak n)) [some (lf s p),none]) (kj (!f) R [some (lf s p),none] (cu::m6 f 1 (ak 0)) (dt rb r [ak 1,ak 0,B f,aq 7] jt)) (rk rb s r R p n 0 n) (rk rb s r R p 1 st n))else R (.exit 0) (dt rb r (ak st::gp f n [] (aq 7)) jt) [some (.mk (bk s [] (ak p)) 4611686018427387904 true),none]else False):=by kernel_rfl
def ic(a:E):Bool:=jav [] a&&true&&true
def rm(i:Bool)(a j:Y)(f:Exit→E→O→Prop)(b c g h:Int)(e:E)(d k:Nat):Prop:=bif gx (g8 a b) 97 then q9 a b c d (bif ic e then f .ret (cu::m6 false g (ak h)) [some (lf a b),e8 [] e]else False) (bif gv e 200 400&&gm (rlbL [(200,400)] e) 420 then ph i a j f b (aw (g8 a b-32) .i32) c g h (Rw.own (rlbL [(200,400)] e) d k)else False) (bif gv e 200 400&&gm (rlbL [(200,400)] e) 420 then ph i a j f b (g8 a b) c g h (Rw.own (rlbL [(200,400)] e) d k)else False)else False
def lr(a b:Bool)(c:Exit→E→O→Prop)(i:O)(g m:E)(h:Option Blk)(d e f j k l:Value):Prop:=bif a then bif b then c .ret (d::e::f::g) (h::i)else False else bm b c (h::i) (j::k::l::m)
def qd(a k:Bool)(f j:Y)(c:Exit→E→O→Prop)(d g:Int)(b:E)(h i:Nat)(e:Value):Prop:=lr (!a) (gv b 200 200) c [e8 ij b] [ak d,e,.bool a,aq 7] [ak d,e,.bool a,aq 7] (some (lf f g)) cu (.bool false) (bv 200 h i) (.string j) (.bool k) (bv 200 h i)
theorem r80_0o(r:Y)(rb:Bool)(d:E)(m:Nat)(cap:Nat)(st:Int)(n:Int)(f:Bool)(s:Y)(p:Int)(jk:Tmps)(R:Exit→E→O→Prop):(jbp Tryz.prog G17 noL Tryz.f188.ntmps (ja6 Tryz.f188 0) (tl S80_0.live (V80_0 (r,rb,.own d m cap,st,n,f,s,p)) jk) (ml S80_0.mid (B80_0 (r,rb,.own d m cap,st,n,f,s,p))) S80_0.n fun e t' m' _=>S80_0.out R e t' m')=(bif decide (0≤p)then bif dw s p then bw (st==1) true (st==1&&g8 s p==41) (qd (f9 n) rb s r R 2 p d m cap (ak n)) (qc s st n p (qd (rpZ n (g8 s p)).snd rb s r R st p d m cap (I (rpZ n (g8 s p)).fst)) (bif gv d 200 200 then R .ret (cu::B false::bv 200 m cap::ak st::gp false n [] (aq 7)) [some (lf s p),e8 ij d]else False) (qd f rb s r R 1 p d m cap (ak 0)) (rm rb s r R p n 0 n d m cap) (rm rb s r R p 1 st n d m cap))else fv (gv d 200 200) R [e8 ij d] (bv 200 m cap::ak st::gp f n [] (aq 7)) 0 (some (.mk (bk s [] (ak p)) 4611686018427387904 true)) (S r) (B rb)else False):=by kernel_rfl
theorem l80_0:LOKf Tryz.prog (oneL 0 S80_0.hA) Tryz.f188:=by
 refine jbe (h:=S80_0.hA) (by kernel_rfl) (jbv ok_G17 hmix (by kernel_rfl) (ja1 _) S80_0 V80_0 B80_0 (fun(r,rb,o,st,n,f,s,p)=>(s.size-p).toNat) ?_ ?_ ?_)
 ·intro vs bs s h;simp only[S80_0]at h;split at h
  all_goals first | (cases h;exact⟨rfl,rfl⟩) | cases h | (split at h<;>first | (rename_i hq;cases h;have hq:=jah hq;subst hq;exact⟨rfl,rfl⟩) | cases h)
 ·exact fun⟨r,rb,o,st,n,f,s,p⟩ hp=>by
   simp only[S80_0,jaf]at hp;cases o with
   | nil=>simp[V80_0,B80_0,S80_0,ja3,jb2,idsL,ids,Rw.v,Rw.b]
   | own d m cap=>simp[V80_0,B80_0,S80_0,ja3,jb2,idsL,ids,Rw.v,Rw.b,jaq (jat.1 hp.1).plain]
 ·intro⟨r,rb,o,st,n,f,s,p⟩ jk Z hp hf;simp only[S80_0]at hp hf;cases o with
  | nil=>
   rw[r80_0n];delta bk ak dt jt gp aq av bw i7 g8 kc qc aw b8 mf e9 qz b6 q8 ft q9 gm jr bm bv e8 lf gv ph m6 ao cu gx rk kj f9 am dw;simp only[jaf,jae]at hp;obtain⟨-,rfl,hp⟩:=hp;simp only[Rw.z]at hp hf;refine c_t (jaa hp.1) (cond_intro (fun h=> ?_) (fun h=> ?_))
   ·have h:=jab h;obtain⟨k1,k2,k3,k4⟩:=dec_step hp.1 h;simp only[k4]at hf;clear k4;generalize ((decO s p.toNat).1:Int)=c at k1 k2 hf ⊢;generalize ((decO s p.toNat).2:Int)=k at k3 hf ⊢;have mu:(s.size-(p+k)).toNat<(s.size-p).toNat:=by omega
    refine c_t (by simp) (cond_intro (fun a=> ?_) (fun a=> ?_))
    ·have a:st=1∧c=41:=by simpa using a
     apply cond_intro<;>intro b
     ·have b:¬0<n:=by simpa using b
      exact(hf.1 (x2 a.1 a.2 b)).1 _ _ _ _
     ·have b:0<n:=by simpa using b
      rw[x1 a.1 a.2 b]at hf;rw[jaa b];exact⟨(r,rb,.nil,2,n,true,s,p+k),rfl,rfl,by simp only[S80_0,jaf,jae];exact⟨rfl,trivial,by omega,hp.2.1,.inr (.inr ⟨trivial,b⟩),by omega,by omega,Nat.zero_le _⟩,mu,hf⟩
    ·refine cond_intro (fun b=>c_t (jaa ⟨by omega,by omega,k1,k2⟩) ?_) (fun b=> ?_)
     ·have b:st=1:=by simpa using b
      have a:¬c=41:=fun q=>by rw[b,q]at a;cases a
      rw[x34 b a]at hf;apply cond_intro<;>intro g
      ·have g:(rpZ n c).2=false:=by simpa using g
       rw[if_neg (by rw[g];simp)]at hf;exact(hf.1 rfl).1 _ _ _ _
      ·have g:(rpZ n c).2=true:=by simpa using g
       have gr:=rp_rng hp.2.2.2.1 g;rw[if_pos g]at hf;rw[g,b];exact⟨(r,rb,.nil,1,(rpZ n c).1,true,s,p+k),rfl,rfl,by simp only[S80_0,jaf,jae];exact⟨rfl,trivial,by omega,hp.2.1,.inr (.inl trivial),by omega,by omega,Nat.zero_le _⟩,mu,hf⟩
     ·have b:¬st=1:=by simpa using b
      have hst:st=0∨st=2∧0<n:=by omega
      refine c_t (by simp) (cond_intro (fun g=> ?_) (fun g=> ?_))
      ·have g:c=41∨st=2∧c=40:=by simpa using g
       exact(hf.1 (x5 b g)).1 _ _ _ _
      ·have g:¬(c=41∨st=2∧c=40):=by
        intro q;have:(c==41 || st==2&&c==40)=true:=by simpa using q
        rw[this]at g;cases g
       refine cond_intro (fun q=>c_f rfl (?_)) (fun q=> ?_)
       ·have q:c=40:=by simpa using q
        rw[x6 b g q]at hf;exact⟨(r,rb,.nil,1,0,true,s,p+k),rfl,rfl,by simp only[S80_0,jaf,jae];exact⟨rfl,trivial,by omega,hp.2.1,.inr (.inl trivial),by omega,by omega,Nat.zero_le _⟩,mu,hf⟩
       ·have q:¬c=40:=by simpa using q
        rw[x7 b g q]at hf;apply cond_intro<;>intro v
        ·have v:st=2:=by simpa using v
         rw[if_pos v]at hf;refine c_t (by simp) (cond_intro (fun y=> ?_) (fun y=> ?_))
         ·have y:97≤c∧c≤122:=by simpa using y
          have hu:upZ c=c-32:=by unfold upZ;rw[if_pos y]
          rw[hu]at hf;rw[w32 (by omega)];refine ji6 ?_ ?_ (fun e=> ?_) (fun e d' m' cap' r1 r2=> ?_)
          ·omega
          ·omega
          ·rw[if_neg e]at hf;exact(hf.1 rfl).1 _ _ _ _
          ·rw[r1.rlb];rw[if_pos e,←r2,jju _ 0 n]at hf;have hl:=jba r1;have hl2:=congrArg List.length r2;simp only[List.length_append,rep1,List.length_replicate]at hl2;simp only[List.length_nil]at e hl2;exact⟨(r,rb,.own d' m' cap',0,n,true,s,p+k),rfl,rfl,by simp only[S80_0,jaf,jae];exact⟨jat.2 r1,trivial,by omega,hp.2.1,.inl trivial,hp.2.2.2.1,hp.2.2.2.2.1,by simp only[Rw.z,hl];omega⟩,mu,hf⟩
         ·have y:¬(97≤c∧c≤122):=by
           intro q;have:(decide (c≥97) &&decide (c≤122))=true:=by simpa using q
           rw[this]at y;cases y
          have hu:upZ c=c:=by unfold upZ;rw[if_neg y]
          rw[hu]at hf;refine ji6 ?_ ?_ (fun e=> ?_) (fun e d' m' cap' r1 r2=> ?_)
          ·omega
          ·omega
          ·rw[if_neg e]at hf;exact(hf.1 rfl).1 _ _ _ _
          ·rw[r1.rlb];rw[if_pos e,←r2,jju _ 0 n]at hf;have hl:=jba r1;have hl2:=congrArg List.length r2;simp only[List.length_append,rep1,List.length_replicate]at hl2;simp only[List.length_nil]at e hl2;exact⟨(r,rb,.own d' m' cap',0,n,true,s,p+k),rfl,rfl,by simp only[S80_0,jaf,jae];exact⟨jat.2 r1,trivial,by omega,hp.2.1,.inl trivial,hp.2.2.2.1,hp.2.2.2.2.1,by simp only[Rw.z,hl];omega⟩,mu,hf⟩
        ·have v:¬st=2:=by simpa using v
         have v0:st=0:=by omega
         rw[if_neg v]at hf;refine c_t (by simp) (cond_intro (fun y=> ?_) (fun y=> ?_))
         ·have y:97≤c∧c≤122:=by simpa using y
          have hu:upZ c=c-32:=by unfold upZ;rw[if_pos y]
          rw[hu]at hf;rw[w32 (by omega),v0];refine ji6 ?_ ?_ (fun e=> ?_) (fun e d' m' cap' r1 r2=> ?_)
          ·omega
          ·omega
          ·rw[if_neg e]at hf;exact(hf.1 rfl).1 _ _ _ _
          ·rw[r1.rlb];rw[if_pos e,←r2,jju _ 0 n]at hf;have hl:=jba r1;have hl2:=congrArg List.length r2;simp only[List.length_append,rep1,List.length_replicate]at hl2;simp only[List.length_nil]at e hl2;exact⟨(r,rb,.own d' m' cap',0,n,true,s,p+k),rfl,rfl,by simp only[S80_0,jaf,jae];exact⟨jat.2 r1,trivial,by omega,hp.2.1,.inl trivial,hp.2.2.2.1,hp.2.2.2.2.1,by simp only[Rw.z,hl];omega⟩,mu,hf⟩
         ·have y:¬(97≤c∧c≤122):=by
           intro q;have:(decide (c≥97) &&decide (c≤122))=true:=by simpa using q
           rw[this]at y;cases y
          have hu:upZ c=c:=by unfold upZ;rw[if_neg y]
          rw[hu]at hf;rw[v0];refine ji6 ?_ ?_ (fun e=> ?_) (fun e d' m' cap' r1 r2=> ?_)
          ·omega
          ·omega
          ·rw[if_neg e]at hf;exact(hf.1 rfl).1 _ _ _ _
          ·rw[r1.rlb];rw[if_pos e,←r2,jju _ 0 n]at hf;have hl:=jba r1;have hl2:=congrArg List.length r2;simp only[List.length_append,rep1,List.length_replicate]at hl2;simp only[List.length_nil]at e hl2;exact⟨(r,rb,.own d' m' cap',0,n,true,s,p+k),rfl,rfl,by simp only[S80_0,jaf,jae];exact⟨jat.2 r1,trivial,by omega,hp.2.1,.inl trivial,hp.2.2.2.1,hp.2.2.2.2.1,by simp only[Rw.z,hl];omega⟩,mu,hf⟩
   ·have h:=jac h;rw[jce (by omega)]at hf;exact hf.2.1 st n _ p rfl
  | own d m cap=>
   rw[r80_0o];delta fv bk ak gp aq bv e8 ij gv av bw i7 g8 kc qc aw b8 mf e9 qz b6 q8 ft q9 gm jr bm lf ph jt m6 ao cu ic gx rm lr qd f9 am dw;simp only[jaf,jae]at hp;obtain⟨hR,rfl,hp⟩:=hp;have hr:=jat.1 hR;have hzl:=jba hr;simp only[Rw.z]at hp hf;have hL:(Rw.own d m cap).z.length≤32:=by simp only[Rw.z];exact hp.2.2.2.2.2
   have hm:m≤32:=by have:=hp.2.2.2.2.2;omega
   simp only[hr.rlb];have hg:∀ps,(jav ps d&&true&&true)=true:=fun ps=>by rw[hr.good];rfl
   refine c_t (jaa hp.1) (cond_intro (fun h=> ?_) (fun h=> ?_))
   ·have h:=jab h;obtain⟨k1,k2,k3,k4⟩:=dec_step hp.1 h;simp only[k4]at hf;clear k4;generalize ((decO s p.toNat).1:Int)=c at k1 k2 hf ⊢;generalize ((decO s p.toNat).2:Int)=k at k3 hf ⊢;have mu:(s.size-(p+k)).toNat<(s.size-p).toNat:=by omega
    refine c_t (by simp) (cond_intro (fun a=> ?_) (fun a=> ?_))
    ·have a:st=1∧c=41:=by simpa using a
     refine cond_intro (fun b=>c_t (hg _) ?_) (fun b=>c_t (hg _) ?_)
     ·have b:¬0<n:=by simpa using b
      exact(hf.1 (x2 a.1 a.2 b)).2.1 d m cap _ _ _ _ hR
     ·have b:0<n:=by simpa using b
      rw[x1 a.1 a.2 b]at hf;rw[jaa b];exact⟨(r,rb,.own d m cap,2,n,true,s,p+k),rfl,rfl,by simp only[S80_0,jaf,jae];exact⟨hR,trivial,by omega,hp.2.1,.inr (.inr ⟨trivial,b⟩),by omega,by omega,hL⟩,mu,hf⟩
    ·refine cond_intro (fun b=>c_t (jaa ⟨by omega,by omega,k1,k2⟩) ?_) (fun b=> ?_)
     ·have b:st=1:=by simpa using b
      have a:¬c=41:=fun q=>by rw[b,q]at a;cases a
      rw[x34 b a]at hf;refine cond_intro (fun g=>c_t (hg _) ?_) (fun g=>c_t (hg _) ?_)
      ·have g:(rpZ n c).2=false:=by simpa using g
       rw[if_neg (by rw[g];simp)]at hf;exact(hf.1 rfl).2.1 d m cap _ _ _ _ hR
      ·have g:(rpZ n c).2=true:=by simpa using g
       have gr:=rp_rng hp.2.2.2.1 g;rw[if_pos g]at hf;rw[g,b];exact⟨(r,rb,.own d m cap,1,(rpZ n c).1,true,s,p+k),rfl,rfl,by simp only[S80_0,jaf,jae];exact⟨hR,trivial,by omega,hp.2.1,.inr (.inl trivial),by omega,by omega,hL⟩,mu,hf⟩
     ·have b:¬st=1:=by simpa using b
      have hst:st=0∨st=2∧0<n:=by omega
      refine c_t (by simp) (cond_intro (fun g=>c_t (hg _) ?_) (fun g=> ?_))
      ·have g:c=41∨st=2∧c=40:=by simpa using g
       exact(hf.1 (x5 b g)).2.1 d m cap _ _ _ _ hR
      ·have g:¬(c=41∨st=2∧c=40):=by
        intro q;have:(c==41 || st==2&&c==40)=true:=by simpa using q
        rw[this]at g;cases g
       refine cond_intro (fun q=>c_f rfl (c_t (hg _) ?_)) (fun q=> ?_)
       ·have q:c=40:=by simpa using q
        rw[x6 b g q]at hf;exact⟨(r,rb,.own d m cap,1,0,true,s,p+k),rfl,rfl,by simp only[S80_0,jaf,jae];exact⟨hR,trivial,by omega,hp.2.1,.inr (.inl trivial),by omega,by omega,hL⟩,mu,hf⟩
       ·have q:¬c=40:=by simpa using q
        rw[x7 b g q]at hf;apply cond_intro<;>intro v
        ·have v:st=2:=by simpa using v
         rw[if_pos v]at hf;refine c_t (by simp) (cond_intro (fun y=> ?_) (fun y=> ?_))
         ·have y:97≤c∧c≤122:=by simpa using y
          have hu:upZ c=c-32:=by unfold upZ;rw[if_pos y]
          rw[hu]at hf;rw[w32 (by omega)];refine ji5 hr hm ?_ ?_ (fun e=> ?_) (fun e d' m' cap' r1 r2=> ?_)
          ·omega
          ·omega
          ·rw[if_neg e]at hf;exact(hf.1 rfl).2.2 d _ _ _ _ hr.plain
          ·rw[r1.rlb];rw[if_pos e,←r2,jju _ 0 n]at hf;have hl:=jba r1;have hl2:=congrArg List.length r2;simp only[List.length_append,rep1,List.length_replicate]at hl2;simp only[hzl]at e hl2;exact⟨(r,rb,.own d' m' cap',0,n,true,s,p+k),rfl,rfl,by simp only[S80_0,jaf,jae];exact⟨jat.2 r1,trivial,by omega,hp.2.1,.inl trivial,hp.2.2.2.1,hp.2.2.2.2.1,by simp only[Rw.z,hl];omega⟩,mu,hf⟩
         ·have y:¬(97≤c∧c≤122):=by
           intro q;have:(decide (c≥97) &&decide (c≤122))=true:=by simpa using q
           rw[this]at y;cases y
          have hu:upZ c=c:=by unfold upZ;rw[if_neg y]
          rw[hu]at hf;refine ji5 hr hm ?_ ?_ (fun e=> ?_) (fun e d' m' cap' r1 r2=> ?_)
          ·omega
          ·omega
          ·rw[if_neg e]at hf;exact(hf.1 rfl).2.2 d _ _ _ _ hr.plain
          ·rw[r1.rlb];rw[if_pos e,←r2,jju _ 0 n]at hf;have hl:=jba r1;have hl2:=congrArg List.length r2;simp only[List.length_append,rep1,List.length_replicate]at hl2;simp only[hzl]at e hl2;exact⟨(r,rb,.own d' m' cap',0,n,true,s,p+k),rfl,rfl,by simp only[S80_0,jaf,jae];exact⟨jat.2 r1,trivial,by omega,hp.2.1,.inl trivial,hp.2.2.2.1,hp.2.2.2.2.1,by simp only[Rw.z,hl];omega⟩,mu,hf⟩
        ·have v:¬st=2:=by simpa using v
         have v0:st=0:=by omega
         rw[if_neg v]at hf;refine c_t (by simp) (cond_intro (fun y=> ?_) (fun y=> ?_))
         ·have y:97≤c∧c≤122:=by simpa using y
          have hu:upZ c=c-32:=by unfold upZ;rw[if_pos y]
          rw[hu]at hf;rw[w32 (by omega),v0];refine ji5 hr hm ?_ ?_ (fun e=> ?_) (fun e d' m' cap' r1 r2=> ?_)
          ·omega
          ·omega
          ·rw[if_neg e]at hf;exact(hf.1 rfl).2.2 d _ _ _ _ hr.plain
          ·rw[r1.rlb];rw[if_pos e,←r2,jju _ 0 n]at hf;have hl:=jba r1;have hl2:=congrArg List.length r2;simp only[List.length_append,rep1,List.length_replicate]at hl2;simp only[hzl]at e hl2;exact⟨(r,rb,.own d' m' cap',0,n,true,s,p+k),rfl,rfl,by simp only[S80_0,jaf,jae];exact⟨jat.2 r1,trivial,by omega,hp.2.1,.inl trivial,hp.2.2.2.1,hp.2.2.2.2.1,by simp only[Rw.z,hl];omega⟩,mu,hf⟩
         ·have y:¬(97≤c∧c≤122):=by
           intro q;have:(decide (c≥97) &&decide (c≤122))=true:=by simpa using q
           rw[this]at y;cases y
          have hu:upZ c=c:=by unfold upZ;rw[if_neg y]
          rw[hu]at hf;rw[v0];refine ji5 hr hm ?_ ?_ (fun e=> ?_) (fun e d' m' cap' r1 r2=> ?_)
          ·omega
          ·omega
          ·rw[if_neg e]at hf;exact(hf.1 rfl).2.2 d _ _ _ _ hr.plain
          ·rw[r1.rlb];rw[if_pos e,←r2,jju _ 0 n]at hf;have hl:=jba r1;have hl2:=congrArg List.length r2;simp only[List.length_append,rep1,List.length_replicate]at hl2;simp only[hzl]at e hl2;exact⟨(r,rb,.own d' m' cap',0,n,true,s,p+k),rfl,rfl,by simp only[S80_0,jaf,jae];exact⟨jat.2 r1,trivial,by omega,hp.2.1,.inl trivial,hp.2.2.2.1,hp.2.2.2.2.1,by simp only[Rw.z,hl];omega⟩,mu,hf⟩
   ·have h:=jac h;rw[jce (by omega)]at hf;exact c_t (hg _) (hf.2.2 d m cap st n _ p hR rfl)
def s80(s:Y):Bool×Value:=(decide (s.size≤9223372036854775807),.tuple ⟨[.string (sz (xpGo (bz s) 0 0 []).1),.bool (exOK (bz s))]⟩)
theorem fn80:Fn1 Tryz.prog 188 Tryz.f188:= .m Tryz.func188
def m7(a:Prop):Prop:=Int→Bool→Int→a
def km(b:E)(a:Nat)(c:Prop):Prop:=bif gm b a then Tmps→c else False
theorem v80(s:Y)(R:Value→Prop):jaz Tryz.prog G17 (oneL 0 S80_0.hA) Tryz.f188 [Enc.enc s] (fun _=>none) 0 (fun v _ _=>R v)=(kz (Px.S80_0.toLSpec.pre (ao,(false,(Rw.nil,((0:Int),((0:Int),(true,(s,(0:Int))))))))) (xpGo (cl s) 0 0 (Rw.z Rw.nil)=(([]:J),false)→(Int→m7 (Tmps→R (co (im false) cu)))∧(∀a:E,∀b:Nat,∀c:Nat,Int→m7 (jcm a b c=true→km a 210 (R (co (im false) cu))))∧(∀a:E,Int→m7 (ja8 a=true→km a 210 (R (co (im false) cu))))) ((∀a:Int,m7 (xpGo (cl s) 0 0 (Rw.z Rw.nil)=(([]:J),decide (a=0))→Tmps→ay (a==0 || true) (co (im (a==0&&decide (natO 0>0))) (S (bif a==0 then ByteArray.empty else ByteArray.empty))) R))∧(∀a:E,∀b:Nat,∀c:Nat,∀d:Int,m7 (jcm a b c=true→xpGo (cl s) 0 0 (Rw.z Rw.nil)=(zc a b,decide (d=0))→jr a 210 (ay (jbf a 0 b&& (d==0 || true)) (co (im (d==0&&decide (natO b>0))) (S (bif d==0 then jbb a 0 b else jbb a 0 b))) R))))):=by kernel_rfl
theorem ok80:jam Tryz.prog 188 (sp1 s80):=by
 refine jby ok_G17 hmix fn80 l80_0 jag fun s hc=> ?_
 rw[ja0,v80];delta kz m7 gm jr ay co im cl km ao cu;have hc:(s.size≤9223372036854775807):=jab hc
 try dsimp only[s80]
 refine c_t ?_ ⟨fun h=> ?_,fun st' n' f' p' h x=> ?_,fun d' m' cap' st' n' f' p' hr h=> ?_⟩
 ·simp only[S80_0,Rw.ok,Rw.z,Bool.true_and];exact jaa ⟨by omega,by omega,.inl trivial,by omega,by omega,by simp⟩
 ·have h:xpGo (bz s) 0 0 []=([],false):=h;have e:exOK (bz s)=false:=by simp[exOK,h]
  rw[h,e];exact⟨fun _ _ _ _ _=>rfl,fun d' m' cap' _ _ _ _ hr=>c_t (by rw[jbj (jat.1 hr).plain];rfl) fun _=>rfl,fun d' _ _ _ _ hp=>c_t (by rw[jbj hp];rfl) fun _=>rfl⟩
 ·have h:xpGo (bz s) 0 0 []=([],decide (st'=0)):=h;have e:exOK (bz s)=false:=by simp[exOK,h]
  rw[h,e];refine c_t (by simp) ?_;rw[jca];have e1:(bif st'==0 then ByteArray.empty else ByteArray.empty)=sz []:=by cases st'==0<;>rfl
  have e2:(st'==0&&decide (((0:Nat):Int)>0))=false:=by simp
  rw[e1,e2]
 ·have h:xpGo (bz s) 0 0 []=(zc d' m',decide (st'=0)):=h;have hr:=jat.1 hr;have hl:=jba hr;refine c_t (by rw[jbj hr.plain];rfl) fun x=>c_t (by rw[hr.str.1];simp) ?_
  rw[hr.str.2,jca];have e1:(bif st'==0 then sz (zc d' m')else sz (zc d' m'))=sz (zc d' m'):=by cases st'==0<;>rfl
  have e2:exOK (bz s)=(st'==0&&decide ((m':Int)>0)):=by
   rw[exOK,h];simp only;rw[Bool.eq_iff_iff];simp only[jaf,jae,beq_iff_eq,Bool.not_eq_true',List.isEmpty_eq_false_iff];constructor
   ·rintro ⟨a,b⟩;have:=List.length_pos_iff.2 b;exact⟨a,by omega⟩
   ·rintro ⟨a,b⟩;exact⟨a,fun q=>by rw[q]at hl;simp at hl;omega⟩
  rw[e1,e2,h]
end Go.Px
end
noncomputable section
namespace Go.Px
open Go Go.Ab Go.Proofs Go.Shelf
theorem c280:jbz Tryz.prog 280:=cal Tryz.func280 (by kernel_rfl) (by kernel_rfl)
def jcq:J→Int→Int
 | [],_=> -1
 | b::l,c=>if jcq l c= -1 then(if b=c then 0 else -1)else jcq l c+1
theorem jek(c:Int):∀l:J,(jcq l c= -1∧ ∀j,j<l.length→l.getD j 0≠c)∨(∃i:Nat,i<l.length∧jcq l c=i∧l.getD i 0=c∧ ∀j,i<j→j<l.length→l.getD j 0≠c)
 | []=> .inl ⟨rfl,fun j h=>by simp at h⟩
 | b::l=>by
  rcases jek c l with⟨e,h⟩ | ⟨i,hi,e,hc,h⟩
  ·simp only[jcq,e,if_true];by_cases hb:b=c
   ·rw[if_pos hb];refine .inr ⟨0,by simp,rfl,by simpa using hb,fun j h1 h2=> ?_⟩;obtain⟨j,rfl⟩:∃k,j=k+1:=⟨j-1,by omega⟩
    simpa using h j (by simpa using h2)
   ·rw[if_neg hb];refine .inl ⟨rfl,fun j h1=> ?_⟩;cases j with
    | zero=>simpa using hb
    | succ j=>simpa using h j (by simpa using h1)
  ·simp only[jcq];rw[if_neg (by omega),e];refine .inr ⟨i+1,by simpa using hi,by omega,by simpa using hc,fun j h1 h2=> ?_⟩;obtain⟨j,rfl⟩:∃k,j=k+1:=⟨j-1,by omega⟩
   simpa using h j (by omega) (by simpa using h2)
theorem last_zl(s:Y)(c:Int):Lib.lastIndexByte s c=jcq (bz s) c:=by
 have hd:∀j,j<s.size→((s.data[j]!).toNat:Int)=(bz s).getD j 0:=fun j hj=>by
  have hj':j<s.data.size:=hj;rw[getElem!_pos s.data j hj'];simp only[bz,List.getD_eq_getElem?_getD,List.getElem?_map,Array.getElem?_toList];rw[Array.getElem?_eq_getElem hj'];rfl
 rcases Lib.lastIndexByte_spec s c with⟨e,h⟩ | ⟨i,hi,e,hc,h⟩ <;>rcases jek c (bz s)with⟨e',h'⟩ | ⟨i',hi',e',hc',h'⟩
 ·rw[e,e']
 ·rw[jal]at hi';exact absurd hc' (by rw[←hd i' hi'];exact h i' hi')
 ·rw[hd i hi]at hc;exact absurd hc (h' i (by rw[jal];exact hi))
 ·rw[jal]at hi' h';rw[hd i hi]at hc;rw[e,e'];rcases Nat.lt_trichotomy i i' with q | q | q
  ·exact absurd hc' (by rw[←hd i' hi'];exact h i' q hi')
  ·rw[q]
  ·exact absurd hc (h' i q hi)
theorem ji9(l:J)(c:Int): -1≤jcq l c∧jcq l c<l.length:=by
 rcases jek c l with⟨e,_⟩ | ⟨i,hi,e,_⟩ <;>omega
def s280(s:Y)(c:U8):Bool×Value:=(decide (s.size≤1000),.int .i64 (jcq (bz s) c.n))
theorem ok280:jam Tryz.prog 280 (sp2 s280):=jd8 c280 fun s c hc w _=>by
 refine(Any.strings_LastIndexByte Tryz.lays149 s c.n (by have:s.size≤1000:=jab hc;omega) w).mono fun e w' ⟨h1,h2⟩=>⟨?_,jct h2⟩
 rw[h1,last_zl];rfl
structure VwP (d:E)(m:Nat):Prop where
 bytes:jcg d=true
 len:d.length=m
 rng:IsB (d.map iv)
def vwOK(d:E)(m:Nat):Bool:=jcg d&& (Nat.beq d.length m&& (d.map iv).all fun c=>decide (0≤c∧c<256))
theorem jc0{d:E}{m:Nat}:vwOK d m=true↔VwP d m:=by
 simp only[vwOK,jaf,Nat.beq_eq,List.all_eq_true,jae];exact⟨fun⟨a,b,c⟩=>⟨a,b,c⟩,fun⟨a,b,c⟩=>⟨a,b,c⟩⟩
theorem isBytes_plain{d:E}(h:jcg d=true):ja8 d=true:=by
 rw[←cz_of h];exact jjo _
theorem VwP.plain{d:E}{m:Nat}(h:VwP d m):ja8 d=true:=isBytes_plain h.bytes
theorem jk1(s:Y):VwP (Lib.strCells s) s.size∧zc (Lib.strCells s) s.size=bz s:=by
 rw[strCells_eq]
 have e:(cz (bz s)).map iv=bz s:=by
  rw[cz,List.map_map];have:(iv∘fun n:Int=>Value.int .u8 n)=id:=by funext n;rfl
  rw[this,List.map_id]
 refine⟨⟨jen _,by simp,by rw[e];exact jdq s⟩,?_⟩;rw[zc,List.take_of_length_le (by simp),e]
theorem VwP.zlen{d:E}{m:Nat}(h:VwP d m):(zc d m).length=m:=by
 simp only[zc,List.length_map,List.length_take,h.len];omega
theorem at_bytes:∀{d:E}{j:Nat},jcg d=true→j<d.length→jb1 .u8 d j=true∧jau d j=(d.map iv).getD j 0
 | .int .u8 n::r,0,_,_=>⟨rfl,rfl⟩
 | .int .u8 n::r,j+1,h,hj=>by
  have:=at_bytes (d:=r) (j:=j) (by simpa[jcg]using h) (by simpa using hj);simpa[jb1,jau]using this
theorem VwP.at{d:E}{m:Nat}(h:VwP d m){j:Int}(h0:0≤j)(hj:j<m):jb1 .u8 d j.toNat=true∧(0≤jau d j.toNat∧jau d j.toNat<256)∧(zc d m).drop j.toNat=jau d j.toNat::(zc d m).drop (j+1).toNat:=by
 have hl:=h.len;obtain⟨q1,q2⟩:=at_bytes h.bytes (j:=j.toNat) (by omega);refine⟨q1,?_,?_⟩
 ·rw[q2,List.getD_eq_getElem?_getD];cases hh:(d.map iv)[j.toNat]? with
  | none=>simp
  | some c=>exact h.rng c (List.mem_of_getElem? hh)
 have e:zc d m=d.map iv:=by rw[zc,List.take_of_length_le (by omega)]
 rw[e,q2,jel _ _ (by rw[List.length_map];omega),show(j+1).toNat=j.toNat+1 by omega]
theorem VwP.good{d:E}{m:Nat}(h:VwP d m)(ps:List (Nat×Nat)):(jav ps d&&true&&true)=true:=by rw[goodL_plain h.plain];rfl
theorem VwP.rlb{d:E}{m:Nat}(h:VwP d m)(ps:List (Nat×Nat)):rlbL ps d=d:=rlbL_plain ps h.plain
theorem VwP.end{d:E}{m:Nat}(h:VwP d m){j:Int}(hj:(m:Int)≤j):(zc d m).drop j.toNat=[]:=List.drop_eq_nil_of_le (by rw[h.zlen];omega)
def k5:J:=[44,46,47,66,86]
theorem idx_neg(l:J)(c:Int):decide (idxZ l c<0)= !hasZ l c:=by
 have:=jgt c l;rw[←jbm]at this;cases h:hasZ l c with
 | true=>rw[h]at this;have:=this.2.2 rfl;simp;omega
 | false=>
  rw[h]at this;have:¬0≤idxZ l c:=fun q=>by have:=this.2.1 q;cases this
  simp;omega
theorem ch_at{i:Int}(h0:0≤i)(h:i<4):∃c,jau [Value.int IntKind.u8 36,Value.int IntKind.u8 83,Value.int IntKind.u8 43,Value.int IntKind.u8 45] (0+i.toNat*1)=c∧
  jb1 IntKind.u8 [Value.int IntKind.u8 36,Value.int IntKind.u8 83,Value.int IntKind.u8 43,Value.int IntKind.u8 45] (0+i.toNat*1)=true∧
  oneB (Utf8.encode c)=true∧(bz (Utf8.encode c)).getD 0 0=c∧(0<c∧c<128)∧List.drop i.toNat [36,83,43,45]=c::List.drop (i+1).toNat [36,83,43,45]:=by
 have:i=0∨i=1∨i=2∨i=3:=by omega
 rcases this with rfl | rfl | rfl | rfl
 ·exact⟨36,rfl,rfl,by kernel_rfl,by kernel_rfl,by omega,rfl⟩
 ·exact⟨83,rfl,rfl,by kernel_rfl,by kernel_rfl,by omega,rfl⟩
 ·exact⟨43,rfl,rfl,by kernel_rfl,by kernel_rfl,by omega,rfl⟩
 ·exact⟨45,rfl,rfl,by kernel_rfl,by kernel_rfl,by omega,rfl⟩
theorem jf3(c:Int):∀{l:J},c∈l→0≤idxZ l c∧idxZ l c<l.length
 | b::l,h=>by
  simp only[idxZ];by_cases hb:b=c
  ·rw[if_pos hb];simp only[List.length_cons];omega
  ·rw[if_neg hb];have:=jf3 c (l:=l) (by rcases List.mem_cons.1 h with q | q;exact absurd q.symm hb;exact q);rw[if_neg (by omega)];simp only[List.length_cons];omega
theorem jjb(c:Int):∀{l:J},c∈l→idxZ l c≤jcq l c
 | b::l,h=>by
  simp only[idxZ,jcq];have:=ji9 l c;by_cases hl:c∈l
  ·have ih:=jjb c hl;have i1:=jf3 c hl;rw[if_neg (show¬jcq l c= -1 by omega)];split
   ·omega
   ·split<;>omega
  ·have hb:b=c:=by rcases List.mem_cons.1 h with q | q;exact q.symm;exact absurd q hl
   rw[if_pos hb,if_pos hb];split<;>omega
theorem jjp{l:J}{c:Int}(h:¬(cntZ l c:Int)<2):c∈l:=by
 have:0<cntZ l c:=by omega
 unfold cntZ at this;obtain⟨x,hx⟩:=List.exists_mem_of_length_pos this;obtain⟨h1,h2⟩:=List.mem_filter.1 hx;exact eq_of_beq h2▸h1
def drP(c:Int)(l:J):Bool:=l.all fun x=>x==c || hasZ k5 x
def drC(b:J)(c:Int):Bool:= !hasZ (b.take (idxZ b c).toNat) 86&&drP c ((b.take (jcq b c+1).toNat).drop (idxZ b c).toNat)
def je5:J→J→Int→Int→Bool×Int×Int
 | [],_,d,f=>(true,d,f)
 | c::r,b,d,f=>bif decide ((cntZ b c:Int)<2)then je5 r b d f else bif d !=0 then(false,0,0)else bif drC b c then je5 r b c (idxZ b c)else(false,0,0)
def G20:Env:=(((Env.nil.add 272 (sp2 s141)).add 279 (sp2 s157)).add 129 (sp2 s132)).add 280 (sp2 s280)
theorem ok_G20:jaw Tryz.prog G20:=jai (jai (jai (jai jap ok141) ok157) ok132) ok280
def V131_2:Y×Bool×Int×Int×Int×Y×Int×Int×Bool×E×Nat×Nat×Int×Int→E:=fun(b,r,c,L4,i,s,dr,f,cr,d,m,cap,L,j)=> [.pointer (some ⟨3,0,some 0⟩),S b,B r,C8 c,.slice (some ⟨300,0,some 1⟩) 4 4,I L4,I i,.slice (some ⟨390,0,some 1⟩) m cap,I L,I j]
def B131_2:Y×Bool×Int×Int×Int×Y×Int×Int×Bool×E×Nat×Nat×Int×Int→O:=fun(b,r,c,L4,i,s,dr,f,cr,d,m,cap,L,j)=> [some ⟨[S s,B true,I 0,I 0,I 0,B false,.slice none 0 0,C8 dr,I f,B cr,C8 32,I 0],156,true⟩,some ⟨[C8 36,C8 83,C8 43,C8 45],5,false⟩,some ⟨d,5,false⟩]
def S131_2:LSpecA (Y×Bool×Int×Int×Int×Y×Int×Int×Bool×E×Nat×Nat×Int×Int) where
 live:=[0,1,4,6,14,15,16,58,59,60]
 mid:=[3,300,390]
 n:=400
 ap:=[(.tmp 58,390)]
 dec vs bs:=match vs,bs with | [.pointer (some ⟨3,0,some 0⟩),.string b,.bool r,.int .u8 c,.slice (some ⟨300,0,some 1⟩) 4 4,.int .i64 L4,.int .i64 i,.slice (some ⟨390,0,some 1⟩) m cap,.int .i64 L,.int .i64 j],[some ⟨[.string s,.bool true,.int .i64 0,.int .i64 0,.int .i64 0,.bool false,.slice none 0 0,.int .u8 dr,.int .i64 f,.bool cr,.int .u8 32,.int .i64 0],156,true⟩,some ⟨[.int .u8 36,.int .u8 83,.int .u8 43,.int .u8 45],5,false⟩,some ⟨d,5,false⟩]=>some (b,r,c,L4,i,s,dr,f,cr,d,m,cap,L,j) | _,_=>none
 pre:=fun(b,r,c,L4,i,s,dr,f,cr,d,m,cap,L,j)=>vwOK d m&&decide (0≤j∧j≤m∧m≤100∧L=m)
 fin:=fun(b,r,c,L4,i,s,dr,f,cr,d,m,cap,L,j) Z=>(bif drP c ((zc d m).drop j.toNat)then Z (.exit 2) [.pointer (some ⟨3,0,some 0⟩),S b,B r,C8 c,.slice (some ⟨300,0,some 1⟩) 4 4,I L4,I i,.slice (some ⟨390,0,some 1⟩) m cap,I L,I m] [some ⟨[S s,B true,I 0,I 0,I 0,B false,.slice none 0 0,C8 dr,I f,B cr,C8 32,I 0],156,true⟩,some ⟨[C8 36,C8 83,C8 43,C8 45],5,false⟩,some ⟨d,5,false⟩]else∀j',Z .ret [.pointer (some ⟨3,0,some 0⟩),S b,B false,C8 c,.slice (some ⟨300,0,some 1⟩) 4 4,I L4,I i,.slice (some ⟨390,0,some 1⟩) m cap,I L,I j'] [some ⟨[S s,B true,I 0,I 0,I 0,B false,.slice none 0 0,C8 dr,I f,B cr,C8 32,I 0],156,true⟩,some ⟨[C8 36,C8 83,C8 43,C8 45],5,false⟩,some ⟨d,5,false⟩])
def ja(g:Bool)(h:Exit→E→O→Prop)(a b:Int)(c:IntKind)(i:O)(d j:E)(e k:Nat)(l:Option Blk)(f:Prop)(m n:Value):Prop:=bif ct a b then gz (jb1 c d (gy a)) a (e:Int) f False else fv g h i j k l m n
def jp(b f l:Bool)(a:Y)(c d e j k m n:Int)(h i:Nat)(g:Option Addr):Option Blk:=some (.mk [.string a,.bool b,ak c,ak d,ak e,.bool f,.slice g h i,al j,ak k,.bool l,al m,ak n] 156 true)
def n9(a:Bool)(b:Y)(c d:Int):Option Blk:=jp true false a b 0 0 0 c d 32 0 0 0 none
def l0(a b f g:Int)(c d e:Nat):E:=ak a::ak b::bv c d e::az f g
def k7(b:List (Prod Nat Nat))(c:E)(a:Nat):Option Blk:=some (.mk (rlbL ((a,a)::b) c) 5 false)
def m8:Option Blk:=some (.mk [al 36,al 83,al 43,al 45] 5 false)
def je(b:Int)(a:E):Int:=jau a (gy b)
theorem r131_2(b:Y)(r:Bool)(c:Int)(L4:Int)(i:Int)(s:Y)(dr:Int)(f:Int)(cr:Bool)(d:E)(m:Nat)(cap:Nat)(L:Int)(j:Int)(jk:Tmps)(R:Exit→E→O→Prop):(jbp Tryz.prog G20 noL Tryz.f244.ntmps (ja6 Tryz.f244 2) (tl S131_2.live (V131_2 (b,r,c,L4,i,s,dr,f,cr,d,m,cap,L,j)) jk) (ml S131_2.mid (B131_2 (b,r,c,L4,i,s,dr,f,cr,d,m,cap,L,j))) S131_2.n fun e t' m' _=>S131_2.out R e t' m')=(ja (gv d 390 390) R j L .u8 [m8,k7 [] d 390] d (B r::al c::bv 300 4 4::l0 L4 i L j 390 m cap) m 2 (n9 cr s dr f) (bif br (je j d !=c) (b6 (je j d) 256&&true) true then lr (je j d !=c&&b8 (idxZ (bz ⟨#[44,46,47,66,86]⟩) (je j d)) 0) (gv d 390 390) R [m8,k7 [] d 390] (al c::bv 300 4 4::l0 L4 i L j 390 m cap) (al c::bv 300 4 4::ak L4::ak i::fk L j 390 m cap) (n9 cr s dr f) (aq 3) (S b) (B false) (aq 3) (S b) (B r)else False) (aq 3) (S b)):=by kernel_rfl
theorem l131_2:∀t m n K,S131_2.hA t m n K→Ab.Sem Tryz.prog Tryz.f244.ntmps (.loop (ja6 Tryz.f244 2)) t m n K:=by
 refine jbv ok_G20 hmix (by kernel_rfl) (ja1 _) S131_2 V131_2 B131_2 (fun(b,r,c,L4,i,s,dr,f,cr,d,m,cap,L,j)=>(m-j).toNat) ?_ ?_ ?_
 ·intro vs bs s h;simp only[S131_2]at h;split at h
  all_goals first | (cases h;exact⟨rfl,rfl⟩) | cases h | (split at h<;>first | (rename_i hq;cases h;have hq:=jah hq;subst hq;exact⟨rfl,rfl⟩) | cases h)
 ·exact fun⟨b,r,c,L4,i,s,dr,f,cr,d,m,cap,L,j⟩ hp=>by
   simp only[S131_2,jaf]at hp;simp[V131_2,B131_2,S131_2,ja3,jb2,idsL,ids,jaq (jc0.1 hp.1).plain]
 ·intro⟨b,r,c,L4,i,s,dr,f,cr,d,m,cap,L,j⟩ jk Z hp hf;rw[r131_2];delta fv av b6 gz gy ct ja aq bm lr ak al jp n9 au bu bp cq bv fk az l0 k7 m8 gv b8 je br;simp only[S131_2]at hp hf;simp only[jaf,jae]at hp;obtain⟨hv,hp⟩:=hp;have hV:=hv;have hv:=jc0.1 hv;have k:bz ⟨#[44,46,47,66,86]⟩=k5:=rfl;rw[k,Nat.mul_one,Nat.zero_add];simp only[hv.rlb];apply cond_intro<;>intro h
  ·have h:=jab h;obtain⟨a1,a2,a3⟩:=hv.at hp.1 (by omega);rw[a3]at hf;rw[jaa a2,idx_neg];have e:drP c (jau d j.toNat::List.drop (j+1).toNat (zc d m))=((jau d j.toNat==c || hasZ k5 (jau d j.toNat)) &&drP c (List.drop (j+1).toNat (zc d m))):=rfl;rw[e]at hf;refine c_t (jaa (by omega)) (c_t a1 (c_t (by cases(jau d j.toNat !=c) <;>rfl) (cond_intro (fun q=>c_t (hv.good _) ?_) (fun q=>c_t (hv.good _) ?_))))
   ·have q':(jau d j.toNat==c || hasZ k5 (jau d j.toNat))=false:=by
     simp only[jaf,bne_iff_ne,Bool.not_eq_true']at q;rw[q.2,Bool.or_false];simpa using q.1
    rw[q',Bool.false_and,cond_false]at hf;exact hf j
   ·have q':(jau d j.toNat==c || hasZ k5 (jau d j.toNat))=true:=by
     cases h1:(jau d j.toNat==c)with
     | true=>rfl
     | false=>
      have h2:(jau d j.toNat !=c)=true:=by rw[bne,h1];rfl
      rw[h2,Bool.true_and,Bool.not_eq_false']at q;rw[q];rfl
    rw[q',Bool.true_and]at hf;rw[w64 (by omega)];exact⟨(b,r,c,L4,i,s,dr,f,cr,d,m,cap,L,j+1),rfl,rfl,by simp only[S131_2,jaf,jae];exact⟨hV,by omega⟩,by simp only;omega,hf⟩
  ·have h:=jac h;rw[hv.end (by omega),drP,List.all_nil,cond_true]at hf;obtain rfl:j=m:=by omega
   exact c_t (hv.good _) hf
theorem lk131:LOK Tryz.prog (oneL 2 S131_2.hA) Tryz.f244.ntmps (ja6 Tryz.f244 0):=lok_one (by kernel_rfl) l131_2
def V131_0:Y×Bool×Int×Int×Y×Int×Int×Bool→E:=fun(b,r,L4,i,s,dr,f,cr)=> [.pointer (some ⟨3,0,some 0⟩),S b,B r,.slice (some ⟨300,0,some 1⟩) 4 4,I L4,I i]
def B131_0:Y×Bool×Int×Int×Y×Int×Int×Bool→O:=fun(b,r,L4,i,s,dr,f,cr)=> [some ⟨[S s,B true,I 0,I 0,I 0,B false,.slice none 0 0,C8 dr,I f,B cr,C8 32,I 0],156,true⟩,some ⟨[C8 36,C8 83,C8 43,C8 45],5,false⟩]
def S131_0:LSpecA (Y×Bool×Int×Int×Y×Int×Int×Bool) where
 live:=[0,1,4,14,15,16]
 mid:=[3,300]
 n:=310
 ap:=[(.tmp 14,300)]
 dec vs bs:=match vs,bs with | [.pointer (some ⟨3,0,some 0⟩),.string b,.bool r,.slice (some ⟨300,0,some 1⟩) 4 4,.int .i64 L4,.int .i64 i],[some ⟨[.string s,.bool true,.int .i64 0,.int .i64 0,.int .i64 0,.bool false,.slice none 0 0,.int .u8 dr,.int .i64 f,.bool cr,.int .u8 32,.int .i64 0],156,true⟩,some ⟨[.int .u8 36,.int .u8 83,.int .u8 43,.int .u8 45],5,false⟩]=>some (b,r,L4,i,s,dr,f,cr) | _,_=>none
 pre:=fun(b,r,L4,i,s,dr,f,cr)=>decide (L4=4∧0≤i∧i≤4∧b.size≤100∧0≤dr∧dr<256)
 fin:=fun(b,r,L4,i,s,dr,f,cr) Z=>(bif (je5 (List.drop i.toNat [36,83,43,45]) (bz b) dr f).1 then∀dr' f',je5 (List.drop i.toNat [36,83,43,45]) (bz b) dr f=(true,dr',f')→Z (.exit 0) [.pointer (some ⟨3,0,some 0⟩),S b,B r,.slice (some ⟨300,0,some 1⟩) 4 4,I L4,I 4] [some ⟨[S s,B true,I 0,I 0,I 0,B false,.slice none 0 0,C8 (dr'),I (f'),B cr,C8 32,I 0],156,true⟩,some ⟨[C8 36,C8 83,C8 43,C8 45],5,false⟩]else∀i' dr' f',Z .ret [.pointer (some ⟨3,0,some 0⟩),S b,B false,.slice (some ⟨300,0,some 1⟩) 4 4,I L4,I i'] [some ⟨[S s,B true,I 0,I 0,I 0,B false,.slice none 0 0,C8 (dr'),I (f'),B cr,C8 32,I 0],156,true⟩,some ⟨[C8 36,C8 83,C8 43,C8 45],5,false⟩])
def jf(a b:Nat):Prop:=a.ble b=true
def oy(f g:Bool)(a:Y)(b c d e:Nat)(h i:Prop):Prop:=jf a.size b→(bif jv [(c,d)] (Lib.strCells a) e then ip f g h i else False)
def ju(a:Int):Int:=jau [al 36,al 83,al 43,al 45] (gy a)
def qe(a:Bool)(b d:Y)(c:Int):O:=[jp true false a b 0 0 0 (ju c) (idxZ (bz d) (ju c)) 32 0 0 0 none,m8]
def j3(c:Y)(a b:Nat):E:=rlbL [(a,b)] (Lib.strCells c)
def m9(a:Y)(b:Int):Y:=a.extract (idxZ (bz a) (ju b)).toNat (jo (jcq (bz a) (ju b)+1))
def lg(c:Y)(a b:Nat):J:=ii 0 [(a,b)] (Lib.strCells c) c.size
def lv(a:UInt8):Int:=(bz ⟨#[a]⟩).getD 0 (0:Int)
def ke(a:Y)(b:UInt8):Bool:=hasZ (bz a) (lv b)
theorem r131_0(b:Y)(r:Bool)(L4:Int)(i:Int)(s:Y)(dr:Int)(f:Int)(cr:Bool)(jk:Tmps)(R:Exit→E→O→Prop):(jbp Tryz.prog G20 (oneL 2 S131_2.hA) Tryz.f244.ntmps (ja6 Tryz.f244 0) (tl S131_0.live (V131_0 (b,r,L4,i,s,dr,f,cr)) jk) (ml S131_0.mid (B131_0 (b,r,L4,i,s,dr,f,cr))) S131_0.n fun e t' m' _=>S131_0.out R e t' m')=(bif ct i L4 then gz (jb1 .u8 [al 36,al 83,al 43,al 45] (gy i)) i 4 (bif oneB (Utf8.encode (ju i))then bif b8 (cntZ (bz b) ((bz (Utf8.encode (ju i))).getD 0 (0:Int)):Int) 2 then R .normal (aq 3::dt r b (cq L4 i) (bv 300 4 4)) [n9 cr s dr f,m8]else bif dr !=0 then R .ret (aq 3::dt false b (az L4 i) (bv 300 4 4)) [n9 cr s dr f,m8]else bif b6 (ju i) 256 then bif fy b then bif d5 0 0 (idxZ (bz b) (ju i)) (idxZ (bz b) (ju i)) (am b)then bif ke (b.extract 0 (idxZ (bz b) (ju i)).toNat) 86 then R .ret (aq 3::dt false b (az L4 i) (bv 300 4 4)) (qe cr s b i)else bif d5 0 (idxZ (bz b) (ju i)) (aw (jcq (bz b) (ju i)+1) .i64) (aw (jcq (bz b) (ju i)+1) .i64) (am b)then∀a:Nat,oy (S131_2.toLSpec.pre (b,(r,(ju i,(L4,(i,(s,(ju i,(idxZ (bz b) (ju i),(cr,(j3 (m9 b i) 355 390,((m9 b i).size,(a,(natO (m9 b i).size,(0:Int))))))))))))))) (drP (ju i) (lg (m9 b i) 355 390)) (m9 b i) a 355 390 400 (km (j3 (m9 b i) 355 390) 400 (R .normal (aq 3::dt r b (cq L4 i) (bv 300 4 4)) (qe cr s b i))) (Int→km (j3 (m9 b i) 355 390) 400 (R .ret (aq 3::dt false b (az L4 i) (bv 300 4 4)) (qe cr s b i)))else False else False else False else False else False) False else R (.exit 0) (aq 3::dt r b (az L4 i) (bv 300 4 4)) [n9 cr s dr f,m8]):=by kernel_rfl
theorem l131_0:∀t m n K,S131_0.hA t m n K→Ab.Sem Tryz.prog Tryz.f244.ntmps (.loop (ja6 Tryz.f244 0)) t m n K:=by
 refine jbv ok_G20 hmix (by kernel_rfl) lk131 S131_0 V131_0 B131_0 (fun(b,r,L4,i,s,dr,f,cr)=>(4-i).toNat) ?_ ?_ ?_
 ·intro vs bs s h;simp only[S131_0]at h;split at h
  all_goals first | (cases h;exact⟨rfl,rfl⟩) | cases h | (split at h<;>first | (rename_i hq;cases h;have hq:=jah hq;subst hq;exact⟨rfl,rfl⟩) | cases h)
 ·exact fun⟨b,r,L4,i,s,dr,f,cr⟩ hp=>by
   simp[V131_0,B131_0,S131_0,ja3,jb2,idsL,ids]
 ·intro⟨b,r,L4,i,s,dr,f,cr⟩ jk Z hp hf;rw[r131_0];delta al m8 ak jp n9 dt bv az aq av b6 gz ip gm jv jf oy km gy ju qe j3 aw jo m9 au bu bp cq ii lg d5 am lv ke fy b8 ct;simp only[S131_0]at hp hf;simp only[jae]at hp;have hL4:=hp.1;apply cond_intro<;>intro h
  ·have h:=jab h;obtain⟨c,c1,c2,c3,c4,c5,c6⟩:=ch_at hp.2.1 (by omega);rw[c1,c2,c4,c3,w64 (n:=i+1) (by omega)];rw[c6,je5]at hf;clear c1 c2 c3 c4 c6;refine c_t (jaa (by omega)) (c_t rfl (c_t rfl (cond_intro (fun q=> ?_) (fun q=> ?_))))
   ·rw[q,cond_true]at hf;exact⟨(b,r,L4,i+1,s,dr,f,cr),rfl,rfl,by simp only[S131_0,jae];omega,by simp only;omega,hf⟩
   ·rw[q,cond_false]at hf;have q:=jac q;have hm:=jjp q;have i1:=jf3 c hm;have i2:=jjb c hm;have i3:=ji9 (bz b) c;rw[jal]at i1 i3;refine cond_intro (fun e=> ?_) (fun e=>c_t (jaa (by omega)) (c_t (jaa (by omega)) (c_t (jaa (by omega)) ?_)))
    ·rw[e]at hf;exact hf i dr f
    ·rw[e,cond_false]at hf;have k6:(bz ⟨#[86]⟩).getD 0 0=86:=rfl;have ex:bz (b.extract 0 (idxZ (bz b) c).toNat)=(bz b).take (idxZ (bz b) c).toNat:=by rw[jb7];simp
     have ex2:bz (b.extract (idxZ (bz b) c).toNat (jcq (bz b) c+1).toNat)=((bz b).take (jcq (bz b) c+1).toNat).drop (idxZ (bz b) c).toNat:=jb7 _ _ _;rw[k6,ex,w64 (n:=jcq (bz b) c+1) (by omega)];refine cond_intro (fun e=> ?_) (fun e=>c_t (jaa (by omega)) (fun cap hcap=> ?_))
     ·rw[drC,e]at hf;exact hf i _ _
     ·obtain⟨v1,v2⟩:=jk1 (b.extract (idxZ (bz b) c).toNat (jcq (bz b) c+1).toNat);have v3:=jc0.2 v1
      have hsz:(b.extract (idxZ (bz b) c).toNat (jcq (bz b) c+1).toNat).size≤100:=by
       rw[←jal,ex2,List.length_drop,List.length_take,jal];omega
      have g1:=v1.good;have g2:=v1.rlb;have g3:=jbj v1.plain;rw[ex2]at v2;rw[drC,e,Bool.not_false,Bool.true_and,←v2]at hf;simp only[g2];clear ex2;generalize b.extract (idxZ (bz b) c).toNat (jcq (bz b) c+1).toNat=y at*;generalize Lib.strCells y=d at*;refine c_t (by rw[g1,g3];rfl) (c_t ?_ (cond_intro (fun a=>c_t (by rw[g3];rfl) fun x=> ?_) (fun a j'=>c_t (by rw[g3];rfl) fun x=> ?_)))
      ·simp only[S131_2,jaf,jae];exact⟨v3,by omega,by omega,hsz,jca _⟩
      ·have a:drP c (zc d y.size)=true:=a;rw[a,cond_true]at hf;exact⟨(b,r,L4,i+1,s,c,idxZ (bz b) c,cr),rfl,rfl,by simp only[S131_0,jae];omega,by simp only;omega,hf⟩
      ·have a:drP c (zc d y.size)=false:=a;rw[a]at hf;exact hf i _ _
  ·have h:=jac h;obtain rfl:i=4:=by omega
   subst hL4;exact hf dr f rfl
theorem fn131:Fn1 Tryz.prog 244 Tryz.f244:= .m Tryz.func244
theorem lok131:LOKf Tryz.prog (oneL 0 S131_0.hA) Tryz.f244:=jbe (by kernel_rfl) l131_0
theorem fn160:Fn1 Tryz.prog 281 Tryz.f281:= .m Tryz.func281
def G21:Env:=Env.nil.add 272 (sp2 s141)
theorem ok_G21:jaw Tryz.prog G21:=jai jap ok141
def G22:Env:=Env.nil.addG 281 (inlQ Tryz.prog G21 noL Tryz.f281)
theorem ok_G22:jaw Tryz.prog G22:=jao jap (jar ok_G21 hmix fn160 jak)
def ci(l:J):E:=l.map fun n=> .int .i64 n
@[simp] theorem ci_length (l:J):(ci l).length=l.length:=by simp[ci]
theorem ci_append(a b:J):ci (a++b)=ci a++ci b:=by simp[ci]
theorem ci_plain:∀l:J,ja8 (ci l)=true
 | []=>rfl
 | c::r=>by simpa[ci,ja8,plain]using ci_plain r
def jff:E→Bool
 | []=>true
 | .int .i64 _::r=>jff r
 | _=>false
theorem ci_isInts:∀l:J,jff (ci l)=true
 | []=>rfl
 | c::r=>by simpa[ci,jff]using ci_isInts r
theorem ci_of:∀{l:E},jff l=true→ci (l.map iv)=l
 | [],_=>rfl
 | .int .i64 n::r,h=>by
  have:=ci_of (l:=r) (by simpa[jff]using h);simp only[ci]at this;simp only[List.map_cons,ci,iv,this]
def jbw(c:E)(n cap:Nat):Bool:=jff (c.take n) && (ja8 c&& (Nat.beq c.length cap&& (Nat.ble n cap&&Nat.ble cap 9223372036854775807)))
structure RowI (c:E)(n cap:Nat):Prop where
 bytes:jff (c.take n)=true
 plain:ja8 c=true
 len:c.length=cap
 le:n≤cap
 cap:cap≤9223372036854775807
theorem jax{c:E}{n cap:Nat}:jbw c n cap=true↔RowI c n cap:=by
 simp only[jbw,jaf,Nat.ble_eq,Nat.beq_eq];exact⟨fun⟨h1,h2,h3,h4,h5⟩=>⟨h1,h2,h3,h4,h5⟩,fun⟨h1,h2,h3,h4,h5⟩=>⟨h1,h2,h3,h4,h5⟩⟩
theorem jbn{c:E}{n cap:Nat}(h:RowI c n cap):(zc c n).length=n:=by
 have h1:=h.len;have h2:=h.le;simp only[zc,List.length_map,List.length_take];omega
theorem RowI.eq{c:E}{n cap:Nat}(h:RowI c n cap):c=ci (zc c n)++c.drop n:=by
 rw[zc,ci_of h.bytes,List.take_append_drop]
theorem RowI.take{c:E}{n cap:Nat}(h:RowI c n cap):c.take n=ci (zc c n):=(ci_of h.bytes).symm
theorem rowI_mk(L:J){tail:E}{cap:Nat}(ht:ja8 tail=true)(hl:L.length+tail.length=cap)(hc:cap≤9223372036854775807):RowI (ci L++tail) L.length cap∧zc (ci L++tail) L.length=L:=by
 have e:(ci L++tail).take L.length=ci L:=by rw[List.take_append_of_le_length (by simp),List.take_of_length_le (by simp)]
 refine⟨⟨by rw[e];exact ci_isInts L,plainL_append.2 ⟨ci_plain L,ht⟩,by simp[hl],by omega,hc⟩,?_⟩;show List.map iv ((ci L++tail).take L.length)=L;rw[e];simp only[ci,List.map_map];have:(iv∘fun n:Int=>Value.int .i64 n)=id:=by funext n;rfl
 rw[this,List.map_id]
theorem RowI.app{c:E}{n cap:Nat}(h:RowI c n cap)(M:J){tail:E}{cap':Nat}(ht:jay tail cap' (n+M.length) 1=true):
  RowI (c.take n++ci M++tail) (n+M.length) cap'∧zc (c.take n++ci M++tail) (n+M.length)=zc c n++M:=by
 obtain⟨t1,t2,t3,t4⟩:=je8 ht;have hz:=jbn h;have:=rowI_mk (zc c n++M) (tail:=tail) (cap:=cap') t1 (by simp only[List.length_append,hz];omega) t4;simp only[List.length_append,hz,ci_append]at this;rw[h.take];exact this
theorem RowI.app1{c:E}{n cap:Nat}(h:RowI c n cap)(x:Int){tail:E}{cap':Nat}(ht:jay tail cap' (n+1) 1=true):
  RowI (c.take (n*1)++ [.int .i64 x]++tail) (n+1) cap'∧zc (c.take (n*1)++ [.int .i64 x]++tail) (n+1)=zc c n++ [x]:=by
 rw[Nat.mul_one];exact h.app [x] ht
theorem RowI.ask{c:E}{n cap:Nat}(h:RowI c n cap){k:Nat}(hk:n+k≤1000000):
  (Nat.beq c.length (cap*1) &&Nat.ble n cap&&Nat.ble cap 9223372036854775807&&true&&jb0 (n+k) 8)=true:=by
 have h1:=h.len;have h2:=h.le;have h3:=h.cap;simp only[jb0,jaf,Nat.ble_eq,Nat.beq_eq,Nat.mul_one];exact⟨⟨⟨⟨h1,h2⟩,h3⟩,trivial⟩,by omega,by omega⟩
theorem jfm(M:J){tail:E}{cap':Nat}(ht:jay tail cap' M.length 1=true):RowI (ci M++tail) M.length cap'∧zc (ci M++tail) M.length=M:=by
 obtain⟨t1,t2,t3,t4⟩:=je8 ht;exact rowI_mk M t1 (by omega) t4
theorem RowI.good{c:E}{n cap:Nat}(h:RowI c n cap)(ps:List (Nat×Nat)):jav ps c=true:=goodL_plain h.plain
theorem RowI.rlb{c:E}{n cap:Nat}(h:RowI c n cap)(ps:List (Nat×Nat)):rlbL ps c=c:=rlbL_plain ps h.plain
def Rw.bi:Rw→Option Blk
 | .nil=>none
 | .own d _ _=>some ⟨d,251,true⟩
def Rw.oki:Rw→Bool
 | .nil=>true
 | .own d m cap=>jbw d m cap
theorem jg9{b:Bool}{P Q P' Q':Prop}(h:bif b then P else Q)(h1:P→P')(h2:Q→Q'):bif b then P' else Q':=by
 cases b
 ·exact h2 h
 ·exact h1 h
theorem jkm(l:J)(c:Int):decide (idxZ l c≥0)=hasZ l c:=by
 have:=idx_neg l c;rw[Bool.eq_iff_iff,jae]at*;cases h:hasZ l c with
 | true=>
  rw[h]at this;have h2:¬idxZ l c<0:=fun q=>by have:=this.1 q;cases this
  simp;omega
 | false=>
  rw[h]at this;have h2:idxZ l c<0:=this.2 rfl;simp;omega
def roP(dr f c i:Int):Int:=bif hasZ [57,89,84,73,82] c then 0 else bif c==90 || (c==42 || (c==dr&&i !=f))then 1 else bif c==86 then 2 else bif c==36 then 5 else bif c==83 || (c==43 || c==45)then 4 else 3
def jbo(dr f:Int):J→Int→J
 | [],_=> []
 | c::r,i=>roP dr f c i::jbo dr f r (i+1)
structure PlS where
 pts:Int
 bh:Bool
 w:Int
 dg:Int
 q:Int
 fm:Int
def plGo:J→PlS→Bool×PlS
 | [],a=>(true,a)
 | r::rs,a=>bif r==2 then plGo rs ⟨a.pts+1,a.bh,a.w,a.dg,a.q,a.fm⟩else bif r==0 then plGo rs ⟨a.pts,a.bh,a.w+1,a.dg+1,a.q+a.pts,a.fm+1⟩
  else bif r==1 then(bif decide (a.fm>0)then(false,a)else plGo rs ⟨a.pts,a.bh || decide (a.pts>0),a.w+1,a.dg+1,a.q+a.pts,a.fm⟩)else plGo rs ⟨a.pts,a.bh,a.w+1,a.dg,a.q,a.fm⟩
def V133_0:Y×Bool×Int×Bool×E×Nat×Nat×Int×Int×Y×Int×Int×Int×Rw×Int×Int×Bool×Int→E:=fun(b,r,pts,bh,d,m,cap,L,i,s,w,dg,q,o,dr,f,cr,fm)=> [.pointer (some ⟨3,0,some 0⟩),S b,B r,I (pts),B (bh),.slice (some ⟨400,0,some 1⟩) m cap,I L,I (i)]
def B133_0:Y×Bool×Int×Bool×E×Nat×Nat×Int×Int×Y×Int×Int×Int×Rw×Int×Int×Bool×Int→O:=fun(b,r,pts,bh,d,m,cap,L,i,s,w,dg,q,o,dr,f,cr,fm)=> [some ⟨[.string s,.bool true,.int .i64 (w),.int .i64 (dg),.int .i64 (q),.bool false,o.v 401,.int .u8 dr,.int .i64 f,.bool cr,.int .u8 32,.int .i64 (fm)],156,true⟩,some ⟨d,5,false⟩,o.bi]
def S133_0:LSpecA (Y×Bool×Int×Bool×E×Nat×Nat×Int×Int×Y×Int×Int×Int×Rw×Int×Int×Bool×Int) where
 live:=[0,1,4,5,6,11,12,13]
 mid:=[3,400,401]
 n:=410
 ap:=[(.tmp 11,400),(.cell 3 6,401)]
 dec vs bs:=match vs,bs with
  | [.pointer (some ⟨3,0,some 0⟩),.string b,.bool r,.int .i64 pts,.bool bh,.slice (some ⟨400,0,some 1⟩) m cap,.int .i64 L,.int .i64 i],[some ⟨[.string s,.bool true,.int .i64 w,.int .i64 dg,.int .i64 q,.bool false,.slice none 0 0,.int .u8 dr,.int .i64 f,.bool cr,.int .u8 32,.int .i64 fm],156,true⟩,some ⟨d,5,false⟩,none]=>some (b,r,pts,bh,d,m,cap,L,i,s,w,dg,q,.nil,dr,f,cr,fm)
  | [.pointer (some ⟨3,0,some 0⟩),.string b,.bool r,.int .i64 pts,.bool bh,.slice (some ⟨400,0,some 1⟩) m cap,.int .i64 L,.int .i64 i],[some ⟨[.string s,.bool true,.int .i64 w,.int .i64 dg,.int .i64 q,.bool false,.slice (some ⟨401,0,some 1⟩) m2 cap2,.int .u8 dr,.int .i64 f,.bool cr,.int .u8 32,.int .i64 fm],156,true⟩,some ⟨d,5,false⟩,some ⟨d2,251,true⟩]=>some (b,r,pts,bh,d,m,cap,L,i,s,w,dg,q,.own d2 m2 cap2,dr,f,cr,fm)
  | _,_=>none
 pre:=fun(b,r,pts,bh,d,m,cap,L,i,s,w,dg,q,o,dr,f,cr,fm)=>o.oki&& (vwOK d m&&decide (0≤i∧i≤m∧m≤100∧L=m∧0≤pts∧pts≤i∧0≤w∧w≤i∧0≤dg∧dg≤i∧0≤fm∧fm≤i∧0≤q∧q≤i*100∧o.z.length≤i))
 fin:=fun(b,r,pts,bh,d,m,cap,L,i,s,w,dg,q,o,dr,f,cr,fm) Z=>(bif (plGo (jbo dr f ((zc d m).drop i.toNat) i) ⟨pts,bh,w,dg,q,fm⟩).1 then(o.is=false→(zc d m).drop i.toNat=[]→Z (.exit 0) [.pointer (some ⟨3,0,some 0⟩),S b,B r,I (pts),B (bh),.slice (some ⟨400,0,some 1⟩) m cap,I L,I (m)] [some ⟨[.string s,.bool true,.int .i64 (w),.int .i64 (dg),.int .i64 (q),.bool false,.slice none 0 0,.int .u8 dr,.int .i64 f,.bool cr,.int .u8 32,.int .i64 (fm)],156,true⟩,some ⟨d,5,false⟩,none])∧ ∀pts' bh' w' dg' q' fm' d' m' cap',jbw d' m' cap'=true→zc d' m'=o.z++jbo dr f ((zc d m).drop i.toNat) i→plGo (jbo dr f ((zc d m).drop i.toNat) i) ⟨pts,bh,w,dg,q,fm⟩=(true,⟨pts',bh',w',dg',q',fm'⟩)→Z (.exit 0) [.pointer (some ⟨3,0,some 0⟩),S b,B r,I (pts'),B (bh'),.slice (some ⟨400,0,some 1⟩) m cap,I L,I (m)] [some ⟨[.string s,.bool true,.int .i64 (w'),.int .i64 (dg'),.int .i64 (q'),.bool false,.slice (some ⟨401,0,some 1⟩) m' cap',.int .u8 dr,.int .i64 f,.bool cr,.int .u8 32,.int .i64 (fm')],156,true⟩,some ⟨d,5,false⟩,some ⟨d',251,true⟩]else∀pts' bh' i' w' dg' q' fm' d' m' cap',jbw d' m' cap'=true→Z .ret [.pointer (some ⟨3,0,some 0⟩),S b,B false,I (pts'),B (bh'),.slice (some ⟨400,0,some 1⟩) m cap,I L,I (i')] [some ⟨[.string s,.bool true,.int .i64 (w'),.int .i64 (dg'),.int .i64 (q'),.bool false,.slice (some ⟨401,0,some 1⟩) m' cap',.int .u8 dr,.int .i64 f,.bool cr,.int .u8 32,.int .i64 (fm')],156,true⟩,some ⟨d,5,false⟩,some ⟨d',251,true⟩])
def ez(a c:Int)(b:E):Bool:=je a b==c
def qf(b d e:Int)(a:E)(c f g h i j:Prop):Prop:=bif jb1 .u8 a (gy b)then gz (decide (idxZ (bz ⟨#[57,89,84,73,82]⟩) (je b a)≥0)) (je b a) 256 c (bw (ez b 90 a) (ez b 42 a || (ez b d a || true)) (ez b 90 a || (ez b 42 a || ez b d a&&b !=e)) f (bif ez b 86 a then g else bif ez b 36 a then h else i7 (ez b 83 a) (ez b 43 a || true) (ez b 83 a || (ez b 43 a || ez b 45 a)) i j))else False
def gk(a:E)(b:TypeId):O:=[some (.mk a b true)]
def qh(b c:E)(a:Nat):O:=k7 [(a,401)] b 400::gk (rlbL [(400,400),(a,401)] c) 251
def ko(a:Bool)(b:Y)(c d e f g h:Int)(i j:Nat):Option Blk:=jp true false a b c d e f g 32 h i j (some (.mk 401 0 (some 1)))
def lh(a:Bool)(b:Y)(c d e f g h:Int)(k l:E)(i j m:Nat):O:=ko a b c d e f g h i j::qh k l m
def kf(c:List (Prod Nat Nat))(d e:E)(a b:Nat):Bool:=jav ((a,b)::c) d&& (jav ((a,b)::c) e&&true)
def qg(c:Int)(b d:E)(a:Nat):Bool:=kf [(a,401)] b (ak c::d) 400 400&&true
def oz(g:Bool)(h:Y)(f:Exit→E→O→Prop)(b i j k l m n:Int)(d o:E)(e:Nat):Prop:=∀a:Nat,∀c:E,dv c a 1→bm (qg b d c e) f (lh g h i j k l m n d (ak b::c) 1 a e) o
def l4(a c:Bool)(b:Y)(f g h:Int)(d e:Nat):E:=aq 3::dt a b (.bool c::fk f g 400 d e) (ak h)
theorem r133_0n(b:Y)(r:Bool)(pts:Int)(bh:Bool)(d:E)(m:Nat)(cap:Nat)(L:Int)(i:Int)(s:Y)(w:Int)(dg:Int)(q:Int)(dr:Int)(f:Int)(cr:Bool)(fm:Int)(jk:Tmps)(R:Exit→E→O→Prop):(jbp Tryz.prog G22 noL Tryz.f245.ntmps (ja6 Tryz.f245 0) (tl S133_0.live (V133_0 (b,r,pts,bh,d,m,cap,L,i,s,w,dg,q,.nil,dr,f,cr,fm)) jk) (ml S133_0.mid (B133_0 (b,r,pts,bh,d,m,cap,L,i,s,w,dg,q,.nil,dr,f,cr,fm))) S133_0.n fun e t' m' _=>S133_0.out R e t' m')=(bif ct i L then bif b6 i (m:Int)then qf i dr f d (oz cr s R 0 (au w) (au dg) (il q pts) dr f (au fm) d (l4 r bh b L i pts m cap) 434) (∀a:Nat,∀c:E,dv c a 1→(bif f9 fm then bif qg 1 d c 457 then R .ret (aq 3::dt false b (B bh::bv 400 m cap::az L i) (ak pts)) (lh cr s w dg q dr f fm d (ak 1::c) 1 a 457)else False else bif bh || true then bm (qg 1 d c 457) R (lh cr s (au w) (au dg) (il q pts) dr f fm d (ak 1::c) 1 a 457) (aq 3::dt r b (B (bh || f9 pts)::fk L i 400 m cap) (ak pts))else False)) (oz cr s R 2 w dg q dr f fm d (aq 3::dt r b (B bh::fk L i 400 m cap) (bu pts)) 460) (oz cr s R 5 (au w) dg q dr f fm d (l4 r bh b L i pts m cap) 463) (oz cr s R 4 (au w) dg q dr f fm d (l4 r bh b L i pts m cap) 474) (oz cr s R 3 (au w) dg q dr f fm d (l4 r bh b L i pts m cap) 474)else False else fv (gv d 400 400) R [k7 [] d 400,none] (B r::gp bh pts (az L i) (bv 400 m cap)) 0 (jp true false cr s w dg q dr f 32 fm 0 0 none) (aq 3) (S b)):=by kernel_rfl
def oa(a:E)(b c:Nat)(d:Prop):Prop:=bif ie a b c 8 then d else False
def nc(e:Int)(b d f:E)(a c:Nat):Bool:=kf [(a,401)] b (e7 d c++ [ak e]++f) 400 400&&true
theorem r133_0o(b:Y)(r:Bool)(pts:Int)(bh:Bool)(d:E)(m:Nat)(cap:Nat)(L:Int)(i:Int)(s:Y)(w:Int)(dg:Int)(q:Int)(d2:E)(m2:Nat)(cap2:Nat)(dr:Int)(f:Int)(cr:Bool)(fm:Int)(jk:Tmps)(R:Exit→E→O→Prop):(jbp Tryz.prog G22 noL Tryz.f245.ntmps (ja6 Tryz.f245 0) (tl S133_0.live (V133_0 (b,r,pts,bh,d,m,cap,L,i,s,w,dg,q,.own d2 m2 cap2,dr,f,cr,fm)) jk) (ml S133_0.mid (B133_0 (b,r,pts,bh,d,m,cap,L,i,s,w,dg,q,.own d2 m2 cap2,dr,f,cr,fm))) S133_0.n fun e t' m' _=>S133_0.out R e t' m')=(bif ct i L then bif b6 i (m:Int)then qf i dr f d (oa d2 cap2 m2 (∀a:Nat,∀c:E,dv c a (m2+1)→bm (nc 0 d d2 c 434 m2) R (lh cr s (au w) (au dg) (il q pts) dr f (au fm) d (e7 d2 m2++ [ak 0]++c) (m2+1) a 434) (l4 r bh b L i pts m cap))) (oa d2 cap2 m2 (∀a:Nat,∀c:E,dv c a (m2+1)→(bif f9 fm then bif nc 1 d d2 c 457 m2 then R .ret (aq 3::dt false b (B bh::bv 400 m cap::az L i) (ak pts)) (lh cr s w dg q dr f fm d (e7 d2 m2++ [ak 1]++c) (m2+1) a 457)else False else bif bh || true then bm (nc 1 d d2 c 457 m2) R (lh cr s (au w) (au dg) (il q pts) dr f fm d (e7 d2 m2++ [ak 1]++c) (m2+1) a 457) (aq 3::dt r b (B (bh || f9 pts)::fk L i 400 m cap) (ak pts))else False))) (oa d2 cap2 m2 (∀a:Nat,∀c:E,dv c a (m2+1)→bm (nc 2 d d2 c 460 m2) R (lh cr s w dg q dr f fm d (e7 d2 m2++ [ak 2]++c) (m2+1) a 460) (aq 3::dt r b (B bh::fk L i 400 m cap) (bu pts)))) (oa d2 cap2 m2 (∀a:Nat,∀c:E,dv c a (m2+1)→bm (nc 5 d d2 c 463 m2) R (lh cr s (au w) dg q dr f fm d (e7 d2 m2++ [ak 5]++c) (m2+1) a 463) (l4 r bh b L i pts m cap))) (oa d2 cap2 m2 (∀a:Nat,∀c:E,dv c a (m2+1)→bm (nc 4 d d2 c 474 m2) R (lh cr s (au w) dg q dr f fm d (e7 d2 m2++ [ak 4]++c) (m2+1) a 474) (l4 r bh b L i pts m cap))) (oa d2 cap2 m2 (∀a:Nat,∀c:E,dv c a (m2+1)→bm (nc 3 d d2 c 474 m2) R (lh cr s (au w) dg q dr f fm d (e7 d2 m2++ [ak 3]++c) (m2+1) a 474) (l4 r bh b L i pts m cap)))else False else fv (kf [(401,401)] d d2 400 400&&true) R (qh d d2 401) (B r::gp bh pts (az L i) (bv 400 m cap)) 0 (ko cr s w dg q dr f fm m2 cap2) (aq 3) (S b)):=by kernel_rfl
theorem l133_0:LOKf Tryz.prog (oneL 0 S133_0.hA) Tryz.f245:=by
 refine jbe (h:=S133_0.hA) (by kernel_rfl) (jbv ok_G22 hmix (by kernel_rfl) (ja1 _) S133_0 V133_0 B133_0 (fun(b,r,pts,bh,d,m,cap,L,i,s,w,dg,q,o,dr,f,cr,fm)=>(m-i).toNat) ?_ ?_ ?_)
 ·intro vs bs s h;simp only[S133_0]at h;split at h
  all_goals first | (cases h;exact⟨rfl,rfl⟩) | cases h | (split at h<;>first | (rename_i hq;cases h;have hq:=jah hq;subst hq;exact⟨rfl,rfl⟩) | cases h)
 ·exact fun⟨b,r,pts,bh,d,m,cap,L,i,s,w,dg,q,o,dr,f,cr,fm⟩ hp=>by
   simp only[S133_0,jaf]at hp;have hv:=jc0.1 hp.2.1;cases o with
   | nil=>simp[V133_0,B133_0,S133_0,ja3,jb2,idsL,ids,Rw.v,Rw.bi,jaq hv.plain]
   | own d2 m2 cap2=>simp[V133_0,B133_0,S133_0,ja3,jb2,idsL,ids,Rw.v,Rw.bi,jaq hv.plain,jaq (jax.1 hp.1).plain]
 ·intro⟨b,r,pts,bh,d,m,cap,L,i,s,w,dg,q,o,dr,f,cr,fm⟩ jk Z hp hf;simp only[S133_0]at hp hf;cases o with
  | nil=>
   rw[r133_0n];delta fv aq ak al jp gp bv az k7 gv av b6 gz bw i7 gy je ez qf bm gk qh ko lh kf qg dv oz dt au bu bp cq fk l4 f9 il ct;simp only[jaf,jae]at hp;obtain⟨-,hV,hp⟩:=hp;have hv:=jc0.1 hV;simp only[Rw.z,List.length_nil]at hp hf;have k1:bz ⟨#[57,89,84,73,82]⟩=[57,89,84,73,82]:=rfl;have e0:0+i.toNat*1=i.toNat:=by omega
   rw[k1,e0];apply cond_intro<;>intro h
   ·have h:=jab h;obtain⟨a1,a2,a3⟩:=hv.at hp.1 (by omega);rw[a3]at hf;rw[a1,w64 (n:=i+1) (by omega)];generalize jau d i.toNat=c at*;refine c_t (jaa (by omega)) (c_t rfl (c_t (jaa a2) ?_));rw[jkm];refine cond_intro (fun q0=> ?_) (fun q0=>c_t (by simp) (cond_intro (fun q1=> ?_) (fun q1=>cond_intro (fun q2=> ?_) (fun q2=>cond_intro (fun q3=> ?_) (fun q3=>c_t (by simp) (cond_intro (fun q4=> ?_) (fun q4=> ?_)))))))
    ·have e:roP dr f c i=0:=by
      unfold roP;rw[q0];rfl
     rw[jbo,e]at hf;intro cap1 tail ht;obtain⟨h1,h2⟩:RowI (Value.int IntKind.i64 0::tail) 1 cap1∧zc (Value.int IntKind.i64 0::tail) 1=[0]:=jfm [0] ht;have hl1:=jbn h1;generalize Value.int IntKind.i64 0::tail=d' at*;refine c_t (by rw[goodL_plain hv.plain,goodL_plain h1.plain];rfl) ?_;rw[hv.rlb,rlbL_plain _ h1.plain];rw[w64 (n:=w+1) (by omega)];rw[w64 (n:=dg+1) (by omega)];rw[w64 (n:=q+pts) (by omega)];rw[w64 (n:=fm+1) (by omega)];exact⟨(b,r,pts,bh,d,m,cap,L,i+1,s,w+1,dg+1,q+pts,.own d' (1) cap1,dr,f,cr,fm+1),rfl,rfl,by simp only[S133_0,jaf,jae];exact⟨jax.2 h1,hV,by simp only[Rw.z,hl1];omega⟩,by simp only;omega,by simp only[S133_0];refine jg9 hf ?_ (fun g=>g);rintro ⟨-,g⟩;exact⟨fun q=>(by cases q),fun pts' bh' w' dg' q' fm' d'' m'' cap'' g1 g2 g3=>g pts' bh' w' dg' q' fm' d'' m'' cap'' g1 (by rw[g2];simp[Rw.z,h2]) g3⟩⟩
    ·have e:roP dr f c i=1:=by
      unfold roP;rw[q0,q1];rfl
     rw[jbo,e]at hf;intro cap1 tail ht;obtain⟨h1,h2⟩:RowI (Value.int IntKind.i64 1::tail) 1 cap1∧zc (Value.int IntKind.i64 1::tail) 1=[1]:=jfm [1] ht;have hl1:=jbn h1;generalize Value.int IntKind.i64 1::tail=d' at*;have e2:plGo (1::jbo dr f (List.drop (i+1).toNat (zc d m)) (i+1)) ⟨pts,bh,w,dg,q,fm⟩=bif decide (fm>0)then(false,⟨pts,bh,w,dg,q,fm⟩)else plGo (jbo dr f (List.drop (i+1).toNat (zc d m)) (i+1)) ⟨pts,bh || decide (pts>0),w+1,dg+1,q+pts,fm⟩:=rfl;rw[e2]at hf;refine cond_intro (fun z=>c_t (by rw[goodL_plain hv.plain,goodL_plain h1.plain];rfl) ?_) (fun z=>c_t (by simp) ?_)
     ·rw[hv.rlb,rlbL_plain _ h1.plain];rw[z,cond_true]at hf;exact hf _ _ _ _ _ _ _ d' _ _ (jax.2 h1)
     ·rw[z,cond_false]at hf;refine c_t (by rw[goodL_plain hv.plain,goodL_plain h1.plain];rfl) ?_;rw[hv.rlb,rlbL_plain _ h1.plain];rw[w64 (n:=w+1) (by omega)];rw[w64 (n:=dg+1) (by omega)];rw[w64 (n:=q+pts) (by omega)];exact⟨(b,r,pts,bh || decide (pts>0),d,m,cap,L,i+1,s,w+1,dg+1,q+pts,.own d' (1) cap1,dr,f,cr,fm),rfl,rfl,by simp only[S133_0,jaf,jae];exact⟨jax.2 h1,hV,by simp only[Rw.z,hl1];omega⟩,by simp only;omega,by simp only[S133_0];refine jg9 hf ?_ (fun g=>g);rintro ⟨-,g⟩;exact⟨fun q=>(by cases q),fun pts' bh' w' dg' q' fm' d'' m'' cap'' g1 g2 g3=>g pts' bh' w' dg' q' fm' d'' m'' cap'' g1 (by rw[g2];simp[Rw.z,h2]) g3⟩⟩
    ·have e:roP dr f c i=2:=by
      unfold roP;rw[q0,q1,q2];rfl
     rw[jbo,e]at hf;intro cap1 tail ht;obtain⟨h1,h2⟩:RowI (Value.int IntKind.i64 2::tail) 1 cap1∧zc (Value.int IntKind.i64 2::tail) 1=[2]:=jfm [2] ht;have hl1:=jbn h1;generalize Value.int IntKind.i64 2::tail=d' at*;refine c_t (by rw[goodL_plain hv.plain,goodL_plain h1.plain];rfl) ?_;rw[hv.rlb,rlbL_plain _ h1.plain];rw[w64 (n:=pts+1) (by omega)];exact⟨(b,r,pts+1,bh,d,m,cap,L,i+1,s,w,dg,q,.own d' (1) cap1,dr,f,cr,fm),rfl,rfl,by simp only[S133_0,jaf,jae];exact⟨jax.2 h1,hV,by simp only[Rw.z,hl1];omega⟩,by simp only;omega,by simp only[S133_0];refine jg9 hf ?_ (fun g=>g);rintro ⟨-,g⟩;exact⟨fun q=>(by cases q),fun pts' bh' w' dg' q' fm' d'' m'' cap'' g1 g2 g3=>g pts' bh' w' dg' q' fm' d'' m'' cap'' g1 (by rw[g2];simp[Rw.z,h2]) g3⟩⟩
    ·have e:roP dr f c i=5:=by
      unfold roP;rw[q0,q1,q2,q3];rfl
     rw[jbo,e]at hf;intro cap1 tail ht;obtain⟨h1,h2⟩:RowI (Value.int IntKind.i64 5::tail) 1 cap1∧zc (Value.int IntKind.i64 5::tail) 1=[5]:=jfm [5] ht;have hl1:=jbn h1;generalize Value.int IntKind.i64 5::tail=d' at*;refine c_t (by rw[goodL_plain hv.plain,goodL_plain h1.plain];rfl) ?_;rw[hv.rlb,rlbL_plain _ h1.plain];rw[w64 (n:=w+1) (by omega)];exact⟨(b,r,pts,bh,d,m,cap,L,i+1,s,w+1,dg,q,.own d' (1) cap1,dr,f,cr,fm),rfl,rfl,by simp only[S133_0,jaf,jae];exact⟨jax.2 h1,hV,by simp only[Rw.z,hl1];omega⟩,by simp only;omega,by simp only[S133_0];refine jg9 hf ?_ (fun g=>g);rintro ⟨-,g⟩;exact⟨fun q=>(by cases q),fun pts' bh' w' dg' q' fm' d'' m'' cap'' g1 g2 g3=>g pts' bh' w' dg' q' fm' d'' m'' cap'' g1 (by rw[g2];simp[Rw.z,h2]) g3⟩⟩
    ·have e:roP dr f c i=4:=by
      unfold roP;rw[q0,q1,q2,q3,q4];rfl
     rw[jbo,e]at hf;intro cap1 tail ht;obtain⟨h1,h2⟩:RowI (Value.int IntKind.i64 4::tail) 1 cap1∧zc (Value.int IntKind.i64 4::tail) 1=[4]:=jfm [4] ht;have hl1:=jbn h1;generalize Value.int IntKind.i64 4::tail=d' at*;refine c_t (by rw[goodL_plain hv.plain,goodL_plain h1.plain];rfl) ?_;rw[hv.rlb,rlbL_plain _ h1.plain];rw[w64 (n:=w+1) (by omega)];exact⟨(b,r,pts,bh,d,m,cap,L,i+1,s,w+1,dg,q,.own d' (1) cap1,dr,f,cr,fm),rfl,rfl,by simp only[S133_0,jaf,jae];exact⟨jax.2 h1,hV,by simp only[Rw.z,hl1];omega⟩,by simp only;omega,by simp only[S133_0];refine jg9 hf ?_ (fun g=>g);rintro ⟨-,g⟩;exact⟨fun q=>(by cases q),fun pts' bh' w' dg' q' fm' d'' m'' cap'' g1 g2 g3=>g pts' bh' w' dg' q' fm' d'' m'' cap'' g1 (by rw[g2];simp[Rw.z,h2]) g3⟩⟩
    ·have e:roP dr f c i=3:=by
      unfold roP;rw[q0,q1,q2,q3,q4];rfl
     rw[jbo,e]at hf;intro cap1 tail ht;obtain⟨h1,h2⟩:RowI (Value.int IntKind.i64 3::tail) 1 cap1∧zc (Value.int IntKind.i64 3::tail) 1=[3]:=jfm [3] ht;have hl1:=jbn h1;generalize Value.int IntKind.i64 3::tail=d' at*;refine c_t (by rw[goodL_plain hv.plain,goodL_plain h1.plain];rfl) ?_;rw[hv.rlb,rlbL_plain _ h1.plain];rw[w64 (n:=w+1) (by omega)];exact⟨(b,r,pts,bh,d,m,cap,L,i+1,s,w+1,dg,q,.own d' (1) cap1,dr,f,cr,fm),rfl,rfl,by simp only[S133_0,jaf,jae];exact⟨jax.2 h1,hV,by simp only[Rw.z,hl1];omega⟩,by simp only;omega,by simp only[S133_0];refine jg9 hf ?_ (fun g=>g);rintro ⟨-,g⟩;exact⟨fun q=>(by cases q),fun pts' bh' w' dg' q' fm' d'' m'' cap'' g1 g2 g3=>g pts' bh' w' dg' q' fm' d'' m'' cap'' g1 (by rw[g2];simp[Rw.z,h2]) g3⟩⟩
   ·have h:=jac h;rw[hv.end (by omega),jbo,plGo,cond_true]at hf;obtain rfl:i=m:=by omega
    refine c_t (by rw[goodL_plain hv.plain];rfl) ?_;rw[hv.rlb];exact hf.1 rfl rfl
  | own d2 m2 cap2=>
   rw[r133_0o];delta fv aq ak al jp ko gp bv az gk k7 qh kf av b6 gz bw i7 gy je ez qf jh ie oa bm dt au bu bp cq fk l4 lh e7 nc dv f9 il ct;simp only[jaf,jae]at hp;obtain⟨hR,hV,hp⟩:=hp;have hv:=jc0.1 hV;have hr:=jax.1 hR;have hzl:=jbn hr;simp only[Rw.z,hzl]at hp hf;have k1:bz ⟨#[57,89,84,73,82]⟩=[57,89,84,73,82]:=rfl;have e0:0+i.toNat*1=i.toNat:=by omega
   rw[k1,e0];apply cond_intro<;>intro h
   ·have h:=jab h;obtain⟨a1,a2,a3⟩:=hv.at hp.1 (by omega);rw[a3]at hf;rw[a1,w64 (n:=i+1) (by omega)];generalize jau d i.toNat=c at*;refine c_t (jaa (by omega)) (c_t rfl (c_t (jaa a2) ?_));rw[jkm];refine cond_intro (fun q0=> ?_) (fun q0=>c_t (by simp) (cond_intro (fun q1=> ?_) (fun q1=>cond_intro (fun q2=> ?_) (fun q2=>cond_intro (fun q3=> ?_) (fun q3=>c_t (by simp) (cond_intro (fun q4=> ?_) (fun q4=> ?_)))))))
    ·have e:roP dr f c i=0:=by
      unfold roP;rw[q0];rfl
     rw[jbo,e]at hf;refine c_t (hr.ask (k:=1) (by omega)) (fun cap1 tail ht=> ?_);obtain⟨h1,h2⟩:=hr.app1 0 ht;have hl1:=jbn h1;generalize List.take (m2*1) d2++ [Value.int IntKind.i64 0]++tail=d' at*;refine c_t (by rw[goodL_plain hv.plain,goodL_plain h1.plain];rfl) ?_;rw[hv.rlb,rlbL_plain _ h1.plain];rw[w64 (n:=w+1) (by omega)];rw[w64 (n:=dg+1) (by omega)];rw[w64 (n:=q+pts) (by omega)];rw[w64 (n:=fm+1) (by omega)];exact⟨(b,r,pts,bh,d,m,cap,L,i+1,s,w+1,dg+1,q+pts,.own d' (m2+1) cap1,dr,f,cr,fm+1),rfl,rfl,by simp only[S133_0,jaf,jae];exact⟨jax.2 h1,hV,by simp only[Rw.z,hl1];omega⟩,by simp only;omega,by simp only[S133_0];refine jg9 hf ?_ (fun g=>g);rintro ⟨-,g⟩;exact⟨fun q=>(by cases q),fun pts' bh' w' dg' q' fm' d'' m'' cap'' g1 g2 g3=>g pts' bh' w' dg' q' fm' d'' m'' cap'' g1 (by rw[g2];simp[Rw.z,h2]) g3⟩⟩
    ·have e:roP dr f c i=1:=by
      unfold roP;rw[q0,q1];rfl
     rw[jbo,e]at hf;refine c_t (hr.ask (k:=1) (by omega)) (fun cap1 tail ht=> ?_);obtain⟨h1,h2⟩:=hr.app1 1 ht;have hl1:=jbn h1;generalize List.take (m2*1) d2++ [Value.int IntKind.i64 1]++tail=d' at*;have e2:plGo (1::jbo dr f (List.drop (i+1).toNat (zc d m)) (i+1)) ⟨pts,bh,w,dg,q,fm⟩=bif decide (fm>0)then(false,⟨pts,bh,w,dg,q,fm⟩)else plGo (jbo dr f (List.drop (i+1).toNat (zc d m)) (i+1)) ⟨pts,bh || decide (pts>0),w+1,dg+1,q+pts,fm⟩:=rfl;rw[e2]at hf;refine cond_intro (fun z=>c_t (by rw[goodL_plain hv.plain,goodL_plain h1.plain];rfl) ?_) (fun z=>c_t (by simp) ?_)
     ·rw[hv.rlb,rlbL_plain _ h1.plain];rw[z,cond_true]at hf;exact hf _ _ _ _ _ _ _ d' _ _ (jax.2 h1)
     ·rw[z,cond_false]at hf;refine c_t (by rw[goodL_plain hv.plain,goodL_plain h1.plain];rfl) ?_;rw[hv.rlb,rlbL_plain _ h1.plain];rw[w64 (n:=w+1) (by omega)];rw[w64 (n:=dg+1) (by omega)];rw[w64 (n:=q+pts) (by omega)];exact⟨(b,r,pts,bh || decide (pts>0),d,m,cap,L,i+1,s,w+1,dg+1,q+pts,.own d' (m2+1) cap1,dr,f,cr,fm),rfl,rfl,by simp only[S133_0,jaf,jae];exact⟨jax.2 h1,hV,by simp only[Rw.z,hl1];omega⟩,by simp only;omega,by simp only[S133_0];refine jg9 hf ?_ (fun g=>g);rintro ⟨-,g⟩;exact⟨fun q=>(by cases q),fun pts' bh' w' dg' q' fm' d'' m'' cap'' g1 g2 g3=>g pts' bh' w' dg' q' fm' d'' m'' cap'' g1 (by rw[g2];simp[Rw.z,h2]) g3⟩⟩
    ·have e:roP dr f c i=2:=by
      unfold roP;rw[q0,q1,q2];rfl
     rw[jbo,e]at hf;refine c_t (hr.ask (k:=1) (by omega)) (fun cap1 tail ht=> ?_);obtain⟨h1,h2⟩:=hr.app1 2 ht;have hl1:=jbn h1;generalize List.take (m2*1) d2++ [Value.int IntKind.i64 2]++tail=d' at*;refine c_t (by rw[goodL_plain hv.plain,goodL_plain h1.plain];rfl) ?_;rw[hv.rlb,rlbL_plain _ h1.plain];rw[w64 (n:=pts+1) (by omega)];exact⟨(b,r,pts+1,bh,d,m,cap,L,i+1,s,w,dg,q,.own d' (m2+1) cap1,dr,f,cr,fm),rfl,rfl,by simp only[S133_0,jaf,jae];exact⟨jax.2 h1,hV,by simp only[Rw.z,hl1];omega⟩,by simp only;omega,by simp only[S133_0];refine jg9 hf ?_ (fun g=>g);rintro ⟨-,g⟩;exact⟨fun q=>(by cases q),fun pts' bh' w' dg' q' fm' d'' m'' cap'' g1 g2 g3=>g pts' bh' w' dg' q' fm' d'' m'' cap'' g1 (by rw[g2];simp[Rw.z,h2]) g3⟩⟩
    ·have e:roP dr f c i=5:=by
      unfold roP;rw[q0,q1,q2,q3];rfl
     rw[jbo,e]at hf;refine c_t (hr.ask (k:=1) (by omega)) (fun cap1 tail ht=> ?_);obtain⟨h1,h2⟩:=hr.app1 5 ht;have hl1:=jbn h1;generalize List.take (m2*1) d2++ [Value.int IntKind.i64 5]++tail=d' at*;refine c_t (by rw[goodL_plain hv.plain,goodL_plain h1.plain];rfl) ?_;rw[hv.rlb,rlbL_plain _ h1.plain];rw[w64 (n:=w+1) (by omega)];exact⟨(b,r,pts,bh,d,m,cap,L,i+1,s,w+1,dg,q,.own d' (m2+1) cap1,dr,f,cr,fm),rfl,rfl,by simp only[S133_0,jaf,jae];exact⟨jax.2 h1,hV,by simp only[Rw.z,hl1];omega⟩,by simp only;omega,by simp only[S133_0];refine jg9 hf ?_ (fun g=>g);rintro ⟨-,g⟩;exact⟨fun q=>(by cases q),fun pts' bh' w' dg' q' fm' d'' m'' cap'' g1 g2 g3=>g pts' bh' w' dg' q' fm' d'' m'' cap'' g1 (by rw[g2];simp[Rw.z,h2]) g3⟩⟩
    ·have e:roP dr f c i=4:=by
      unfold roP;rw[q0,q1,q2,q3,q4];rfl
     rw[jbo,e]at hf;refine c_t (hr.ask (k:=1) (by omega)) (fun cap1 tail ht=> ?_);obtain⟨h1,h2⟩:=hr.app1 4 ht;have hl1:=jbn h1;generalize List.take (m2*1) d2++ [Value.int IntKind.i64 4]++tail=d' at*;refine c_t (by rw[goodL_plain hv.plain,goodL_plain h1.plain];rfl) ?_;rw[hv.rlb,rlbL_plain _ h1.plain];rw[w64 (n:=w+1) (by omega)];exact⟨(b,r,pts,bh,d,m,cap,L,i+1,s,w+1,dg,q,.own d' (m2+1) cap1,dr,f,cr,fm),rfl,rfl,by simp only[S133_0,jaf,jae];exact⟨jax.2 h1,hV,by simp only[Rw.z,hl1];omega⟩,by simp only;omega,by simp only[S133_0];refine jg9 hf ?_ (fun g=>g);rintro ⟨-,g⟩;exact⟨fun q=>(by cases q),fun pts' bh' w' dg' q' fm' d'' m'' cap'' g1 g2 g3=>g pts' bh' w' dg' q' fm' d'' m'' cap'' g1 (by rw[g2];simp[Rw.z,h2]) g3⟩⟩
    ·have e:roP dr f c i=3:=by
      unfold roP;rw[q0,q1,q2,q3,q4];rfl
     rw[jbo,e]at hf;refine c_t (hr.ask (k:=1) (by omega)) (fun cap1 tail ht=> ?_);obtain⟨h1,h2⟩:=hr.app1 3 ht;have hl1:=jbn h1;generalize List.take (m2*1) d2++ [Value.int IntKind.i64 3]++tail=d' at*;refine c_t (by rw[goodL_plain hv.plain,goodL_plain h1.plain];rfl) ?_;rw[hv.rlb,rlbL_plain _ h1.plain];rw[w64 (n:=w+1) (by omega)];exact⟨(b,r,pts,bh,d,m,cap,L,i+1,s,w+1,dg,q,.own d' (m2+1) cap1,dr,f,cr,fm),rfl,rfl,by simp only[S133_0,jaf,jae];exact⟨jax.2 h1,hV,by simp only[Rw.z,hl1];omega⟩,by simp only;omega,by simp only[S133_0];refine jg9 hf ?_ (fun g=>g);rintro ⟨-,g⟩;exact⟨fun q=>(by cases q),fun pts' bh' w' dg' q' fm' d'' m'' cap'' g1 g2 g3=>g pts' bh' w' dg' q' fm' d'' m'' cap'' g1 (by rw[g2];simp[Rw.z,h2]) g3⟩⟩
   ·have h:=jac h;rw[hv.end (by omega),jbo,plGo,cond_true]at hf;obtain rfl:i=m:=by omega
    refine c_t (by rw[goodL_plain hv.plain,goodL_plain hr.plain];rfl) ?_;rw[hv.rlb,rlbL_plain _ hr.plain];exact hf.2 pts bh w dg q fm d2 m2 cap2 hR (by simp) rfl
theorem fn133:Fn1 Tryz.prog 245 Tryz.f245:= .m Tryz.func245
def G23:Env:=Env.nil.add 272 (sp2 s141)
theorem ok_G23:jaw Tryz.prog G23:=jai jap ok141
theorem at_ints:∀{d:E}{n j:Nat},jff (d.take n)=true→j<n→n≤d.length→jb1 .i64 d j=true∧jau d j=(d.map iv).getD j 0
 | .int .i64 k::r,n+1,0,_,_,_=>⟨rfl,rfl⟩
 | .int .i64 k::r,n+1,j+1,h,hj,hn=>by
  have:=at_ints (d:=r) (n:=n) (j:=j) (by simpa[jff]using h) (by omega) (by simpa using hn);simpa[jb1,jau]using this
 | [],n+1,j,_,hj,hn=>by simp at hn
 | .bool _::r,n+1,j,h,_,_ | .string _::r,n+1,j,h,_,_ | .float _ _::r,n+1,j,h,_,_ | .complex _ _ _::r,n+1,j,h,_,_ | .pointer _::r,n+1,j,h,_,_ | .slice _ _ _::r,n+1,j,h,_,_
 | .agg _::r,n+1,j,h,_,_ | .tuple _::r,n+1,j,h,_,_ | .iface _ _::r,n+1,j,h,_,_ | .func _ _ _::r,n+1,j,h,_,_ | .map _::r,n+1,j,h,_,_ | .chan _::r,n+1,j,h,_,_ | .nilFunc::r,n+1,j,h,_,_ | .nilIface::r,n+1,j,h,_,_=>by
  simp[jff]at h
 | .int .i8 _::r,n+1,j,h,_,_ | .int .i16 _::r,n+1,j,h,_,_ | .int .i32 _::r,n+1,j,h,_,_ | .int .u8 _::r,n+1,j,h,_,_ | .int .u16 _::r,n+1,j,h,_,_ | .int .u32 _::r,n+1,j,h,_,_ | .int .u64 _::r,n+1,j,h,_,_=>by
  simp[jff]at h
theorem RowI.at{d:E}{m cap:Nat}(h:RowI d m cap){j:Int}(h0:0≤j)(hj:j<m):jb1 .i64 d j.toNat=true∧(zc d m).drop j.toNat=jau d j.toNat::(zc d m).drop (j+1).toNat:=by
 have hl:=h.len;have hle:=h.le;obtain⟨q1,q2⟩:=at_ints h.bytes (j:=j.toNat) (by omega) (by omega);refine⟨q1,?_⟩;rw[jel (zc d m) _ (by rw[jbn h];omega),show(j+1).toNat=j.toNat+1 by omega,q2];congr 1;simp only[zc,List.getD_eq_getElem?_getD,List.getElem?_map,List.getElem?_take];rw[if_pos (by omega)]
theorem RowI.end{d:E}{m cap:Nat}(h:RowI d m cap){j:Int}(hj:(m:Int)≤j):(zc d m).drop j.toNat=[]:=List.drop_eq_nil_of_le (by rw[jbn h];omega)
def loGo(f:Int):J→Int→Int→Int
 | [],_,a=>a
 | r::rs,i,a=>loGo f rs (i+1) (bif r==0 || (r==1 || i==f)then imin a i else a)
def hiGo(f:Int):J→Int→Int→Int
 | [],_,a=>a
 | r::rs,i,a=>hiGo f rs (i+1) (bif r==0 || (r==1 || i==f)then imax a i else a)
def stP(f lo hi:Int):J→Int→Bool
 | [],_=>true
 | r::rs,i=> !((r==4 || r==5) && (i !=f&& (decide (i>lo) &&decide (i<hi)))) &&stP f lo hi rs (i+1)
def siGo:J→J→Int
 | c::cs,r::rs=>(bif r==4 || hasZ [84,73,82] c then 1 else 0)+siGo cs rs
 | _,_=>0
def V134_0:Y×Bool×Int×Int×Nat×Nat×Int×Int×Y×Int×Int×Int×E×Nat×Nat×Int×Int×Bool×Int→E:=fun(b,r,lo,hi,m3,cap3,L,i,s,w,dg,q,d2,m2,cap2,dr,f,cr,fm)=> [.pointer (some ⟨3,0,some 0⟩),S b,B r,I lo,I hi,.slice (some ⟨401,0,some 1⟩) m3 cap3,I L,I i]
def B134_0:Y×Bool×Int×Int×Nat×Nat×Int×Int×Y×Int×Int×Int×E×Nat×Nat×Int×Int×Bool×Int→O:=fun(b,r,lo,hi,m3,cap3,L,i,s,w,dg,q,d2,m2,cap2,dr,f,cr,fm)=> [some ⟨[.string s,.bool true,.int .i64 w,.int .i64 dg,.int .i64 q,.bool false,.slice (some ⟨401,0,some 1⟩) m2 cap2,.int .u8 dr,.int .i64 f,.bool cr,.int .u8 32,.int .i64 fm],156,true⟩,some ⟨d2,251,true⟩]
def S134_0:LSpecA (Y×Bool×Int×Int×Nat×Nat×Int×Int×Y×Int×Int×Int×E×Nat×Nat×Int×Int×Bool×Int) where
 live:=[0,1,4,5,6,16,17,18]
 mid:=[3,401]
 n:=520
 ap:=[]
 dec vs bs:=match vs,bs with | [.pointer (some ⟨3,0,some 0⟩),.string b,.bool r,.int .i64 lo,.int .i64 hi,.slice (some ⟨401,0,some 1⟩) m3 cap3,.int .i64 L,.int .i64 i],[some ⟨[.string s,.bool true,.int .i64 w,.int .i64 dg,.int .i64 q,.bool false,.slice (some ⟨401,0,some 1⟩) m2 cap2,.int .u8 dr,.int .i64 f,.bool cr,.int .u8 32,.int .i64 fm],156,true⟩,some ⟨d2,251,true⟩]=>some (b,r,lo,hi,m3,cap3,L,i,s,w,dg,q,d2,m2,cap2,dr,f,cr,fm) | _,_=>none
 pre:=fun(b,r,lo,hi,m3,cap3,L,i,s,w,dg,q,d2,m2,cap2,dr,f,cr,fm)=>jbw d2 m2 cap2&&decide (0≤i∧i≤m2∧m2≤1000∧L=m2∧m3=m2)
 fin:=fun(b,r,lo,hi,m3,cap3,L,i,s,w,dg,q,d2,m2,cap2,dr,f,cr,fm) Z=>∀lo' hi',loGo f ((zc d2 m2).drop i.toNat) i lo=lo'→hiGo f ((zc d2 m2).drop i.toNat) i hi=hi'→Z (.exit 0) [.pointer (some ⟨3,0,some 0⟩),S b,B r,I lo',I hi',.slice (some ⟨401,0,some 1⟩) m3 cap3,I L,I m2] [some ⟨[.string s,.bool true,.int .i64 w,.int .i64 dg,.int .i64 q,.bool false,.slice (some ⟨401,0,some 1⟩) m2 cap2,.int .u8 dr,.int .i64 f,.bool cr,.int .u8 32,.int .i64 fm],156,true⟩,some ⟨d2,251,true⟩]
theorem r134_0(b:Y)(r:Bool)(lo:Int)(hi:Int)(m3:Nat)(cap3:Nat)(L:Int)(i:Int)(s:Y)(w:Int)(dg:Int)(q:Int)(d2:E)(m2:Nat)(cap2:Nat)(dr:Int)(f:Int)(cr:Bool)(fm:Int)(jk:Tmps)(R:Exit→E→O→Prop):(jbp Tryz.prog G23 noL Tryz.f246.ntmps (ja6 Tryz.f246 0) (tl S134_0.live (V134_0 (b,r,lo,hi,m3,cap3,L,i,s,w,dg,q,d2,m2,cap2,dr,f,cr,fm)) jk) (ml S134_0.mid (B134_0 (b,r,lo,hi,m3,cap3,L,i,s,w,dg,q,d2,m2,cap2,dr,f,cr,fm))) S134_0.n fun e t' m' _=>S134_0.out R e t' m')=(ja (ic d2) R i L .i64 (gk (rlbL [] d2) 251) d2 (B r::l0 lo hi L i 401 m3 cap3) m3 0 (ko cr s w dg q dr f fm m2 cap2) (bw (ez i 0 d2) (ez i 1 d2 || true) (ez i 0 d2 || (ez i 1 d2 || i==f)) (bm (ic d2) R (ko cr s w dg q dr f fm m2 cap2::gk (rlbL [] d2) 251) (aq 3::dt r b (I (imax hi i)::fk L i 401 m3 cap3) (I (imin lo i)))) (bm (ic d2) R (ko cr s w dg q dr f fm m2 cap2::gk (rlbL [] d2) 251) (aq 3::dt r b (ak hi::fk L i 401 m3 cap3) (ak lo)))) (aq 3) (S b)):=by kernel_rfl
theorem l134_0:∀t m n K,S134_0.hA t m n K→Ab.Sem Tryz.prog Tryz.f246.ntmps (.loop (ja6 Tryz.f246 0)) t m n K:=by
 refine jbv ok_G23 hmix (by kernel_rfl) (ja1 _) S134_0 V134_0 B134_0 (fun(b,r,lo,hi,m3,cap3,L,i,s,w,dg,q,d2,m2,cap2,dr,f,cr,fm)=>(m2-i).toNat) ?_ ?_ ?_
 ·intro vs bs s h;simp only[S134_0]at h;split at h
  all_goals first | (cases h;exact⟨rfl,rfl⟩) | cases h | (split at h<;>first | (rename_i hq;cases h;have hq:=jah hq;subst hq;exact⟨rfl,rfl⟩) | cases h)
 ·exact fun⟨b,r,lo,hi,m3,cap3,L,i,s,w,dg,q,d2,m2,cap2,dr,f,cr,fm⟩ hp=>by
   simp only[S134_0,jaf]at hp;have hr:=jax.1 hp.1;simp[V134_0,B134_0,S134_0,ja3,jb2,idsL,ids,jaq hr.plain]
 ·intro⟨b,r,lo,hi,m3,cap3,L,i,s,w,dg,q,d2,m2,cap2,dr,f,cr,fm⟩ jk Z hp hf;rw[r134_0];delta fv av b6 gz gy ct ja aq bw bm dt ak au bu bp cq bv fk gk al jp ko ic je ez az l0;simp only[S134_0]at hp hf;simp only[jaf,jae]at hp;obtain⟨hR,hp⟩:=hp;have hr:=jax.1 hR;have hzl:=jbn hr;have e0:0+i.toNat*1=i.toNat:=by omega
  rw[e0];simp only[hr.rlb];have hg:∀ps,(jav ps d2&&true&&true)=true:=fun ps=>by rw[hr.good];rfl
  apply cond_intro<;>intro h
  ·have h:=jab h;obtain⟨a1,a3⟩:=hr.at hp.1 (by omega);rw[a3,loGo,hiGo]at hf;rw[a1,w64 (n:=i+1) (by omega)];generalize jau d2 i.toNat=c at*;refine c_t (jaa (by omega)) (c_t rfl (c_t (by simp) (cond_intro (fun z=>c_t (hg _) ?_) (fun z=>c_t (hg _) ?_))))
   ·rw[z,cond_true,cond_true]at hf;exact⟨(b,r,imin lo i,imax hi i,m3,cap3,L,i+1,s,w,dg,q,d2,m2,cap2,dr,f,cr,fm),rfl,rfl,by simp only[S134_0,jaf,jae];exact⟨hR,by omega⟩,by simp only;omega,hf⟩
   ·rw[z,cond_false,cond_false]at hf;exact⟨(b,r,lo,hi,m3,cap3,L,i+1,s,w,dg,q,d2,m2,cap2,dr,f,cr,fm),rfl,rfl,by simp only[S134_0,jaf,jae];exact⟨hR,by omega⟩,by simp only;omega,hf⟩
  ·have h:=jac h;rw[hr.end (by omega),loGo,hiGo]at hf;obtain rfl:i=m2:=by omega
   exact c_t (hg _) (hf lo hi rfl rfl)
def V134_2:Y×Bool×Int×Int×Nat×Nat×Int×Int×Y×Int×Int×Int×E×Nat×Nat×Int×Int×Bool×Int→E:=fun(b,r,lo,hi,m3,cap3,L,i,s,w,dg,q,d2,m2,cap2,dr,f,cr,fm)=> [.pointer (some ⟨3,0,some 0⟩),S b,B r,I lo,I hi,.slice (some ⟨401,0,some 1⟩) m3 cap3,I L,I i]
def B134_2:Y×Bool×Int×Int×Nat×Nat×Int×Int×Y×Int×Int×Int×E×Nat×Nat×Int×Int×Bool×Int→O:=fun(b,r,lo,hi,m3,cap3,L,i,s,w,dg,q,d2,m2,cap2,dr,f,cr,fm)=> [some ⟨[.string s,.bool true,.int .i64 w,.int .i64 dg,.int .i64 q,.bool false,.slice (some ⟨401,0,some 1⟩) m2 cap2,.int .u8 dr,.int .i64 f,.bool cr,.int .u8 32,.int .i64 fm],156,true⟩,some ⟨d2,251,true⟩]
def S134_2:LSpecA (Y×Bool×Int×Int×Nat×Nat×Int×Int×Y×Int×Int×Int×E×Nat×Nat×Int×Int×Bool×Int) where
 live:=[0,1,4,5,6,47,48,49]
 mid:=[3,401]
 n:=560
 ap:=[]
 dec vs bs:=match vs,bs with | [.pointer (some ⟨3,0,some 0⟩),.string b,.bool r,.int .i64 lo,.int .i64 hi,.slice (some ⟨401,0,some 1⟩) m3 cap3,.int .i64 L,.int .i64 i],[some ⟨[.string s,.bool true,.int .i64 w,.int .i64 dg,.int .i64 q,.bool false,.slice (some ⟨401,0,some 1⟩) m2 cap2,.int .u8 dr,.int .i64 f,.bool cr,.int .u8 32,.int .i64 fm],156,true⟩,some ⟨d2,251,true⟩]=>some (b,r,lo,hi,m3,cap3,L,i,s,w,dg,q,d2,m2,cap2,dr,f,cr,fm) | _,_=>none
 pre:=fun(b,r,lo,hi,m3,cap3,L,i,s,w,dg,q,d2,m2,cap2,dr,f,cr,fm)=>jbw d2 m2 cap2&&decide (0≤i∧i≤m2∧m2≤1000∧L=m2∧m3=m2)
 fin:=fun(b,r,lo,hi,m3,cap3,L,i,s,w,dg,q,d2,m2,cap2,dr,f,cr,fm) Z=>(bif stP f lo hi ((zc d2 m2).drop i.toNat) i then Z (.exit 2) [.pointer (some ⟨3,0,some 0⟩),S b,B r,I lo,I hi,.slice (some ⟨401,0,some 1⟩) m3 cap3,I L,I m2] [some ⟨[.string s,.bool true,.int .i64 w,.int .i64 dg,.int .i64 q,.bool false,.slice (some ⟨401,0,some 1⟩) m2 cap2,.int .u8 dr,.int .i64 f,.bool cr,.int .u8 32,.int .i64 fm],156,true⟩,some ⟨d2,251,true⟩]else∀i',Z .ret [.pointer (some ⟨3,0,some 0⟩),S b,B false,I lo,I hi,.slice (some ⟨401,0,some 1⟩) m3 cap3,I L,I i'] [some ⟨[.string s,.bool true,.int .i64 w,.int .i64 dg,.int .i64 q,.bool false,.slice (some ⟨401,0,some 1⟩) m2 cap2,.int .u8 dr,.int .i64 f,.bool cr,.int .u8 32,.int .i64 fm],156,true⟩,some ⟨d2,251,true⟩])
theorem r134_2(b:Y)(r:Bool)(lo:Int)(hi:Int)(m3:Nat)(cap3:Nat)(L:Int)(i:Int)(s:Y)(w:Int)(dg:Int)(q:Int)(d2:E)(m2:Nat)(cap2:Nat)(dr:Int)(f:Int)(cr:Bool)(fm:Int)(jk:Tmps)(R:Exit→E→O→Prop):(jbp Tryz.prog G23 noL Tryz.f246.ntmps (ja6 Tryz.f246 2) (tl S134_2.live (V134_2 (b,r,lo,hi,m3,cap3,L,i,s,w,dg,q,d2,m2,cap2,dr,f,cr,fm)) jk) (ml S134_2.mid (B134_2 (b,r,lo,hi,m3,cap3,L,i,s,w,dg,q,d2,m2,cap2,dr,f,cr,fm))) S134_2.n fun e t' m' _=>S134_2.out R e t' m')=(ja (ic d2) R i L .i64 (gk (rlbL [] d2) 251) d2 (B r::l0 lo hi L i 401 m3 cap3) m3 2 (ko cr s w dg q dr f fm m2 cap2) (bif br (ez i 4 d2) (bif i !=f then decide (i>lo) || true else true) (bif ez i 5 d2 then bif i !=f then decide (i>lo) || true else true else true)then lr (br (ez i 4 d2) (i !=f&& (decide (i>lo) &&ct i hi)) (ez i 5 d2&& (i !=f&& (decide (i>lo) &&ct i hi)))) (ic d2) R (gk (rlbL [] d2) 251) (l0 lo hi L i 401 m3 cap3) (ak lo::ak hi::fk L i 401 m3 cap3) (ko cr s w dg q dr f fm m2 cap2) (aq 3) (S b) (B false) (aq 3) (S b) (B r)else False) (aq 3) (S b)):=by kernel_rfl
theorem l134_2:∀t m n K,S134_2.hA t m n K→Ab.Sem Tryz.prog Tryz.f246.ntmps (.loop (ja6 Tryz.f246 2)) t m n K:=by
 refine jbv ok_G23 hmix (by kernel_rfl) (ja1 _) S134_2 V134_2 B134_2 (fun(b,r,lo,hi,m3,cap3,L,i,s,w,dg,q,d2,m2,cap2,dr,f,cr,fm)=>(m2-i).toNat) ?_ ?_ ?_
 ·intro vs bs s h;simp only[S134_2]at h;split at h
  all_goals first | (cases h;exact⟨rfl,rfl⟩) | cases h | (split at h<;>first | (rename_i hq;cases h;have hq:=jah hq;subst hq;exact⟨rfl,rfl⟩) | cases h)
 ·exact fun⟨b,r,lo,hi,m3,cap3,L,i,s,w,dg,q,d2,m2,cap2,dr,f,cr,fm⟩ hp=>by
   simp only[S134_2,jaf]at hp;have hr:=jax.1 hp.1;simp[V134_2,B134_2,S134_2,ja3,jb2,idsL,ids,jaq hr.plain]
 ·intro⟨b,r,lo,hi,m3,cap3,L,i,s,w,dg,q,d2,m2,cap2,dr,f,cr,fm⟩ jk Z hp hf;rw[r134_2];delta fv av b6 gz gy ct ja aq bm lr ak al jp ko au bu bp cq bv fk az l0 gk ic br je ez;simp only[S134_2]at hp hf;simp only[jaf,jae]at hp;obtain⟨hR,hp⟩:=hp;have hr:=jax.1 hR;have hzl:=jbn hr;have e0:0+i.toNat*1=i.toNat:=by omega
  rw[e0];simp only[hr.rlb];have hg:∀ps,(jav ps d2&&true&&true)=true:=fun ps=>by rw[hr.good];rfl
  apply cond_intro<;>intro h
  ·have h:=jab h;obtain⟨a1,a3⟩:=hr.at hp.1 (by omega);rw[a3,stP]at hf;rw[a1,w64 (n:=i+1) (by omega)];generalize jau d2 i.toNat=c at*;have e:(bif c==4 then i !=f&& (decide (i>lo) &&decide (i<hi))else c==5&& (i !=f&& (decide (i>lo) &&decide (i<hi))))=((c==4 || c==5) && (i !=f&& (decide (i>lo) &&decide (i<hi)))):=by cases c==4<;>rfl
   rw[e];refine c_t (jaa (by omega)) (c_t rfl (c_t (by simp) (cond_intro (fun z=>c_t (hg _) ?_) (fun z=>c_t (hg _) ?_))))
   ·rw[z,Bool.not_true,Bool.false_and,cond_false]at hf;exact hf i
   ·rw[z,Bool.not_false,Bool.true_and]at hf;exact⟨(b,r,lo,hi,m3,cap3,L,i+1,s,w,dg,q,d2,m2,cap2,dr,f,cr,fm),rfl,rfl,by simp only[S134_2,jaf,jae];exact⟨hR,by omega⟩,by simp only;omega,hf⟩
  ·have h:=jac h;rw[hr.end (by omega),stP,cond_true]at hf;obtain rfl:i=m2:=by omega
   exact c_t (hg _) hf
def V135_0:Y×Int×Int×E×Nat×Nat×Int×Int×Y×Int×Int×Int×E×Nat×Nat×Int×Int×Bool×Int→E:=fun(b,r,n,d,m,cap,L,i,s,w,dg,q,d2,m2,cap2,dr,f,cr,fm)=> [.pointer (some ⟨3,0,some 0⟩),S b,I r,I n,.slice (some ⟨600,0,some 1⟩) m cap,I L,I i]
def B135_0:Y×Int×Int×E×Nat×Nat×Int×Int×Y×Int×Int×Int×E×Nat×Nat×Int×Int×Bool×Int→O:=fun(b,r,n,d,m,cap,L,i,s,w,dg,q,d2,m2,cap2,dr,f,cr,fm)=> [some ⟨[.string s,.bool true,.int .i64 w,.int .i64 dg,.int .i64 q,.bool false,.slice (some ⟨401,0,some 1⟩) m2 cap2,.int .u8 dr,.int .i64 f,.bool cr,.int .u8 32,.int .i64 fm],156,true⟩,some ⟨d,5,false⟩,some ⟨d2,251,true⟩]
def S135_0:LSpecA (Y×Int×Int×E×Nat×Nat×Int×Int×Y×Int×Int×Int×E×Nat×Nat×Int×Int×Bool×Int) where
 live:=[0,1,4,5,9,10,11]
 mid:=[3,600,401]
 n:=610
 ap:=[(.tmp 9,600)]
 dec vs bs:=match vs,bs with | [.pointer (some ⟨3,0,some 0⟩),.string b,.int .i64 r,.int .i64 n,.slice (some ⟨600,0,some 1⟩) m cap,.int .i64 L,.int .i64 i],[some ⟨[.string s,.bool true,.int .i64 w,.int .i64 dg,.int .i64 q,.bool false,.slice (some ⟨401,0,some 1⟩) m2 cap2,.int .u8 dr,.int .i64 f,.bool cr,.int .u8 32,.int .i64 fm],156,true⟩,some ⟨d,5,false⟩,some ⟨d2,251,true⟩]=>some (b,r,n,d,m,cap,L,i,s,w,dg,q,d2,m2,cap2,dr,f,cr,fm) | _,_=>none
 pre:=fun(b,r,n,d,m,cap,L,i,s,w,dg,q,d2,m2,cap2,dr,f,cr,fm)=>jbw d2 m2 cap2&& (vwOK d m&&decide (0≤i∧i≤m∧m2=m∧m≤1000∧L=m∧0≤n∧n≤i))
 fin:=fun(b,r,n,d,m,cap,L,i,s,w,dg,q,d2,m2,cap2,dr,f,cr,fm) Z=>∀n',n+siGo ((zc d m).drop i.toNat) ((zc d2 m2).drop i.toNat)=n'→Z (.exit 0) [.pointer (some ⟨3,0,some 0⟩),S b,I r,I n',.slice (some ⟨600,0,some 1⟩) m cap,I L,I m] [some ⟨[.string s,.bool true,.int .i64 w,.int .i64 dg,.int .i64 q,.bool false,.slice (some ⟨401,0,some 1⟩) m2 cap2,.int .u8 dr,.int .i64 f,.bool cr,.int .u8 32,.int .i64 fm],156,true⟩,some ⟨d,5,false⟩,some ⟨d2,251,true⟩]
theorem r135_0(b:Y)(r:Int)(n:Int)(d:E)(m:Nat)(cap:Nat)(L:Int)(i:Int)(s:Y)(w:Int)(dg:Int)(q:Int)(d2:E)(m2:Nat)(cap2:Nat)(dr:Int)(f:Int)(cr:Bool)(fm:Int)(jk:Tmps)(R:Exit→E→O→Prop):(jbp Tryz.prog G23 noL Tryz.f247.ntmps (ja6 Tryz.f247 0) (tl S135_0.live (V135_0 (b,r,n,d,m,cap,L,i,s,w,dg,q,d2,m2,cap2,dr,f,cr,fm)) jk) (ml S135_0.mid (B135_0 (b,r,n,d,m,cap,L,i,s,w,dg,q,d2,m2,cap2,dr,f,cr,fm))) S135_0.n fun e t' m' _=>S135_0.out R e t' m')=(ja (kf [] d d2 600 600&&true) R i L .u8 (k7 [] d 600::gk (rlbL [(600,600)] d2) 251) d (l0 r n L i 600 m cap) m 0 (ko cr s w dg q dr f fm m2 cap2) (ig (b6 i (m2:Int)) (jb1 .i64 d2 (gy i) && (ez i 4 d2 || b6 (je i d) 256&&true)) (ez i 4 d2 || decide (idxZ (bz ⟨#[84,73,82]⟩) (je i d)≥0)) (bm (kf [] d d2 600 600&&true) R (ko cr s w dg q dr f fm m2 cap2::k7 [] d 600::gk (rlbL [(600,600)] d2) 251) (aq 3::bk b (bu n::fk L i 600 m cap) (ak r))) (bm (kf [] d d2 600 600&&true) R (ko cr s w dg q dr f fm m2 cap2::k7 [] d 600::gk (rlbL [(600,600)] d2) 251) (aq 3::bk b (ak n::fk L i 600 m cap) (ak r)))) (aq 3) (S b)):=by kernel_rfl
theorem l135_0:LOKf Tryz.prog (oneL 0 S135_0.hA) Tryz.f247:=by
 refine jbe (h:=S135_0.hA) (by kernel_rfl) (jbv ok_G23 hmix (by kernel_rfl) (ja1 _) S135_0 V135_0 B135_0 (fun(b,r,n,d,m,cap,L,i,s,w,dg,q,d2,m2,cap2,dr,f,cr,fm)=>(m-i).toNat) ?_ ?_ ?_)
 ·intro vs bs s h;simp only[S135_0]at h;split at h
  all_goals first | (cases h;exact⟨rfl,rfl⟩) | cases h | (split at h<;>first | (rename_i hq;cases h;have hq:=jah hq;subst hq;exact⟨rfl,rfl⟩) | cases h)
 ·exact fun⟨b,r,n,d,m,cap,L,i,s,w,dg,q,d2,m2,cap2,dr,f,cr,fm⟩ hp=>by
   simp only[S135_0,jaf]at hp;have hr:=jax.1 hp.1;simp[V135_0,B135_0,S135_0,ja3,jb2,idsL,ids,jaq hr.plain,jaq (jc0.1 hp.2.1).plain]
 ·intro⟨b,r,n,d,m,cap,L,i,s,w,dg,q,d2,m2,cap2,dr,f,cr,fm⟩ jk Z hp hf;rw[r135_0];delta fv av b6 gz gy ct ja aq ig bm bk ak au bu bp cq bv fk gk k7 al jp ko kf je ez az l0;simp only[S135_0]at hp hf;simp only[jaf,jae]at hp;obtain⟨hR,hV,hp⟩:=hp;have hr:=jax.1 hR;have hzl:=jbn hr;have hv:=jc0.1 hV;have e0:0+i.toNat*1=i.toNat:=by omega
  rw[e0];simp only[hr.rlb,hv.rlb];have hg:∀ps,(jav ps d&& (jav ps d2&&true) &&true)=true:=fun ps=>by rw[hr.good,goodL_plain hv.plain];rfl
  have k:bz ⟨#[84,73,82]⟩=[84,73,82]:=rfl;rw[k];apply cond_intro<;>intro h
  ·have h:=jab h;obtain⟨a1,a3⟩:=hr.at hp.1 (by omega);obtain⟨b1,b2,b3⟩:=hv.at hp.1 (by omega);rw[a3,b3,siGo]at hf;rw[a1,b1,w64 (n:=i+1) (by omega),jkm];generalize jau d2 i.toNat=c at*;generalize jau d i.toNat=x at*;refine c_t (jaa (by omega)) (c_t rfl (c_t (by rw[jaa (show 0≤i∧i<(m2:Int)by omega),jaa b2];simp) (cond_intro (fun z=>c_t (hg _) ?_) (fun z=>c_t (hg _) ?_))))
   ·rw[z,cond_true,←Int.add_assoc]at hf;rw[w64 (n:=n+1) (by omega)];exact⟨(b,r,n+1,d,m,cap,L,i+1,s,w,dg,q,d2,m2,cap2,dr,f,cr,fm),rfl,rfl,by simp only[S135_0,jaf,jae];exact⟨hR,hV,by omega⟩,by simp only;omega,hf⟩
   ·rw[z,cond_false,Int.zero_add]at hf;exact⟨(b,r,n,d,m,cap,L,i+1,s,w,dg,q,d2,m2,cap2,dr,f,cr,fm),rfl,rfl,by simp only[S135_0,jaf,jae];exact⟨hR,hV,by omega⟩,by simp only;omega,hf⟩
  ·have h:=jac h;rw[hv.end (by omega),siGo,Int.add_zero]at hf;obtain rfl:i=m:=by omega
   exact c_t (hg _) (hf n rfl);intro _ _ _ _ h1;cases h1
theorem fn134:Fn1 Tryz.prog 246 Tryz.f246:= .m Tryz.func246
theorem fn135:Fn1 Tryz.prog 247 Tryz.f247:= .m Tryz.func247
theorem lok134:LOKf Tryz.prog (twoL 0 S134_0.hA 2 S134_2.hA) Tryz.f246:=jeu (by kernel_rfl) (by kernel_rfl) l134_0 l134_2
def G24:Env:=Env.nil.add 272 (sp2 s141)
theorem ok_G24:jaw Tryz.prog G24:=jai jap ok141
def G25:Env:=((((((Env.nil.add 129 (sp2 s132)).add 130 (sp2 s130)).add 203 (sp2 s102)).addG 244 (inlQ Tryz.prog G20 (oneL 0 S131_0.hA) Tryz.f244)).addG 245 (inlQ Tryz.prog G22 (oneL 0 S133_0.hA) Tryz.f245)).addG 246 (inlQ Tryz.prog G23 (twoL 0 S134_0.hA 2 S134_2.hA) Tryz.f246)).addG 247 (inlQ Tryz.prog G24 (oneL 0 S135_0.hA) Tryz.f247)
theorem ok_G25:jaw Tryz.prog G25:=jao (jao (jao (jao (jai (jai (jai jap ok132) ok130) ok102) (jar ok_G20 hmix fn131 lok131)) (jar ok_G22 hmix fn133 l133_0)) (jar ok_G23 hmix fn134 lok134)) (jar ok_G24 hmix fn135 l135_0)
def look(m:Lk):Value→O
 | Value.tuple ⟨[Value.pointer (some a),_]⟩=>match m a.block with
  | some b=>match b.c[6]? with
   | some (Value.slice (some a') _ _)=> [some b,m a'.block]
   | _=> [some b]
  | none=> []
 | _=> []
def nD(b:J):Bool×Int×Int:=je5 [36,83,43,45] b 0 (-1)
def nR(b:J):J:=jbo (nD b).2.1 (nD b).2.2 b 0
def nP(b:J):Bool×PlS:=plGo (nR b) ⟨0,false,0,0,0,0⟩
def nPok(b:J):Bool:=(nP b).1&& (decide ((nP b).2.pts≤1) && (decide ((nP b).2.dg≥1) && (decide ((nP b).2.dg≤9) && !((nP b).2.bh&&decide ((nP b).2.fm>0)))))
def nS(b:J):Bool:=stP (nD b).2.2 (loGo (nD b).2.2 (nR b) 0 b.length) (hiGo (nD b).2.2 (nR b) 0 (-1)) (nR b) 0
def nG(b:J)(cr:Bool):Int:=siGo b (nR b)+(bif cr then 1 else 0)
def nSt(b:J):Bool:=hasZ b 42&&hasZ b 90 || (hasZ b 42 || hasZ b 90) && (nD b).2.1 !=0
def numQ(b:J)(cr:Bool):Bool:= !anyZ b [65,88,67,68] && ((nD b).1&& (!nSt b&& (nPok b&& (nS b&&decide (nG b cr≤1)))))
def jj6(s:Y)(cr:Bool)(x m cap:Nat):E:=
 [.string s,.bool true,.int .i64 ((nP (jan (bz s))).2.w+(bif cr then 2 else 0)),.int .i64 (nP (jan (bz s))).2.dg,.int .i64 (nP (jan (bz s))).2.q,.bool (nG (jan (bz s)) cr==1),
  .slice (some ⟨x,0,some 1⟩) m cap,.int .u8 (nD (jan (bz s))).2.1,.int .i64 (nD (jan (bz s))).2.2,.bool cr,.int .u8 (bif hasZ (jan (bz s)) 42 then 42 else 32),.int .i64 (nP (jan (bz s))).2.fm]
def jk4(s:Y)(cr:Bool):J:=nR (jan (bz s))++(bif cr then [4,4]else [])
theorem jht(dr f:Int):∀(l:J)(i:Int),(jbo dr f l i).length=l.length
 | [],_=>rfl
 | c::r,i=>by simp[jbo,jht dr f r]
theorem si_rng:∀(a b:J),0≤siGo a b∧siGo a b≤a.length
 | [],_=>by simp[siGo]
 | _::_,[]=>by simp[siGo];omega
 | c::cs,r::rs=>by
  have:=si_rng cs rs;rw[siGo,List.length_cons];cases(r==4 || hasZ [84,73,82] c) <;>simp only[cond_true,cond_false] <;>omega
theorem jil:∀(l:J)(a:PlS),(a.w≤(plGo l a).2.w∧(plGo l a).2.w≤a.w+l.length)∧(a.dg≤(plGo l a).2.dg∧(plGo l a).2.dg≤a.dg+l.length)∧(a.fm≤(plGo l a).2.fm∧(plGo l a).2.fm≤a.fm+l.length)
 | [],a=>by simp[plGo]
 | r::rs,a=>by
  rw[plGo,List.length_cons];cases r==2 with
  | true=>have:=jil rs ⟨a.pts+1,a.bh,a.w,a.dg,a.q,a.fm⟩;simp only[cond_true]at this ⊢;omega
  | false=>
   cases r==0 with
   | true=>have:=jil rs ⟨a.pts,a.bh,a.w+1,a.dg+1,a.q+a.pts,a.fm+1⟩;simp only[cond_true,cond_false]at this ⊢;omega
   | false=>
    cases r==1 with
    | true=>
     cases decide (a.fm>0)with
     | true=>simp only[cond_true,cond_false];omega
     | false=>have:=jil rs ⟨a.pts,a.bh || decide (a.pts>0),a.w+1,a.dg+1,a.q+a.pts,a.fm⟩;simp only[cond_true,cond_false]at this ⊢;omega
    | false=>have:=jil rs ⟨a.pts,a.bh,a.w+1,a.dg,a.q,a.fm⟩;simp only[cond_false]at this ⊢;omega
theorem jih{s:J}{cr:Bool}(h:crZ s=cr):jan s=bif cr then s.take (s.length-2)else s:=by
 unfold jan;rw[h];cases cr<;>rfl
theorem cr_suf(l:J):(sufZ l [67,82] || sufZ l [68,66])=crZ l:=by
 unfold sufZ crZ;rw[Bool.eq_iff_iff];simp only[Bool.or_eq_true,jaf,jae,List.length_cons,List.length_nil];constructor
 ·rintro (⟨a,b⟩ | ⟨a,b⟩)
  ·exact⟨a,.inl b⟩
  ·exact⟨a,.inr b⟩
 ·rintro ⟨a,b | b⟩
  ·exact .inl ⟨a,b⟩
  ·exact .inr ⟨a,b⟩
theorem asc_take{l:J}(h:asc l=true)(n:Nat):asc (l.take n)=true:=by
 simp only[asc,List.all_eq_true]at h ⊢;exact fun x hx=>h x (List.mem_of_mem_take hx)
def jw:E:=[.bool false]
def l5(a:Value→O→Prop):Prop:=a (co jw (.pointer none)) []
def rn(d:Bool)(a c:Y)(f:E)(e:Prop)(b:Value→O→Prop):Prop:=bif fy a&& (fy ⟨#[65,88,67,68]⟩ && (asc (bz a) &&asc (bz ⟨#[65,88,67,68]⟩)))then bif anyZ (bz a) (bz ⟨#[65,88,67,68]⟩)then l5 b else ip (S131_0.toLSpec.pre (a,(false,(natO 4,((0:Int),(c,((0:Int),(-(1:Int),d)))))))) (je5 [36,83,43,45] (bz a) 0 (-1)).fst e (jz (Int→Tmps→b (co f (.pointer none)) []))else False
def rp(j:Bool)(a i:Y)(b g:Int)(l:E)(k:Prop)(h:Value→O→Prop):Prop:=je5 [36,83,43,45] (bz a) 0 (-1)=(true,(b,g))→Tmps→jy (ke a 42) (ke a 90 || (ke a 42 || (ke a 90 || true))) (ke a 42 || (ke a 90 || true)) (br (ke a 42) (ke a 90 || (bif ke a 42 then b !=0 else ke a 90&&b !=0)) (bif ke a 42 then b !=0 else ke a 90&&b !=0)) (h (du jw (.pointer none)) []) (∀c:Nat,oy (S133_0.toLSpec.pre (a,(false,((0:Int),(false,(j3 a 344 400,(a.size,(c,(natO a.size,((0:Int),(i,((0:Int),((0:Int),((0:Int),(Rw.nil,(b,(g,(j,(0:Int))))))))))))))))))) (plGo (jbo b g (lg a 344 400) 0) (PlS.mk 0 false 0 0 0 0)).fst a c 344 400 410 ((Rw.is Rw.nil=false→lg a 344 400=([]:J)→km (j3 a 344 400) 410 (h (du jw (.pointer none)) []))∧k) (m7 (jz (Int→Int→(∀d:E,∀e:Nat,∀f:Nat,jbw d e f=true→kp (gm d 410) (j3 a 344 400) 410 (h (du l (.pointer none)) []))))))
def la(a:E):E:=rlbL [] (rlbL [] a)
def nd(a:E):E:=rlbL [(569,600)] (la a)
def rq(k:Bool)(b c:Y)(d e f i j l:Int)(a:E)(g h:Nat)(m:Prop):Prop:=bif gm (la a) 560 then Tmps→(∀o:Nat,jf b.size o→(bif jav [(569,600)] (Lib.strCells b) && (jav [(569,600)] (la a) &&true) &&true&& (ja3 610 (j3 b 569 600) &&gm (nd a) 610)then ia (Px.S135_0.toLSpec.pre (b,((0:Int),((0:Int),(j3 b 569 600,(b.size,(o,(natO b.size,((0:Int),(c,(d,(e,(f,(nd a,(g,(h,(i,(j,(k,l))))))))))))))))))) m else False))else False
def ru(a:Y)(d e:Int)(b:E)(c:Nat)(g h:Prop)(f:Value→O→Prop):Prop:=0+siGo (lg a 569 600) (ii 0 [(569,600)] (la b) c)=d→kp (gm (nd b) 610) (j3 a 569 600) 610 (bif decide (e>1)then l5 f else bif ke a 42 then g else h)
def jb:E:=[.bool true]
def ry(f:Y)(e g h i j k l m:Int)(a:E)(b c n:Nat)(d:Value→O→Prop):Prop:=bif jh (nd a) b c&&jb0 (c+2) 8 then∀q:Nat,∀r:E,dv r q (c+2)→d (co jb (aq 3)) (jp true (au e==1) true f (il g 2) h i j k l m (c+2) q (some (.mk n 0 (some 1)))::gk ((nd a).take (c*1)++ [ak 4,ak 4]++r) 251)else False
theorem v103(s:Y)(R:Value→O→Prop):(jaz Tryz.prog G25 noL Tryz.f204 [S s] (fun _=>none) 0 (fun v m _=>R v (look m v)))=(ig (b7 s) (sufZ (bz s) (bz ⟨#[67,82]⟩) || b7 s&&true) (sufZ (bz s) (bz ⟨#[67,82]⟩) || sufZ (bz s) (bz ⟨#[68,66]⟩)) (bif ky s 2 then rn true (ib s 2) s jw (∀a:Int,∀b:Int,rp true (ib s 2) s a b jw (∀d:Int,∀e:Bool,∀f:Int,∀g:Int,∀h:Int,∀i:Int,∀j:E,∀k:Nat,∀l:Nat,jbw j k l=true→zc j k=Rw.z Rw.nil++jbo a b (lg (ib s 2) 344 400) 0→plGo (jbo a b (lg (ib s 2) 344 400) 0) (PlS.mk 0 false 0 0 0 0)=(true,PlS.mk d e f g h i)→kp (gm j 410) (j3 (ib s 2) 344 400) 410 (jy (decide (d≤1)) (ns e g) true (!(decide (d≤1) && (e9 g 1&& (decide (g≤9) &&br e (!f9 i) (!false))))) (l5 R) (bif jv [] j 520 then bif S134_0.toLSpec.pre (ib s 2,(false,(cw (ib s 2),(-(1:Int),(k,(l,(natO k,((0:Int),(s,(f,(g,(h,(rlbL [] j,(k,(l,(a,(b,(true,i))))))))))))))))))then∀m:Int,∀n:Int,loGo b (ii 0 [] j k) 0 (cw (ib s 2))=m→hiGo b (ii 0 [] j k) 0 (-1)=n→jr (rlbL [] j) 520 (bif jv [] (rlbL [] j) 560 then ip (S134_2.toLSpec.pre (ib s 2,(false,(m,(n,(k,(l,(natO k,((0:Int),(s,(f,(g,(h,(la j,(k,(l,(a,(b,(true,i))))))))))))))))))) (stP b m n (ii 0 [] (rlbL [] j) k) 0) (rq true (ib s 2) s f g h a b i j k l (∀p:Int,ru (ib s 2) p (au p) j k (ry s p f g h a b 42 i j l k 644 R) (ry s p f g h a b 32 i j l k 640 R) R)) (Int→km (la j) 560 (l5 R))else False)else False else False))) R) R else False) (rn false s s (im false) (∀a:Int,∀b:Int,rp false s s a b (im false) (∀d:Int,∀e:Bool,∀f:Int,∀g:Int,∀h:Int,∀i:Int,∀j:E,∀k:Nat,∀l:Nat,jbw j k l=true→zc j k=Rw.z Rw.nil++jbo a b (lg s 344 400) 0→plGo (jbo a b (lg s 344 400) 0) (PlS.mk 0 false 0 0 0 0)=(true,PlS.mk d e f g h i)→kp (gm j 410) (j3 s 344 400) 410 (jy (decide (d≤1)) (ns e g) true (!(decide (d≤1) && (e9 g 1&& (decide (g≤9) &&br e (!f9 i) (!false))))) (l5 R) (bif jv [] j 520 then bif S134_0.toLSpec.pre (s,(false,(am s,(-(1:Int),(k,(l,(natO k,((0:Int),(s,(f,(g,(h,(rlbL [] j,(k,(l,(a,(b,(false,i))))))))))))))))))then∀m:Int,∀n:Int,loGo b (ii 0 [] j k) 0 (am s)=m→hiGo b (ii 0 [] j k) 0 (-1)=n→jr (rlbL [] j) 520 (bif jv [] (rlbL [] j) 560 then ip (S134_2.toLSpec.pre (s,(false,(m,(n,(k,(l,(natO k,((0:Int),(s,(f,(g,(h,(la j,(k,(l,(a,(b,(false,i))))))))))))))))))) (stP b m n (ii 0 [] (rlbL [] j) k) 0) (rq false s s f g h a b i j k l (∀p:Int,ru s p p j k (R (co jb (aq 3)) (jp true (p==1) false s f g h a b 42 i k l (some (.mk 401 0 (some 1)))::gk (nd j) 251)) (R (co jb (aq 3)) (jp true (p==1) false s f g h a b 32 i k l (some (.mk 401 0 (some 1)))::gk (nd j) 251)) R)) (Int→km (la j) 560 (R (co (im false) (.pointer none)) []))else False)else False else False))) R) R)):=by kernel_rfl
theorem w103(s:Y)(hs:s.size≤32)(ha:asc (bz s)=true)(R:Value→O→Prop)
    (hn:numQ (jan (bz s)) (crZ (bz s))=false→R (.tuple ⟨[.pointer none,.bool false]⟩) [])
    (hy:numQ (jan (bz s)) (crZ (bz s))=true→ ∀(x m cap:Nat)(d:E),RowI d m cap→zc d m=jk4 s (crZ (bz s))→
      R (.tuple ⟨[.pointer (some ⟨3,0,some 0⟩),.bool true]⟩) [some ⟨jj6 s (crZ (bz s)) x m cap,156,true⟩,some ⟨d,251,true⟩]):
    jee Tryz.prog G25 noL Tryz.f204 [.string s] (fun _=>none) 0 (fun v m _=>R v (look m v)):=by
  rw[jee,v103];delta av ig ip jz co jw l5 fy rn br jy gm jv jf oy m7 kp du j3 km ii lg lv ke rp jr im la ia nd rq ru gk ak al jp aq jb am f9 e9 ns il au dv jh ry aw gq ib cw d5 ky b7;have k67:bz ⟨#[67,82]⟩=[67,82]:=rfl;have k68:bz ⟨#[68,66]⟩=[68,66]:=rfl;rw[k67,k68,cr_suf];refine c_t (by rw[jaa (show s.size≤9223372036854775807 by omega)];simp) (cond_intro (fun hcr=> ?_) (fun hcr=> ?_))
  · rw [hcr] at hn hy;have hb:=jih hcr
    have h2:2≤s.size:=by
      have:2≤(bz s).length:=by
        simp only[crZ,jaf,jae]at hcr;exact hcr.1
      rwa [jal]at this
    rw[w64 (n:=(s.size:Int)-2) (by omega)];refine c_t (jaa (by omega)) ?_
    have hb:bz (s.extract 0 ((s.size:Int)-2).toNat)=jan (bz s):=by
      rw[hb,jb7,cond_true,jal,List.drop_zero];congr 1;omega
    have hay:asc (bz (s.extract 0 ((s.size:Int)-2).toNat))=true:=by
      rw[hb,jih hcr];exact asc_take ha _
    have hys:(s.extract 0 ((s.size:Int)-2).toNat).size≤32:=by
      rw[←jal,hb,jih hcr,cond_true,List.length_take,jal];omega
    generalize s.extract 0 ((s.size:Int)-2).toNat=y at*;have k1:bz ⟨#[65,88,67,68]⟩=[65,88,67,68]:=rfl;have k2:(bz ⟨#[42]⟩).getD 0 0=42:=rfl;have k3:(bz ⟨#[90]⟩).getD 0 0=90:=rfl;rw[k1,k2,k3];have ey:=hb;refine c_t (by rw[jaa (show y.size≤1000 by omega),hay];rfl) (cond_intro (fun hA=>hn (by rw[←hb];simp only[numQ,hA,Bool.not_true,Bool.false_and])) (fun hA=>c_t ?_ (cond_intro (fun hB dr' f' hD x=> ?_) (fun hB _ _ _ _=>hn (by rw[←hb,numQ,nD,hB,hA];rfl)))))
    · simp only [S131_0, jae];exact⟨jca 4,by omega,by omega,by omega,by omega,by omega⟩
    have hD':nD (bz y)=(true,dr',f'):=hD;have e1:(nD (bz y)).1=true:=by rw[hD']
    have e2:(nD (bz y)).2.1=dr':=by rw[hD']
    have e3:(nD (bz y)).2.2=f':=by rw[hD']
    have eS:(bif hasZ (bz y) 42 then hasZ (bz y) 90 || bif hasZ (bz y) 42 then dr' !=0 else hasZ (bz y) 90&&dr' !=0 else bif hasZ (bz y) 42 then dr' !=0 else hasZ (bz y) 90&&dr' !=0)=nSt (bz y):=by
      rw[nSt,e2];cases hasZ (bz y) 42<;>cases hasZ (bz y) 90<;>cases dr' !=0<;>rfl
    rw[eS];refine c_t (by simp) (cond_intro (fun hC=>hn (by rw[←hb,numQ,hA,e1,hC];rfl)) (fun hC cap _=> ?_));obtain⟨v1,v2⟩:=jk1 y;have v3:=jc0.2 v1;have g1:=v1.good;have g2:=v1.rlb;have g3:=jbj v1.plain;have g4:∀ps,jav ps (Lib.strCells y)=true:=fun ps=>goodL_plain v1.plain
    simp only[g2];generalize Lib.strCells y=d0 at*;simp only[Int.toNat_zero,List.drop_zero,v2];have eR:jbo dr' f' (bz y) 0=nR (bz y):=by rw[nR,e2,e3]
    rw[eR];have eP:plGo (nR (bz y)) ⟨0,false,0,0,0,0⟩=nP (bz y):=rfl;rw[eP];have hl:=jht dr' f' (bz y) 0;rw[eR,jal]at hl;refine c_t (by rw[g1,g3];rfl) (c_t ?_ (cond_intro (fun hE=>⟨fun _ hnil=>c_t (by rw[g3];rfl) fun _=> ?_,fun pts' bh' w' dg' q' fm' d' m' cap' r1 r2 r3=> ?_⟩) (fun hE _ _ _ _ _ _ _ d' m' cap' r1=>c_t (by rw[g3,jbj (jax.1 r1).plain];rfl) fun _=>hn (by rw[←hb,numQ,hA,e1,hC,nPok,hE];rfl))))
    · simp only [S133_0, Rw.oki, Rw.z, List.length_nil, Bool.true_and, jaf, jae];exact⟨v3,jaa ⟨by omega,by omega,by omega,jca _,by omega,by omega,by omega,by omega,by omega,by omega,by omega,by omega,by omega,by omega,by omega⟩⟩
    · have:nP (bz y)=(true,⟨0,false,0,0,0,0⟩):=by
        rw[nP,nR,hnil];rfl
      exact hn (by rw[←hb,numQ,hA,e1,hC,nPok,this];rfl)
    have r1:=jax.1 r1;have hz:=jbn r1;have r2:zc d' m'=nR (bz y):=r2;have pr:=jil (nR (bz y)) ⟨0,false,0,0,0,0⟩;rw[eP,r3]at pr;simp only at pr;have hm:m'=y.size:=by rw[←hz,r2,hl]
    refine c_t (by rw[g3,jbj r1.plain];rfl) fun _=>c_t (by cases decide (pts'≤1) <;>cases decide (dg'≥1) <;>cases decide (dg'≤9) <;>simp) ?_
    have ePok:(decide (pts'≤1) && (decide (dg'≥1) && (decide (dg'≤9) &&bif bh' then !decide (fm'>0)else !false)))=nPok (bz y):=by
      rw[nPok,r3];cases bh'<;>rfl
    rw[ePok];refine cond_intro (fun hF=>hn (by rw[←hb,numQ,hA,e1,hC];rw[Bool.not_eq_true']at hF;rw[hF];rfl)) (fun hF=> ?_);have hF:nPok (bz y)=true:=by simpa using hF
    have gd:∀ps,rlbL ps d'=d':=r1.rlb;have gg:∀ps,jav ps d'=true:=r1.good;have gi:=jbj r1.plain;simp only[gd,r2];refine c_t (by rw[gg,gi];rfl) (c_t ?_ (fun lo' hi' h1 h2=>c_t (by rw[gi];rfl) fun _=>c_t (by rw[gg,gi];rfl) (c_t ?_ ?_)))
    · simp only [S134_0, jaf, jae];exact⟨jax.2 r1,by omega,by omega,by omega,jca _,trivial⟩
    · simp only [S134_2, jaf, jae];exact⟨jax.2 r1,by omega,by omega,by omega,jca _,trivial⟩
    have eSt:stP f' lo' hi' (nR (bz y)) 0=nS (bz y):=by rw[nS,e3,jal,h1,h2]
    rw[eSt];refine cond_intro (fun hG=> ?_) (fun hG _=>c_t (by rw[gi];rfl) fun _=>hn (by rw[←hb,numQ,hA,e1,hC,hF,hG];rfl));refine c_t (by rw[gi];rfl) fun _ cap2 _=>c_t (by rw[g4,gg,gi,g3];rfl) (c_t ?_ (fun n' h3=>c_t (by rw[gi,g3];rfl) fun _=> ?_))
    · simp only [S135_0, jaf, jae];exact⟨jax.2 r1,v3,by omega,by omega,hm,by omega,jca _,by omega,by omega⟩
    have sr:=si_rng (bz y) (nR (bz y));rw[jal]at sr;rw[Int.zero_add]at h3;rw[w64 (n:=n'+1) (by omega),w64 (n:=w'+2) (by omega)];have eN:nG (bz y) true=n'+1:=by rw[nG,h3];rfl
    refine cond_intro (fun hH => hn (by rw [← hb, numQ, hA, e1, hC, hF, hG, eN]; have : ¬ n' + 1 ≤ 1 := by have := jab hH; omega
                                        rw[jad this];rfl)) (fun hH=> ?_)
    have hq:numQ (jan (bz s)) true=true:=by
      rw[←hb,numQ,hA,e1,hC,hF,hG,eN];have:n'+1≤1:=by have:=jac hH;omega
      rw[jaa this];rfl
    have eF:∀x k c,jj6 s true x k c=[Value.string s,Value.bool true,Value.int IntKind.i64 (w'+2),Value.int IntKind.i64 dg',Value.int IntKind.i64 q',Value.bool (n'+1==1),Value.slice (some ⟨x,0,some 1⟩) k c,Value.int IntKind.u8 dr',Value.int IntKind.i64 f',Value.bool true,Value.int IntKind.u8 (bif hasZ (bz y) 42 then 42 else 32),Value.int IntKind.i64 fm']:=fun x k c=>by
      rw[jj6,←hb,r3,e2,e3,eN];rfl
    have hf:=hy hq;simp only[eF,jk4,←hb]at hf;apply cond_intro<;>intro hI
    · rw [hI] at hf;refine c_t (r1.ask (k:=2) (by omega)) (fun cap3 tail ht=> ?_);obtain⟨a1,a2⟩:=r1.app [4,4] ht;rw[Nat.mul_one];exact hf _ _ _ _ a1 (a2.trans (by rw[r2];rfl))
    · rw [hI] at hf;refine c_t (r1.ask (k:=2) (by omega)) (fun cap3 tail ht=> ?_);obtain⟨a1,a2⟩:=r1.app [4,4] ht;rw[Nat.mul_one];exact hf _ _ _ _ a1 (a2.trans (by rw[r2];rfl))
  · rw [hcr] at hn hy;have hb:bz s=jan (bz s):=by rw[jih hcr];rfl
    have hay:=ha;have k1:bz ⟨#[65,88,67,68]⟩=[65,88,67,68]:=rfl;have k2:(bz ⟨#[42]⟩).getD 0 0=42:=rfl;have k3:(bz ⟨#[90]⟩).getD 0 0=90:=rfl;rw[k1,k2,k3];have ey:=hb;refine c_t (by rw[jaa (show s.size≤1000 by omega),hay];rfl) (cond_intro (fun hA=>hn (by rw[←hb];simp only[numQ,hA,Bool.not_true,Bool.false_and])) (fun hA=>c_t ?_ (cond_intro (fun hB dr' f' hD x=> ?_) (fun hB _ _ _ _=>hn (by rw[←hb,numQ,nD,hB,hA];rfl)))))
    · simp only [S131_0, jae];exact⟨jca 4,by omega,by omega,by omega,by omega,by omega⟩
    have hD':nD (bz s)=(true,dr',f'):=hD;have e1:(nD (bz s)).1=true:=by rw[hD']
    have e2:(nD (bz s)).2.1=dr':=by rw[hD']
    have e3:(nD (bz s)).2.2=f':=by rw[hD']
    have eS:(bif hasZ (bz s) 42 then hasZ (bz s) 90 || bif hasZ (bz s) 42 then dr' !=0 else hasZ (bz s) 90&&dr' !=0 else bif hasZ (bz s) 42 then dr' !=0 else hasZ (bz s) 90&&dr' !=0)=nSt (bz s):=by
      rw[nSt,e2];cases hasZ (bz s) 42<;>cases hasZ (bz s) 90<;>cases dr' !=0<;>rfl
    rw[eS];refine c_t (by simp) (cond_intro (fun hC=>hn (by rw[←hb,numQ,hA,e1,hC];rfl)) (fun hC cap _=> ?_));obtain⟨v1,v2⟩:=jk1 s;have v3:=jc0.2 v1;have g1:=v1.good;have g2:=v1.rlb;have g3:=jbj v1.plain;have g4:∀ps,jav ps (Lib.strCells s)=true:=fun ps=>goodL_plain v1.plain
    simp only[g2];generalize Lib.strCells s=d0 at*;simp only[Int.toNat_zero,List.drop_zero,v2];have eR:jbo dr' f' (bz s) 0=nR (bz s):=by rw[nR,e2,e3]
    rw[eR];have eP:plGo (nR (bz s)) ⟨0,false,0,0,0,0⟩=nP (bz s):=rfl;rw[eP];have hl:=jht dr' f' (bz s) 0;rw[eR,jal]at hl;refine c_t (by rw[g1,g3];rfl) (c_t ?_ (cond_intro (fun hE=>⟨fun _ hnil=>c_t (by rw[g3];rfl) fun _=> ?_,fun pts' bh' w' dg' q' fm' d' m' cap' r1 r2 r3=> ?_⟩) (fun hE _ _ _ _ _ _ _ d' m' cap' r1=>c_t (by rw[g3,jbj (jax.1 r1).plain];rfl) fun _=>hn (by rw[←hb,numQ,hA,e1,hC,nPok,hE];rfl))))
    · simp only [S133_0, Rw.oki, Rw.z, List.length_nil, Bool.true_and, jaf, jae];exact⟨v3,jaa ⟨by omega,by omega,by omega,jca _,by omega,by omega,by omega,by omega,by omega,by omega,by omega,by omega,by omega,by omega,by omega⟩⟩
    · have:nP (bz s)=(true,⟨0,false,0,0,0,0⟩):=by
        rw[nP,nR,hnil];rfl
      exact hn (by rw[←hb,numQ,hA,e1,hC,nPok,this];rfl)
    have r1:=jax.1 r1;have hz:=jbn r1;have r2:zc d' m'=nR (bz s):=r2;have pr:=jil (nR (bz s)) ⟨0,false,0,0,0,0⟩;rw[eP,r3]at pr;simp only at pr;have hm:m'=s.size:=by rw[←hz,r2,hl]
    refine c_t (by rw[g3,jbj r1.plain];rfl) fun _=>c_t (by cases decide (pts'≤1) <;>cases decide (dg'≥1) <;>cases decide (dg'≤9) <;>simp) ?_
    have ePok:(decide (pts'≤1) && (decide (dg'≥1) && (decide (dg'≤9) &&bif bh' then !decide (fm'>0)else !false)))=nPok (bz s):=by
      rw[nPok,r3];cases bh'<;>rfl
    rw[ePok];refine cond_intro (fun hF=>hn (by rw[←hb,numQ,hA,e1,hC];rw[Bool.not_eq_true']at hF;rw[hF];rfl)) (fun hF=> ?_);have hF:nPok (bz s)=true:=by simpa using hF
    have gd:∀ps,rlbL ps d'=d':=r1.rlb;have gg:∀ps,jav ps d'=true:=r1.good;have gi:=jbj r1.plain;simp only[gd,r2];refine c_t (by rw[gg,gi];rfl) (c_t ?_ (fun lo' hi' h1 h2=>c_t (by rw[gi];rfl) fun _=>c_t (by rw[gg,gi];rfl) (c_t ?_ ?_)))
    · simp only [S134_0, jaf, jae];exact⟨jax.2 r1,by omega,by omega,by omega,jca _,trivial⟩
    · simp only [S134_2, jaf, jae];exact⟨jax.2 r1,by omega,by omega,by omega,jca _,trivial⟩
    have eSt:stP f' lo' hi' (nR (bz s)) 0=nS (bz s):=by rw[nS,e3,jal,h1,h2]
    rw[eSt];refine cond_intro (fun hG=> ?_) (fun hG _=>c_t (by rw[gi];rfl) fun _=>hn (by rw[←hb,numQ,hA,e1,hC,hF,hG];rfl));refine c_t (by rw[gi];rfl) fun _ cap2 _=>c_t (by rw[g4,gg,gi,g3];rfl) (c_t ?_ (fun n' h3=>c_t (by rw[gi,g3];rfl) fun _=> ?_))
    · simp only [S135_0, jaf, jae];exact⟨jax.2 r1,v3,by omega,by omega,hm,by omega,jca _,by omega,by omega⟩
    have sr:=si_rng (bz s) (nR (bz s));rw[jal]at sr;rw[Int.zero_add]at h3;have eN:nG (bz s) false=n':=by rw[nG,h3];exact Int.add_zero _
    refine cond_intro (fun hH => hn (by rw [← hb, numQ, hA, e1, hC, hF, hG, eN]; have : ¬ n' ≤ 1 := by have := jab hH; omega
                                        rw[jad this];rfl)) (fun hH=> ?_)
    have hq:numQ (jan (bz s)) false=true:=by
      rw[←hb,numQ,hA,e1,hC,hF,hG,eN];have:n'≤1:=by have:=jac hH;omega
      rw[jaa this];rfl
    have eF:∀x k c,jj6 s false x k c=[Value.string s,Value.bool true,Value.int IntKind.i64 w',Value.int IntKind.i64 dg',Value.int IntKind.i64 q',Value.bool (n'==1),Value.slice (some ⟨x,0,some 1⟩) k c,Value.int IntKind.u8 dr',Value.int IntKind.i64 f',Value.bool false,Value.int IntKind.u8 (bif hasZ (bz s) 42 then 42 else 32),Value.int IntKind.i64 fm']:=fun x k c=>by
      rw[jj6,←hb,r3,e2,e3,eN,cond_false,Int.add_zero]
    have hf:=hy hq;simp only[eF,jk4,←hb]at hf;apply cond_intro<;>intro hI
    · rw [hI] at hf;exact hf _ _ _ _ r1 (by rw[r2];simp)
    · rw [hI] at hf;exact hf _ _ _ _ r1 (by rw[r2];simp)
end Go.Px
end
section
namespace Go.Px
open Go Go.Ab Go.Proofs
theorem last_mem{l:J}{c:Int}:jcq l c= -1↔c∉l:=by
 rcases jek c l with⟨e,h⟩ | ⟨i,hi,e,hc,h⟩
 ·refine⟨fun _ hm=> ?_,fun _=>e⟩;obtain⟨j,hj,hv⟩:=List.mem_iff_getElem.1 hm;exact h j hj (by rw[List.getD_eq_getElem?_getD,List.getElem?_eq_getElem hj];exact hv)
 ·refine⟨fun q=>by omega,fun q=>absurd ?_ q⟩;rw[List.getD_eq_getElem?_getD,List.getElem?_eq_getElem hi]at hc;exact hc▸List.getElem_mem hi
def flg(s:J)(c:Int):Bool:=hasZ [36,83,43,45] c&&decide (2≤cntZ s c)
theorem jif(s:J)(dr:Int):∀(r:J)(i f l:Int),(df1 s dr r i f l).1=r.all fun c=>c==dr || !flg s c
 | [],_,_,_=>rfl
 | c::r,i,f,l=>by
  rw[df1,List.all_cons];cases h:c==dr with
  | true=>rw[cond_true,jif s dr r];rfl
  | false=>
   rw[cond_false];have e:(hasZ [36,83,43,45] c&&decide (2≤cntZ s c))=flg s c:=rfl;rw[e];cases flg s c with
   | true=>rfl
   | false=>rw[cond_false,jif s dr r];rfl
theorem df1_fl(s:J)(dr:Int):∀(r:J)(i f l:Int),0≤i→(df1 s dr r i f l).1=true→
  (df1 s dr r i f l).2.1=(if f<0 then(if dr∈r then i+idxZ r dr else f)else f)∧(df1 s dr r i f l).2.2=(if dr∈r then i+jcq r dr else l)
 | [],i,f,l,_,_=>by simp[df1]
 | c::r,i,f,l,hi,h=>by
  rw[df1]at h ⊢;have hlr:=last_mem (l:=r) (c:=dr);cases hc:c==dr with
  | true=>
   have hc':c=dr:=eq_of_beq hc;rw[hc,cond_true]at h;rw[cond_true];obtain⟨q1,q2⟩:=df1_fl s dr r _ _ _ (by omega) h;rw[q1,q2,hc'];have h1:¬(if f<0 then i else f)<0:=by split<;>omega
   rw[if_neg h1,if_pos (List.mem_cons_self ..),if_pos (List.mem_cons_self ..),idxZ,if_pos rfl,jcq];refine⟨by split<;>omega,?_⟩;by_cases hm:dr∈r
   ·rw[if_pos hm,if_neg (fun q=>hlr.1 q hm)];omega
   ·rw[if_neg hm,if_pos (hlr.2 hm),if_pos rfl];omega
  | false=>
   have hc':¬c=dr:=by simpa using hc
   rw[hc,cond_false]at h;rw[cond_false];cases hf:(hasZ [36,83,43,45] c&&decide (2≤cntZ s c))with
   | true=>rw[hf]at h;cases h
   | false=>
    rw[hf,cond_false]at h;rw[cond_false];obtain⟨q1,q2⟩:=df1_fl s dr r _ _ _ (by omega) h
    have hmm:dr∈c::r↔dr∈r:=by
     rw[List.mem_cons];exact⟨fun q=>q.resolve_left fun e=>hc' e.symm,.inr⟩
    rw[q1,q2];simp only[hmm,idxZ,jcq,if_neg hc'];by_cases hm:dr∈r
    ·have i1:=jf3 dr hm;rw[if_pos hm,if_pos hm,if_pos hm,if_pos hm,if_neg (show¬idxZ r dr= -1 by omega),if_neg (fun q=>hlr.1 q hm)];exact⟨by split<;>omega,by omega⟩
    ·rw[if_neg hm,if_neg hm,if_neg hm,if_neg hm];exact⟨rfl,rfl⟩
theorem d2_app(dr f:Int):∀(x y:J)(i:Int),d2Go dr f (x++y) i=(d2Go dr f x i&&d2Go dr f y (i+x.length))
 | [],y,i=>by simp[d2Go]
 | c::x,y,i=>by
  rw[List.cons_append,d2Go,d2Go,d2_app dr f x y,List.length_cons,Bool.and_assoc,Bool.and_assoc];congr 4;omega
theorem d2_before(dr f:Int):∀(r:J)(i:Int),i+r.length≤f→d2Go dr f r i= !hasZ r 86
 | [],_,_=>rfl
 | c::r,i,h=>by
  rw[List.length_cons]at h;rw[d2Go,d2_before dr f r (i+1) (by omega),jaa (show i<f by omega),jad (show¬i>f by omega)];simp only[hasZ,List.any_cons,Bool.true_and,Bool.false_and,Bool.not_false,Bool.not_or]
theorem d2_after(dr f:Int):∀(r:J)(i:Int),f<i→d2Go dr f r i=drP dr r
 | [],_,_=>rfl
 | c::r,i,h=>by
  rw[d2Go,d2_after dr f r (i+1) (by omega),jad (show¬i<f by omega),jaa (show i>f by omega)];simp only[drP,List.all_cons,Bool.true_and,Bool.false_and,Bool.not_false,Bool.not_and,Bool.not_not,bne];rfl
theorem take_split(b:J){f l:Nat}(h:f≤l):b.take l=b.take f++(b.take l).drop f:=by
 have:=List.take_append_drop f (b.take l);rw[List.take_take,Nat.min_eq_left h]at this;exact this.symm
theorem drop_take_cons(b:J){f l:Nat}(h:f<l)(hb:f<b.length):(b.take l).drop f=b.getD f 0::(b.take l).drop (f+1):=by
 rw[jel (b.take l) f (by rw[List.length_take];omega)];congr 1;simp only[List.getD_eq_getElem?_getD,List.getElem?_take];rw[if_pos h]
theorem idx_get(c:Int):∀{l:J},c∈l→l.getD (idxZ l c).toNat 0=c
 | b::l,h=>by
  simp only[idxZ];by_cases hb:b=c
  ·rw[if_pos hb];simpa using hb
  ·rw[if_neg hb];have hm:c∈l:=by rcases List.mem_cons.1 h with q | q;exact absurd q.symm hb;exact q
   have:=jf3 c hm;rw[if_neg (by omega),show(idxZ l c+1).toNat=(idxZ l c).toNat+1 by omega,List.getD_cons_succ];exact idx_get c hm
theorem last_get(c:Int){l:J}(h:c∈l):l.getD (jcq l c).toNat 0=c:=by
 rcases jek c l with⟨e,_⟩ | ⟨i,hi,e,hc,_⟩
 ·exact absurd h (last_mem.1 e)
 ·rw[e];exact hc
theorem take_snoc(b:J){l:Nat}(h:l<b.length):b.take (l+1)=b.take l++ [b.getD l 0]:=by
 rw[List.take_add_one,List.getD_eq_getElem?_getD,List.getElem?_eq_getElem h];rfl
theorem d2_drC{b:J}{c:Int}(h:c∈b):d2Go c (idxZ b c) (b.take (jcq b c).toNat) 0=drC b c:=by
 have i1:=jf3 c h;have i2:=jjb c h;have i3:=ji9 b c;have g1:=idx_get c h;have g2:=last_get c h;obtain⟨f,hf⟩:∃f:Nat,idxZ b c=f:=⟨(idxZ b c).toNat,by omega⟩
 obtain⟨l,hl⟩:∃l:Nat,jcq b c=l:=⟨(jcq b c).toNat,by omega⟩
 unfold drC;rw[hf]at i1 i2 g1;rw[hl]at i2 i3 g2;rw[hf,hl];rw[Int.toNat_natCast]at g1 g2 ⊢;rw[Int.toNat_natCast];rw[show((l:Int)+1).toNat=l+1 by omega,take_snoc b (by omega),g2,List.drop_append_of_le_length (by rw[List.length_take];omega)];rw[take_split b (show f≤l by omega),d2_app,d2_before _ _ _ _ (by rw[List.length_take];omega)];congr 1
 ·rw[←take_split b (show f≤l by omega)];rw[List.length_take,Nat.min_eq_left (by omega)]
  have hs:drP c ((b.take l).drop f++ [c])=drP c ((b.take l).drop f):=by
   simp[drP]
  rw[hs];by_cases hfl:f<l
  ·rw[drop_take_cons b hfl (by omega),g1,d2Go,d2_after _ _ _ _ (by omega)];simp[drP]
  ·rw[List.drop_eq_nil_of_le (by rw[List.length_take];omega)];rfl
theorem jjj{b:J}{d f:Int}:∀{cs:J},(∀c∈cs,(cntZ b c:Int)<2)→je5 cs b d f=(true,d,f)
 | [],_=>rfl
 | c::cs,h=>by
  rw[je5,jaa (h c (List.mem_cons_self ..)),cond_true];exact jjj fun x hx=>h x (List.mem_cons_of_mem _ hx)
theorem drf_many{b:J}{d f:Int}(hd:d≠0):∀{cs:J},(∃c∈cs,¬(cntZ b c:Int)<2)→(je5 cs b d f).1=false
 | c::cs,h=>by
  rw[je5];cases hc:decide ((cntZ b c:Int)<2)with
  | true=>
   rw[cond_true];refine drf_many hd ?_;obtain⟨x,hx,hxc⟩:=h;rcases List.mem_cons.1 hx with rfl | hx
   ·exact absurd (jab hc) hxc
   ·exact⟨x,hx,hxc⟩
  | false=>
   rw[cond_false];have:(d !=0)=true:=by simpa using hd
   rw[this];rfl
 | [],⟨_,h,_⟩=>by cases h
theorem drf_two{b:J}{d f:Int}:∀{cs:J}{c1 c2:Int},(∀c∈cs,c≠0)→c1∈cs→c2∈cs→c1≠c2→ ¬(cntZ b c1:Int)<2→ ¬(cntZ b c2:Int)<2→(je5 cs b d f).1=false
 | c::cs,c1,c2,h0,m1,m2,hne,h1,h2=>by
  rw[je5];cases hc:decide ((cntZ b c:Int)<2)with
  | true=>
   have hc:=jab hc;rw[cond_true];refine drf_two (fun x hx=>h0 x (List.mem_cons_of_mem _ hx)) ?_ ?_ hne h1 h2
   ·rcases List.mem_cons.1 m1 with rfl | q
    ·exact absurd hc h1
    ·exact q
   ·rcases List.mem_cons.1 m2 with rfl | q
    ·exact absurd hc h2
    ·exact q
  | false=>
   rw[cond_false];cases d !=0 with
   | true=>rfl
   | false=>
    rw[cond_false];cases drC b c with
    | false=>rfl
    | true=>
     rw[cond_true];refine drf_many (h0 c (List.mem_cons_self ..)) ?_;by_cases e:c1=c
     ·rcases List.mem_cons.1 m2 with q | q
      ·exact absurd (e.trans q.symm) hne
      ·exact⟨c2,q,h2⟩
     ·rcases List.mem_cons.1 m1 with q | q
      ·exact absurd q e
      ·exact⟨c1,q,h1⟩
theorem drf_one{b:J}{f:Int}:∀{cs:J}{c:Int},cs.Nodup→c∈cs→ ¬(cntZ b c:Int)<2→(∀x∈cs,x≠c→(cntZ b x:Int)<2)→je5 cs b 0 f=bif drC b c then(true,c,idxZ b c)else(false,0,0)
 | x::cs,c,hn,hm,h1,h2=>by
  have hn':=List.nodup_cons.1 hn;rw[je5];by_cases e:x=c
  ·subst e;rw[jad h1,cond_false];have:((0:Int) !=0)=false:=rfl;rw[this,cond_false];cases drC b x with
   | false=>rfl
   | true=>
    rw[cond_true,cond_true];exact jjj fun y hy=>h2 y (List.mem_cons_of_mem _ hy) fun q=>hn'.1 (q▸hy)
  ·rw[jaa (h2 x (List.mem_cons_self ..) e),cond_true];exact drf_one hn'.2 (by rcases List.mem_cons.1 hm with q | q;exact absurd q.symm e;exact q) h1 fun y hy=>h2 y (List.mem_cons_of_mem _ hy)
theorem jgk(s:J):∀r:J,drGo s r=0∨(flg s (drGo s r)=true∧drGo s r∈r)
 | []=> .inl rfl
 | c::r=>by
  rw[drGo];split
  ·rename_i h;exact .inr ⟨by simp only[flg,jaf,jae];exact h,List.mem_cons_self ..⟩
  ·rcases jgk s r with h | ⟨h1,h2⟩
   ·exact .inl h
   ·exact .inr ⟨h1,List.mem_cons_of_mem _ h2⟩
theorem jkq(s:J){c:Int}(hf:flg s c=true):∀r:J,c∈r→drGo s r≠0
 | x::r,h=>by
  rw[drGo];split
  ·rename_i h;have:hasZ [36,83,43,45] x=true:=h.1;rw[has_dr]at this;omega
  ·rename_i hx;rcases List.mem_cons.1 h with rfl | h
   ·simp only[flg,jaf,jae]at hf;exact absurd hf hx
   ·exact jkq s hf r h
theorem jkn{s:J}{c:Int}(h:c∈ [36,83,43,45]):flg s c=true↔ ¬(cntZ s c:Int)<2:=by
 simp only[flg,jaf,jae,jbm];exact⟨fun q=>by omega,fun q=>⟨h,by omega⟩⟩
theorem jgu{s:J}{c:Int}(h:flg s c=true):c∈ [36,83,43,45]∧ ¬(cntZ s c:Int)<2:=by
 simp only[flg,jaf,jae,jbm]at h;exact⟨h.1,by omega⟩
theorem nD_law(b:J):(nD b).1=jcr b∧(jcr b=true→(nD b).2.1=drZ b∧(nD b).2.2=if drZ b=0 then -1 else idxZ b (drZ b)):=by
 have h4:∀c∈ [36,83,43,(45:Int)],c≠0:=by decide
 by_cases hd:drZ b=0
 ·have hn:nD b=(true,0,-1):=jjj fun c hc=>by
   cases hq:decide ((cntZ b c:Int)<2)with
   | true=>exact jab hq
   | false=>
    have hf:=(jkn hc).2 (jac hq);exact absurd hd (jkq b hf b (jjp (jgu hf).2))
  have hz:jcr b=true:=by rw[jcr,hd];rfl
  rw[hn,hz,hd];exact⟨rfl,fun _=>⟨rfl,rfl⟩⟩
 ·obtain⟨hf,hm⟩:=(jgk b b).resolve_left hd;have hf:flg b (drZ b)=true:=hf;have hm:drZ b∈b:=hm;obtain⟨m1,m2⟩:=jgu hf
  have hz:jcr b=((df1 b (drZ b) b 0 (-1) (-1)).1&&d2Go (drZ b) (df1 b (drZ b) b 0 (-1) (-1)).2.1 (b.take (df1 b (drZ b) b 0 (-1) (-1)).2.2.toNat) 0):=by
   have:(drZ b==0)=false:=by simpa using hd
   rw[jcr,this,Bool.false_or]
  by_cases ho:∃x∈ [36,83,43,(45:Int)],x≠drZ b∧ ¬(cntZ b x:Int)<2
  ·obtain⟨x,x1,x2,x3⟩:=ho;have e1:(nD b).1=false:=drf_two h4 x1 m1 x2 x3 m2
   have e2:(df1 b (drZ b) b 0 (-1) (-1)).1=false:=by
    rw[jif,List.all_eq_false];refine⟨x,jjp x3,?_⟩;rw[(jkn x1).2 x3];simpa using x2
   rw[hz,e1,e2];exact⟨rfl,fun q=>by cases q⟩
  ·have ho:∀x∈ [36,83,43,(45:Int)],x≠drZ b→(cntZ b x:Int)<2:=fun x x1 x2=>by
    cases hq:decide ((cntZ b x:Int)<2)with
    | true=>exact jab hq
    | false=>exact absurd ⟨x,x1,x2,jac hq⟩ ho
   have e1:nD b=bif drC b (drZ b)then(true,drZ b,idxZ b (drZ b))else(false,0,0):=drf_one (by decide) m1 m2 ho
   have e2:(df1 b (drZ b) b 0 (-1) (-1)).1=true:=by
    rw[jif,List.all_eq_true];intro x _;by_cases q:x=drZ b
    ·rw[q];simp
    ·have:flg b x=false:=by
      cases hh:flg b x with
      | false=>rfl
      | true=>obtain⟨a1,a2⟩:=jgu hh;exact absurd (ho x a1 q) a2
     rw[this];simp
   obtain⟨q1,q2⟩:=df1_fl b (drZ b) b 0 (-1) (-1) (by omega) e2;rw[if_pos (by omega),if_pos hm,Int.zero_add]at q1;rw[if_pos hm,Int.zero_add]at q2;rw[hz,e1,e2,q1,q2,d2_drC hm,Bool.true_and];cases drC b (drZ b)with
   | false=>exact⟨rfl,fun q=>by cases q⟩
   | true=>exact⟨rfl,fun _=>⟨rfl,by rw[if_neg hd];rfl⟩⟩
def rmk(r:Int):Int:=[100,99,118,105,115,109].getD r.toNat 0
theorem ro_rng(d f c i:Int):0≤roP d f c i∧roP d f c i≤5:=by
 unfold roP;cases hasZ [57,89,84,73,82] c<;>cases(c==90 || (c==42 || (c==d&&i !=f))) <;>cases c==86<;>cases c==36<;>cases(c==83 || (c==43 || c==45)) <;>simp
theorem idx_app(d:Int):∀x y:J,idxZ (x++y) d=if d∈x then idxZ x d else if d∈y then x.length+idxZ y d else -1
 | [],y=>by
  simp only[List.nil_append,List.not_mem_nil,if_false,List.length_nil];split
  ·omega
  ·rename_i h;have h:¬0≤idxZ y d:=fun q=>h ((jgt d y).2.1 q)
   have:=(jgt d y).1;omega
 | c::x,y=>by
  have ih:=idx_app d x y;rw[List.cons_append,idxZ,idxZ];by_cases hc:c=d
  ·rw[if_pos hc,if_pos hc,if_pos (by rw[hc];exact List.mem_cons_self ..)]
  ·rw[if_neg hc,if_neg hc,ih]
   have hm:d∈c::x↔d∈x:=by
    rw[List.mem_cons];exact⟨fun q=>q.resolve_left fun e=>hc e.symm,.inr⟩
   simp only[hm];by_cases hx:d∈x
   ·rw[if_pos hx,if_pos hx]
   ·rw[if_neg hx,if_neg hx];by_cases hy:d∈y
    ·have:=jf3 d hy;rw[if_pos hy,if_pos hy,if_neg (by omega)];simp only[List.length_cons];omega
    ·rw[if_neg hy,if_neg hy,if_pos rfl]
structure DrP (b:J)(d f:Int):Prop where
 zero:∀c∈b,c≠0
 at_:d=0∧f= -1∨d≠0∧d∈b∧f=idxZ b d∧d∈ [36,83,43,(45:Int)]
theorem DrP.eq{b pre r:J}{c d f:Int}(h:DrP b d f)(hb:b=pre++c::r):(c=d∧(pre.length:Int)≠f↔c=d∧d≠0∧d∈pre)∧((pre.length:Int)=f↔c=d∧d∉pre):=by
 have hc0:=h.zero c (by rw[hb];simp);rcases h.at_ with⟨rfl,rfl⟩ | ⟨h1,h2,h3,_⟩
 ·exact⟨⟨fun q=>absurd q.1 hc0,fun q=>absurd q.1 hc0⟩,⟨fun q=>by omega,fun q=>absurd q.1 hc0⟩⟩
 ·rw[hb,idx_app]at h3;by_cases hp:d∈pre
  ·rw[if_pos hp]at h3;have:=jf3 d hp;exact⟨⟨fun q=>⟨q.1,h1,hp⟩,fun q=>⟨q.1,by omega⟩⟩,⟨fun q=>by omega,fun q=>absurd hp q.2⟩⟩
  ·rw[if_neg hp]at h3;rw[hb]at h2;have hd:d∈c::r:=by rcases List.mem_append.1 h2 with q | q;exact absurd q hp;exact q
   rw[if_pos hd,idxZ]at h3;by_cases hc:c=d
   ·rw[if_pos hc]at h3;exact⟨⟨fun q=>absurd h3 (by omega),fun q=>absurd q.2.2 hp⟩,⟨fun _=>⟨hc,hp⟩,fun _=>by omega⟩⟩
   ·rw[if_neg hc]at h3;have hr:d∈r:=by rcases List.mem_cons.1 hd with q | q;exact absurd q.symm hc;exact q
    have:=jf3 d hr;rw[if_neg (by omega)]at h3;exact⟨⟨fun q=>absurd q.1 hc,fun q=>absurd q.1 hc⟩,⟨fun q=>by omega,fun q=>absurd q.1 hc⟩⟩
theorem mk_ro{b pre r:J}{c d f:Int}(h:DrP b d f)(hb:b=pre++c::r):rmk (roP d f c pre.length)=mk1 d (d !=0&&decide (d∈pre)) c:=by
 have e:(c==90 || (c==42 || (c==d&& (pre.length:Int) !=f)))=(hasZ [90,42] c || (d !=0&& (c==d&& (d !=0&&decide (d∈pre))))):=by
  have:=(h.eq hb).1;rw[Bool.eq_iff_iff];simp only[Bool.or_eq_true,jaf,beq_iff_eq,bne_iff_ne,jae,jbm,List.mem_cons,List.not_mem_nil,or_false];rw[this];constructor
  ·rintro (q | q | ⟨q1,q2,q3⟩)
   ·exact .inl (.inl q)
   ·exact .inl (.inr q)
   ·exact .inr ⟨q2,q1,q2,q3⟩
  ·rintro ((q | q) | ⟨q2,q1,_,q3⟩)
   ·exact .inl q
   ·exact .inr (.inl q)
   ·exact .inr (.inr ⟨q1,q2,q3⟩)
 have e2:(c==83 || (c==43 || c==45))=hasZ [83,43,45] c:=by
  rw[Bool.eq_iff_iff];simp only[Bool.or_eq_true,beq_iff_eq,jbm,List.mem_cons,List.not_mem_nil,or_false]
 unfold roP mk1;rw[e,e2];cases hasZ [57,89,84,73,82] c<;>cases(hasZ [90,42] c || (d !=0&& (c==d&& (d !=0&&decide (d∈pre))))) <;>cases c==86<;>cases c==36<;>cases hasZ [83,43,45] c<;>rfl
theorem roles_marks{b:J}{d f:Int}(h:DrP b d f):∀r pre:J,b=pre++r→(jbo d f r pre.length).map rmk=mkGo d (d !=0&&decide (d∈pre)) r
 | [],_,_=>rfl
 | c::r,pre,hb=>by
  rw[jbo,List.map_cons,mkGo,mk_ro h hb];congr 1;have ih:=roles_marks h r (pre++ [c]) (by rw[hb];simp);have e:((pre++ [c]).length:Int)=pre.length+1:=by simp
  have e2:(d !=0&&decide (d∈pre++ [c]))=(d !=0&&decide (d∈pre) || (d !=0&&c==d)):=by
   rw[Bool.eq_iff_iff];simp only[Bool.or_eq_true,jaf,beq_iff_eq,bne_iff_ne,jae,List.mem_append,List.mem_cons,List.not_mem_nil,or_false];constructor
   ·rintro ⟨q,q2 | q2⟩
    ·exact .inl ⟨q,q2⟩
    ·exact .inr ⟨q,q2.symm⟩
   ·rintro (⟨q,q2⟩ | ⟨q,q2⟩)
    ·exact⟨q,.inl q2⟩
    ·exact⟨q,.inr q2.symm⟩
  rw[e,e2]at ih;exact ih
def okR(rs:J):Prop:=∀r∈rs,0≤r∧r≤5
theorem roles_ok(d f:Int):∀(l:J)(i:Int),okR (jbo d f l i)
 | [],_=>fun r h=>by cases h
 | c::l,i=>fun r h=>by
  rw[jbo]at h;rcases List.mem_cons.1 h with rfl | h
  ·exact ro_rng _ _ _ _
  ·exact roles_ok d f l _ r h
theorem jc5{r:Int}(h:0≤r∧r≤5):r=0∨r=1∨r=2∨r=3∨r=4∨r=5:=by omega
def qgo:J→Int→Int
 | [],_=>0
 | m::r,p=>bif m==118 then qgo r (p+1)else(bif isP m then p else 0)+qgo r p
theorem pl_ld:∀(rs:J)(a:PlS),okR rs→0≤a.pts→0≤a.fm→
  (plGo rs a).1=(ldGo (rs.map rmk) (decide (a.fm>0)) a.bh (decide (a.pts>0)) a.dg).1∧
  ((plGo rs a).1 = true → (plGo rs a).2.dg = (ldGo (rs.map rmk) (decide (a.fm>0)) a.bh (decide (a.pts>0)) a.dg).2.2.2 ∧ (plGo rs a).2.bh = (ldGo (rs.map rmk) (decide (a.fm>0)) a.bh (decide (a.pts>0)) a.dg).2.2.1 ∧
   decide ((plGo rs a).2.fm>0)=(ldGo (rs.map rmk) (decide (a.fm>0)) a.bh (decide (a.pts>0)) a.dg).2.1∧(plGo rs a).2.pts=a.pts+cntZ (rs.map rmk) 118∧(plGo rs a).2.w=a.w+nv (rs.map rmk)∧
   (plGo rs a).2.q=a.q+qgo (rs.map rmk) a.pts∧(plGo rs a).2.fm=a.fm+cntZ (rs.map rmk) 100)
 | [],a,_,_,_=>by simp[plGo,ldGo,cntZ,nv,qgo]
 | r::rs,a,hok,hp,hf=>by
  have hr:=hok r (List.mem_cons_self ..);have hrs:okR rs:=fun x hx=>hok x (List.mem_cons_of_mem _ hx)
  have i1:=pl_ld rs ⟨a.pts+1,a.bh,a.w,a.dg,a.q,a.fm⟩ hrs (by simp only;omega) hf;have i2:=pl_ld rs ⟨a.pts,a.bh,a.w+1,a.dg+1,a.q+a.pts,a.fm+1⟩ hrs hp (by simp only;omega);have i3:=pl_ld rs ⟨a.pts,a.bh || decide (a.pts>0),a.w+1,a.dg+1,a.q+a.pts,a.fm⟩ hrs hp hf;have i4:=pl_ld rs ⟨a.pts,a.bh,a.w+1,a.dg,a.q,a.fm⟩ hrs hp hf
  have cc:∀(m x:Int),(cntZ (m::rs.map rmk) x:Int)=(if m=x then 1 else 0)+cntZ (rs.map rmk) x:=fun m x=>by
   unfold cntZ;rw[List.filter_cons];by_cases h:m=x
   ·rw[if_pos (by simpa using h),if_pos h,List.length_cons];omega
   ·rw[if_neg (by simpa using h),if_neg h];omega
  have cn:∀m:Int,(nv (m::rs.map rmk):Int)=(if m=118 then 0 else 1)+nv (rs.map rmk):=fun m=>by
   rw[jf8];split<;>omega
  rw[List.map_cons,cc,cc,cn];rcases jc5 hr with rfl | rfl | rfl | rfl | rfl | rfl
  ·have e:rmk 0=100:=rfl;rw[e];simp only[jaa (show a.fm+1>0 by omega)]at i2;refine⟨i2.1,fun h=> ?_⟩;obtain⟨q1,q2,q3,q4,q5,q6,q7⟩:=i2.2 h;refine⟨q1,q2,q3,?_,?_,?_,?_⟩
   ·exact q4.trans (by simp)
   ·exact q5.trans (by simp;omega)
   ·refine q6.trans ?_;show a.q+a.pts+qgo (rs.map rmk) a.pts=a.q+(a.pts+qgo (rs.map rmk) a.pts)
    omega
   ·exact q7.trans (by simp;omega)
  ·have e:rmk 1=99:=rfl;rw[e];have e1:plGo (1::rs) a=bif decide (a.fm>0)then(false,a)else plGo rs ⟨a.pts,a.bh || decide (a.pts>0),a.w+1,a.dg+1,a.q+a.pts,a.fm⟩:=rfl;have e2:ldGo (99::rs.map rmk) (decide (a.fm>0)) a.bh (decide (a.pts>0)) a.dg=bif decide (a.fm>0)then(false,false,false,0)else ldGo (rs.map rmk) (decide (a.fm>0)) (a.bh || decide (a.pts>0)) (decide (a.pts>0)) (a.dg+1):=rfl;rw[e1,e2];cases hd:decide (a.fm>0)with
   | true=>exact⟨rfl,fun h=>by cases h⟩
   | false=>
    simp only[hd]at i3;refine⟨i3.1,fun h=> ?_⟩;obtain⟨q1,q2,q3,q4,q5,q6,q7⟩:=i3.2 h;refine⟨q1,q2,q3,?_,?_,?_,?_⟩
    ·exact q4.trans (by simp)
    ·exact q5.trans (by simp;omega)
    ·refine q6.trans ?_;show a.q+a.pts+qgo (rs.map rmk) a.pts=a.q+(a.pts+qgo (rs.map rmk) a.pts)
     omega
    ·exact q7.trans (by simp)
  ·have e:rmk 2=118:=rfl;rw[e];simp only[jaa (show a.pts+1>0 by omega)]at i1;refine⟨i1.1,fun h=> ?_⟩;obtain⟨q1,q2,q3,q4,q5,q6,q7⟩:=i1.2 h;refine⟨q1,q2,q3,?_,?_,q6,?_⟩
   ·exact q4.trans (by simp;omega)
   ·exact q5.trans (by simp)
   ·exact q7.trans (by simp)
  all_goals
   refine⟨i4.1,fun h=> ?_⟩;obtain⟨q1,q2,q3,q4,q5,q6,q7⟩:=i4.2 h;refine⟨q1,q2,q3,?_,?_,?_,?_⟩
   ·exact q4.trans (by simp[rmk])
   ·exact q5.trans (by simp[rmk];omega)
   ·refine q6.trans ?_;show a.q+qgo (rs.map rmk) a.pts=a.q+(0+qgo (rs.map rmk) a.pts)
    omega
   ·exact q7.trans (by simp[rmk])
theorem ro_isJ{b pre r:J}{c d f:Int}(h:DrP b d f)(hb:b=pre++c::r):(rmk (roP d f c pre.length)==100 || (rmk (roP d f c pre.length)==99 || c==d))=(roP d f c pre.length==0 || (roP d f c pre.length==1 || (pre.length:Int)==f)):=by
 obtain⟨h1,h2⟩:=h.eq hb;have hr:=ro_rng d f c pre.length
 have e100:(rmk (roP d f c pre.length)==100)=(roP d f c pre.length==0):=by
  rcases jc5 hr with q | q | q | q | q | q<;>rw[q] <;>rfl
 have e99:(rmk (roP d f c pre.length)==99)=(roP d f c pre.length==1):=by
  rcases jc5 hr with q | q | q | q | q | q<;>rw[q] <;>rfl
 rw[e100,e99];by_cases hf:(pre.length:Int)=f
 ·obtain⟨q1,_⟩:=h2.1 hf;have a1:((pre.length:Int)==f)=true:=by simpa using hf
  have a2:(c==d)=true:=by simpa using q1
  rw[a1,a2]
 ·have a1:((pre.length:Int)==f)=false:=by simpa using hf
  rw[a1];by_cases hc:c=d
  ·-- then a leader
   by_cases h0:(roP d f c pre.length==0)=true
   ·rw[h0];rfl
   ·have hl:roP d f c pre.length=1:=by
     have e:(c==90 || (c==42 || (c==d&& (pre.length:Int) !=f)))=true:=by
      have a3:((pre.length:Int) !=f)=true:=by simpa using hf
      have a2:(c==d)=true:=by simpa using hc
      rw[a2,a3];simp
     unfold roP at h0 ⊢;rw[e]at h0 ⊢;cases hq:hasZ [57,89,84,73,82] c with
     | true=>rw[hq]at h0;exact absurd rfl h0
     | false=>rfl
    rw[hl];simp
  ·have a2:(c==d)=false:=by simpa using hc
   rw[a2]
theorem st_in{b:J}{d f x:Int}(h:DrP b d f):∀(r pre:J)(lo hi:Int),b=pre++r→
  stIn d x r ((jbo d f r pre.length).map rmk) pre.length (decide (lo<x)) (decide (hi>x))=(decide (loGo f (jbo d f r pre.length) pre.length lo<x),decide (hiGo f (jbo d f r pre.length) pre.length hi>x))
 | [],pre,lo,hi,_=>by simp[stIn,jbo,loGo,hiGo]
 | c::r,pre,lo,hi,hb=>by
  have ih:=fun lo hi=>st_in (x:=x) h r (pre++ [c]) lo hi (by rw[hb];simp)
  have e:((pre++ [c]).length:Int)=pre.length+1:=by simp
  rw[e]at ih;rw[jbo,List.map_cons,stIn,loGo,hiGo,ro_isJ h hb];cases(roP d f c pre.length==0 || (roP d f c pre.length==1 || (pre.length:Int)==f))with
  | false=>rw[cond_false,cond_false,cond_false,ih]
  | true=>
   rw[cond_true,cond_true,cond_true,←ih]
   have e1:(decide (lo<x) || decide ((pre.length:Int)<x))=decide (imin lo pre.length<x):=by
    rw[Bool.eq_iff_iff];simp only[Bool.or_eq_true,jae];unfold imin;split<;>omega
   have e2:(decide (hi>x) || decide ((pre.length:Int)>x))=decide (imax hi pre.length>x):=by
    rw[Bool.eq_iff_iff];simp only[Bool.or_eq_true,jae];unfold imax;split<;>omega
   rw[e1,e2]
theorem ro_still{b pre r:J}{c d f:Int}(h:DrP b d f)(hb:b=pre++c::r):((roP d f c pre.length==4 || roP d f c pre.length==5) && (pre.length:Int) !=f)=(hasZ [36,83,43,45] c&& !(c==d)):=by
 obtain⟨h1,h2⟩:=h.eq hb;by_cases hc:c=d
 ·have a2:(c==d)=true:=by simpa using hc
  rw[a2,Bool.not_true,Bool.and_false];by_cases hf:(pre.length:Int)=f
  ·have a1:((pre.length:Int) !=f)=false:=by simpa using hf
   rw[a1,Bool.and_false]
  ·have a3:((pre.length:Int) !=f)=true:=by simpa using hf
   have e:(c==90 || (c==42 || (c==d&& (pre.length:Int) !=f)))=true:=by rw[a2,a3];simp
   unfold roP;rw[e];cases hasZ [57,89,84,73,82] c<;>rfl
 ·have a2:(c==d)=false:=by simpa using hc
  have hf:¬(pre.length:Int)=f:=fun q=>hc (h2.1 q).1
  have a3:((pre.length:Int) !=f)=true:=by simpa using hf
  rw[a2,a3,Bool.and_true,Bool.not_false,Bool.and_true];have e:(c==90 || (c==42 || (c==d&& (pre.length:Int) !=f)))=(c==90 || c==42):=by rw[a2];simp
  unfold roP;rw[e];by_cases m:c∈ [36,83,43,(45:Int)]
  ·have:c=36∨c=83∨c=43∨c=45:=by simpa using m
   rcases this with rfl | rfl | rfl | rfl<;>rfl
  ·have hm:hasZ [36,83,43,45] c=false:=by
    cases q:hasZ [36,83,43,45] c with
    | false=>rfl
    | true=>exact absurd (jbm.1 q) m
   rw[hm];simp only[List.mem_cons,List.not_mem_nil,or_false,not_or]at m;have b1:(c==36)=false:=by simpa using m.1
   have b2:(c==83 || (c==43 || c==45))=false:=by simp[m.2.1,m.2.2.1,m.2.2.2]
   rw[b1,b2];cases hasZ [57,89,84,73,82] c<;>cases(c==90 || c==42) <;>cases c==86<;>rfl
theorem st_law{b ms:J}{d f lo hi:Int}(h:DrP b d f)(hin:∀x:Int,0≤x→x≤b.length→stIn d x b ms 0 false false=(decide (lo<x),decide (hi>x))):∀(r pre:J),b=pre++r→
  stP f lo hi (jbo d f r pre.length) pre.length=stGo d b ms r pre.length
 | [],_,_=>rfl
 | c::r,pre,hb=>by
  have ih:=st_law h hin r (pre++ [c]) (by rw[hb];simp);have e:((pre++ [c]).length:Int)=pre.length+1:=by simp
  rw[e]at ih;have hl:(b.length:Int)=pre.length+1+r.length:=by rw[hb];simp;omega
  rw[jbo,stP,stGo,ih,hin _ (by omega) (by omega)];congr 1;have s:=ro_still h hb
  have e3:((roP d f c pre.length==4 || roP d f c pre.length==5) && ((pre.length:Int) !=f&& (decide ((pre.length:Int)>lo) &&decide ((pre.length:Int)<hi))))=(((roP d f c pre.length==4 || roP d f c pre.length==5) && (pre.length:Int) !=f) && (decide (lo<(pre.length:Int)) &&decide (hi>(pre.length:Int)))):=by
   rw[Bool.and_assoc]
  rw[e3,s];cases hasZ [36,83,43,45] c<;>cases(c==d) <;>rfl
theorem jdk(c x:Int)(l:J):(cntZ (c::l) x:Int)=(if c=x then 1 else 0)+cntZ l x:=by
 unfold cntZ;rw[List.filter_cons];by_cases h:c=x
 ·rw[if_pos (by simpa using h),if_pos h,List.length_cons];omega
 ·rw[if_neg (by simpa using h),if_neg h];omega
theorem jhe(c x:Int)(l:J):hasZ (c::l) x=(c==x || hasZ l x):=rfl
def sgX(d x:Int)(pre r:J):Int:=if x=d then(if d∈pre then 0 else b2i (hasZ r x))else cntZ r x
theorem ji2{d x c:Int}{pre r:J}:sgX d x pre (c::r)=(if c=x∧ ¬(x=d∧d∈pre)then 1 else 0)+sgX d x (pre++ [c]) r:=by
 unfold sgX;by_cases hx:x=d
 ·rw[if_pos hx,if_pos hx];by_cases hp:d∈pre
  ·have hp2:d∈pre++ [c]:=List.mem_append.2 (.inl hp);rw[if_pos hp,if_pos hp2,if_neg (fun q=>q.2 ⟨hx,hp⟩)];rfl
  ·rw[if_neg hp,jhe];by_cases hc:c=x
   ·have hp2:d∈pre++ [c]:=List.mem_append.2 (.inr (by rw[hc,hx];exact List.mem_singleton.2 rfl));rw[if_pos ⟨hc,fun q=>hp q.2⟩,if_pos hp2];have:(c==x)=true:=by simpa using hc
    rw[this];rfl
   ·have:(c==x)=false:=by simpa using hc
    have hp2:d∉pre++ [c]:=fun q=>by
     rcases List.mem_append.1 q with q | q
     ·exact hp q
     ·exact hc (by rw[hx];exact(List.mem_singleton.1 q).symm)
    rw[if_neg (fun q=>hc q.1),if_neg hp2,this,Bool.false_or];omega
 ·rw[if_neg hx,if_neg hx,jdk];by_cases hc:c=x
  ·rw[if_pos hc,if_pos ⟨hc,fun q=>hx q.1⟩]
  ·rw[if_neg hc,if_neg (fun q=>hc q.1)]
theorem si_law{b:J}{d f:Int}(h:DrP b d f):∀(r pre:J),b=pre++r→
  siGo r (jbo d f r pre.length)=sgX d 83 pre r+sgX d 43 pre r+sgX d 45 pre r+cntZ r 84+cntZ r 73+cntZ r 82
 | [],pre,_=>by
  have:∀x,sgX d x pre []=0:=fun x=>by unfold sgX;split<;>(try split) <;>rfl
  rw[this,this,this];rfl
 | c::r,pre,hb=>by
  have ih:=si_law h r (pre++ [c]) (by rw[hb];simp);have e:((pre++ [c]).length:Int)=pre.length+1:=by simp
  rw[e]at ih;rw[jbo,siGo,ih,ji2,ji2,ji2,jdk,jdk,jdk]
  have key:(bif roP d f c pre.length==4 || hasZ [84,73,82] c then(1:Int)else 0)=(if c=83∧ ¬((83:Int)=d∧d∈pre)then 1 else 0)+(if c=43∧ ¬((43:Int)=d∧d∈pre)then 1 else 0)+(if c=45∧ ¬((45:Int)=d∧d∈pre)then 1 else 0)+(if c=84 then 1 else 0)+(if c=73 then 1 else 0)+(if c=82 then 1 else 0):=by
   obtain⟨h1,h2⟩:=h.eq hb;by_cases m:c=83∨c=43∨c=45
   ·-- a sign
    have hc0:c≠0:=by omega
    have hl:(c=d∧(pre.length:Int)≠f)↔(c=d∧d∈pre):=by
     rw[h1];exact⟨fun q=>⟨q.1,q.2.2⟩,fun q=>⟨q.1,by rw[←q.1];exact hc0,q.2⟩⟩
    by_cases hs:c=d∧d∈pre
    ·have hq:=hl.2 hs;have e1:(c==d&& (pre.length:Int) !=f)=true:=by simpa using hq
     have hr:roP d f c pre.length=1:=by
      unfold roP;rw[e1];rcases m with rfl | rfl | rfl<;>simp<;>rfl
     rw[hr];rcases m with rfl | rfl | rfl
     ·rw[if_neg (fun q=>q.2 hs)];rfl
     ·rw[if_neg (fun q=>by omega),if_neg (fun q=>q.2 hs)];rfl
     ·rw[if_neg (fun q=>by omega),if_neg (fun q=>by omega),if_neg (fun q=>q.2 hs)];rfl
    ·have hq:¬(c=d∧(pre.length:Int)≠f):=fun q=>hs (hl.1 q)
     have e1:(c==d&& (pre.length:Int) !=f)=false:=by
      cases q:(c==d&& (pre.length:Int) !=f)with
      | false=>rfl
      | true=>exact absurd (by simpa using q) hq
     have hr:roP d f c pre.length=4:=by
      unfold roP;rw[e1];rcases m with rfl | rfl | rfl<;>rfl
     rw[hr];rcases m with rfl | rfl | rfl
     ·rw[if_pos ⟨rfl,hs⟩];rfl
     ·rw[if_neg (fun q=>by omega),if_pos ⟨rfl,hs⟩];rfl
     ·rw[if_neg (fun q=>by omega),if_neg (fun q=>by omega),if_pos ⟨rfl,hs⟩];rfl
   ·have hr:(roP d f c pre.length==4)=false:=by
     have e2:(c==83 || (c==43 || c==45))=false:=by simp;omega
     unfold roP;rw[e2];cases hasZ [57,89,84,73,82] c<;>cases(c==90 || (c==42 || (c==d&& (pre.length:Int) !=f))) <;>cases c==86<;>cases c==36<;>rfl
    rw[hr,Bool.false_or,if_neg (fun q=>by omega),if_neg (fun q=>by omega),if_neg (fun q=>by omega)];by_cases k:c=84∨c=73∨c=82
    ·rcases k with rfl | rfl | rfl<;>rfl
    ·have:hasZ [84,73,82] c=false:=by
      cases q:hasZ [84,73,82] c with
      | false=>rfl
      | true=>rw[jbm]at q;simp at q;omega
     rw[this,if_neg (by omega),if_neg (by omega),if_neg (by omega)];rfl
  rw[key];omega
theorem cnt_app'(a b:J)(c:Int):(cntZ (a++b) c:Int)=cntZ a c+cntZ b c:=by rw[jkv];omega
theorem mk_118{dr:Int}(hd:dr=0∨hasZ [36,83,43,45] dr=true):∀(l:J)(seen:Bool),(cntZ (mkGo dr seen l) 118:Int)=cntZ l 86
 | [],_=>rfl
 | c::r,seen=>by
  have hm:=jk6 hd seen c;rw[mkGo,jdk,jdk,mk_118 hd r];by_cases h:c=86
  ·rw[if_pos h,if_pos (hm.2 h)]
  ·rw[if_neg h,if_neg fun e=>h (hm.1 e)]
theorem has_cnt{l:J}{c:Int}(h:(cntZ l c:Int)≤1):(cntZ l c:Int)=b2i (hasZ l c):=by
 induction l with
 | nil=>rfl
 | cons x l ih=>
  rw[jdk]at h ⊢;rw[jhe];by_cases hx:x=c
  ·have:(x==c)=true:=by simpa using hx
   rw[if_pos hx]at h ⊢;rw[this,Bool.true_or];have:(cntZ l c:Int)=0:=by omega
   rw[this];rfl
  ·have:(x==c)=false:=by simpa using hx
   rw[if_neg hx]at h ⊢;rw[this,Bool.false_or,Int.zero_add];exact ih (by omega)
theorem q_law{dr:Int}(hd:dr=0∨hasZ [36,83,43,45] dr=true){l t:J}:∀(r pre:J)(seen:Bool),l=pre++r++t→(cntZ (pre++r) 86:Int)≤1→
  qgo (mkGo dr seen r) (cntZ pre 86)=pqGo l (mkGo dr seen r) pre.length
 | [],_,_,_,_=>rfl
 | c::r,pre,seen,hl,hc=>by
  have ih:=q_law hd (l:=l) (t:=t) r (pre++ [c]) (seen || (dr !=0&&c==dr)) (by rw[hl];simp) (by simpa using hc);have hm:=jk6 hd seen c;have e:((pre++ [c]).length:Int)=pre.length+1:=by simp
  have hk:(cntZ pre 86:Int)≤1:=by
   rw[cnt_app']at hc;omega
  have ht:l.take (pre.length:Int).toNat=pre:=by
   rw[hl,Int.toNat_natCast,List.append_assoc];simp
  rw[cnt_app',e]at ih
  have e1:(cntZ [c] 86:Int)=if c=86 then 1 else 0:=by
   have:=jdk c 86 [];rw[this];have:(cntZ [] 86:Int)=0:=rfl;omega
  rw[e1]at ih;rw[mkGo,qgo,pqGo,ht,←ih];by_cases h:c=86
  ·have hm2:=hm.2 h;rw[hm2];have:isP 118=false:=rfl;rw[this,if_pos h];show qgo _ _=0+qgo _ _;rw[Int.zero_add]
  ·have hn:(mk1 dr seen c==118)=false:=by
    cases q:(mk1 dr seen c==118)with
    | false=>rfl
    | true=>exact absurd (hm.1 (eq_of_beq q)) h
   rw[hn,cond_false,if_neg h,Int.add_zero,has_cnt hk];cases isP (mk1 dr seen c) <;>cases hasZ pre 86<;>rfl
theorem pq_app(s:J):∀(a b:J)(i:Int),pqGo s (a++b) i=pqGo s a i+pqGo s b (i+a.length)
 | [],b,i=>by simp[pqGo]
 | m::a,b,i=>by
  rw[List.cons_append,pqGo,pqGo,pq_app s a b,List.length_cons];have:i+1+(a.length:Int)=i+((a.length+1:Nat):Int):=by omega
  rw[this];omega
theorem char_any{l:J}(h:(jan l).any (hasZ [65,88,67,68])=false):je6 l=false:=by
 cases hc:je6 l with
 | false=>rfl
 | true=>
  exfalso;simp only[je6,jaf,List.all_eq_true,Bool.or_eq_true]at hc;obtain⟨h1,h2⟩:=hc
  have hcr:crZ l=false:=by
   cases q:crZ l with
   | false=>rfl
   | true=>
    exfalso;simp only[crZ,jaf,Bool.or_eq_true,jae]at q;rcases q.2 with q | q
    ·have hm:(67:Int)∈l.drop (l.length-2):=by rw[q];simp
     exact absurd (h1 _ (List.mem_of_mem_drop hm)) (by decide)
    ·have hm:(68:Int)∈l.drop (l.length-2):=by rw[q];simp
     exact absurd (h1 _ (List.mem_of_mem_drop hm)) (by decide)
  have hb:jan l=l:=by rw[jih hcr];rfl
  rw[hb,List.any_eq_false]at h;rcases h2 with q | q
  ·exact h 65 (jbm.1 q) (by decide)
  ·exact h 88 (jbm.1 q) (by decide)
structure NumL (l:J):Prop where
 drP:DrP (jan l) (drZ (jan l)) (nD (jan l)).2.2
 d:(nD (jan l)).2.1=drZ (jan l)
 roles:(nR (jan l)).map rmk=mkGo (drZ (jan l)) false (jan l)
 ok:okR (nR (jan l))
 w:(nP (jan l)).2.w+(bif crZ l then 2 else 0)=l.length-cntZ l 86
 dg:(nP (jan l)).2.dg=pdGo (jas l)
 q:(nP (jan l)).2.q=pqGo l (jas l) 0
 g:nG (jan l) (crZ l)=jdm l
 fm:(nP (jan l)).2.fm=cntZ (mkGo (drZ (jan l)) false (jan l)) 100
theorem num_law{l:J}(hz:∀c∈jan l,c≠0):numQ (jan l) (crZ l)=numV l∧(numV l=true→NumL l):=by
 cases hA:anyZ (jan l) [65,88,67,68]with
 | true=>
  have hA':(jan l).any (hasZ [65,88,67,68])=true:=hA;have e1:numQ (jan l) (crZ l)=false:=by rw[numQ,hA];rfl
  have e2:numV l=false:=by rw[numV,hA'];cases je6 l<;>rfl
  rw[e1,e2];exact⟨rfl,fun h=>by cases h⟩
 | false=>
  have hA':(jan l).any (hasZ [65,88,67,68])=false:=hA;have hch:=char_any hA';obtain⟨d1,d2⟩:=nD_law (jan l);cases hD:jcr (jan l)with
  | false=>
   have e1:numQ (jan l) (crZ l)=false:=by rw[numQ,d1,hD];simp
   have e2:numV l=false:=by rw[numV,hD];simp
   rw[e1,e2];exact⟨rfl,fun h=>by cases h⟩
  | true=>
   obtain⟨d2,d3⟩:=d2 hD
   have hP:DrP (jan l) (drZ (jan l)) (nD (jan l)).2.2:=by
    refine⟨hz,?_⟩;by_cases h0:drZ (jan l)=0
    ·rw[if_pos h0]at d3;exact .inl ⟨h0,d3⟩
    ·rw[if_neg h0]at d3;obtain⟨f1,f2⟩:=(jgk (jan l) (jan l)).resolve_left h0;exact .inr ⟨h0,f2,d3,(jgu f1).1⟩
   have hd:drZ (jan l)=0∨hasZ [36,83,43,45] (drZ (jan l))=true:=(jic _ _).imp id And.left;have eR:nR (jan l)=jbo (drZ (jan l)) (nD (jan l)).2.2 (jan l) 0:=by rw[nR,d2]
   have hroles:(nR (jan l)).map rmk=mkGo (drZ (jan l)) false (jan l):=by
    have:=roles_marks hP (jan l) [] rfl;rw[eR];simpa using this
   have hok:okR (nR (jan l)):=by rw[eR];exact roles_ok _ _ _ _
   obtain⟨p1,p2⟩:=pl_ld (nR (jan l)) ⟨0,false,0,0,0,0⟩ hok (by simp only;omega) (by simp only;omega);simp only[hroles]at p1 p2;have z0:decide ((0:Int)>0)=false:=rfl;rw[z0]at p1 p2;rw[mk_118 hd]at p2;have p1:(nP (jan l)).1=(ldGo (mkGo (drZ (jan l)) false (jan l)) false false false 0).1:=p1
   have eSt:nSt (jan l)=(hasZ (jan l) 90&&hasZ (jan l) 42 || (hasZ (jan l) 90 || hasZ (jan l) 42) &&drZ (jan l) !=0):=by
    rw[nSt,d2];cases hasZ (jan l) 42<;>cases hasZ (jan l) 90<;>rfl
   have eS:nS (jan l)=jf2 (jan l) (mkGo (drZ (jan l)) false (jan l)):=by
    have hin:∀x:Int,0≤x→x≤(jan l).length→stIn (drZ (jan l)) x (jan l) (mkGo (drZ (jan l)) false (jan l)) 0 false false=
      (decide (loGo (nD (jan l)).2.2 (nR (jan l)) 0 (jan l).length<x),decide (hiGo (nD (jan l)).2.2 (nR (jan l)) 0 (-1)>x)):=fun x h0 h1=>by
     have:=st_in (x:=x) hP (jan l) [] (jan l).length (-1) rfl;rw[jad (show¬((jan l).length:Int)<x by omega),jad (show¬(-1:Int)>x by omega)]at this;rw[←hroles,eR];exact this
    rw[nS,jf2];have:=st_law hP hin (jan l) [] rfl;rw[eR];rw[eR]at this;exact this
   have eG:nG (jan l) (crZ l)=jdm l:=by
    have hs:=si_law hP (jan l) [] rfl
    have one:∀x∈ [36,83,43,(45:Int)],x≠drZ (jan l)→(cntZ (jan l) x:Int)≤1:=fun x hx hne=>by
     cases hq:decide ((cntZ (jan l) x:Int)<2)with
     | true=>have:=jab hq;omega
     | false=>
      have hf:=(jkn hx).2 (jac hq);have hm:=jjp (jgu hf).2;have h0:drZ (jan l)≠0:=jkq (jan l) hf (jan l) hm;have h0':(drZ (jan l)==0)=false:=by simpa using h0
      rw[jcr,h0',Bool.false_or,jaf,jif,List.all_eq_true]at hD;have:=hD.1 x hm;rw[hf]at this;simp only[Bool.not_true,Bool.or_false,beq_iff_eq]at this;exact absurd this hne
    have sx:∀x∈ [36,83,43,(45:Int)],sgX (drZ (jan l)) x [] (jan l)=b2i (hasZ (jan l) x):=fun x hx=>by
     unfold sgX;split
     ·simp
     ·rename_i hne;exact has_cnt (one x hx hne)
    rw[sx 83 (by simp),sx 43 (by simp),sx 45 (by simp)]at hs;rw[nG,jdm,eR];have hs':siGo (jan l) (jbo (drZ (jan l)) (nD (jan l)).2.2 (jan l) 0)=_:=hs;rw[hs'];cases crZ l<;>simp[b2i] <;>omega
   have eQ:numQ (jan l) (crZ l)=numV l:=by
    rw[numQ,numV,hA,hA',hch,d1,hD,eG,eS,eSt,jgs hA',jdp,nPok,p1];cases hl:(ldGo (mkGo (drZ (jan l)) false (jan l)) false false false 0).1 with
    | false=>cases hasZ (jan l) 90<;>cases hasZ (jan l) 42<;>cases drZ (jan l) !=0<;>simp
    | true=>
     obtain⟨g1,g2,g3,g4,g5,g6,g7⟩:=p2 (p1.trans hl);have g1:(nP (jan l)).2.dg=_:=g1;have g2:(nP (jan l)).2.bh=_:=g2;have g3:decide ((nP (jan l)).2.fm>0)=_:=g3;have g4:(nP (jan l)).2.pts=_:=g4;rw[g1,g2,g3,g4];simp only[Int.zero_add];generalize (ldGo (mkGo (drZ (jan l)) false (jan l)) false false false 0).2.2.2=dg;generalize (ldGo (mkGo (drZ (jan l)) false (jan l)) false false false 0).2.2.1=bh;generalize (ldGo (mkGo (drZ (jan l)) false (jan l)) false false false 0).2.1=fm;cases hasZ (jan l) 90<;>cases hasZ (jan l) 42<;>cases drZ (jan l) !=0<;>cases decide ((cntZ (jan l) 86:Int)≤1) <;>cases decide (dg≥1) <;>cases decide (dg≤9) <;>cases bh<;>cases fm<;>cases decide (jdm l≤1) <;>cases jf2 (jan l) (mkGo (drZ (jan l)) false (jan l)) <;>rfl
   refine⟨eQ,fun hV=> ?_⟩;have hN:=numV_iff.1 hV
   have hl:(ldGo (mkGo (drZ (jan l)) false (jan l)) false false false 0).1=true:=by
    have:=hN.ld;unfold jdp at this;cases h1:(hasZ (jan l) 90&&hasZ (jan l) 42)with
    | true=>rw[h1]at this;cases this
    | false=>
     rw[h1,cond_false]at this;cases h2:((hasZ (jan l) 90 || hasZ (jan l) 42) &&drZ (jan l) !=0)with
     | true=>rw[h2]at this;cases this
     | false=>
      rw[h2,cond_false]at this;simp only[jaf]at this;exact this.1
   obtain⟨g1,g2,g3,g4,g5,g6,g7⟩:=p2 (p1.trans hl);simp only[Int.zero_add]at g5 g6 g7;have eM:jas l=mkGo (drZ (jan l)) false (jan l)++(if crZ l=true then [115,115]else []):=rfl;refine⟨hP,d2,hroles,hok,?_,?_,?_,eG,g7⟩
   ·have:=jhd l;rw[eM,nv_app]at this;have h5:(nP (jan l)).2.w=_:=g5;rw[h5];cases hc:crZ l with
    | false=>rw[hc]at this;have e0:nv (if(false:Bool)=true then [115,115]else [])=0:=rfl;rw[e0]at this;simp only[cond_false];omega
    | true=>rw[hc]at this;have e0:nv (if(true:Bool)=true then [115,115]else [])=2:=rfl;rw[e0]at this;simp only[cond_true];omega
   ·have h1:(nP (jan l)).2.dg=_:=g1;rw[h1,jin _ _ _ _ _ hl,eM,pd_app];cases crZ l<;>simp[pdGo,isP]
   ·have h6:(nP (jan l)).2.q=_:=g6;rw[h6,eM,pq_app];obtain⟨t,h,ht⟩:=jez l;have:=q_law hd (l:=l) (t:=t) (jan l) [] false (by simpa using h) (by simpa using hN.one);have e0:((cntZ [] 86:Nat):Int)=0:=rfl;rw[e0]at this;have e1:(([]:J).length:Int)=0:=rfl;rw[e1]at this;rw[this];cases crZ l with
    | false=>simp[pqGo]
    | true=>simp[pqGo,isP]
end Go.Px
end
noncomputable section
namespace Go.Px
open Go Go.Ab Go.Proofs Go.Shelf
section
variable {P : Program} {G : Env} {L : Nat → Option jb9} {f : FuncId} {fn : Func}
theorem jjc{h:E→Lk→Nat→(Value→Lk→Nat→Prop)→Prop}(hG:jaw P G)(hm:P.follows .mixedOrders=true)(hf:Fn1 P f fn)(hL:LOKf P L fn)
  (H : ∀ args m n K, h args m n K → ∃ (args' : E) (m0 : Lk) (n0 : Nat) (ρ : Nat → Nat) (R : Value → O → Prop), SubM m ρ m0 n0 ∧ (∀ ι : Nm, args'.map (ren fun j => ι (ρ j)) = args.map (ren ι)) ∧ args'.length ≤ fn.ntmps ∧ (∀ v ∈ args', ∀ j ∈ ids v, j<n0) ∧
   jee P G L fn args' m0 n0 (fun v' m' _=>R v' (look m' v'))∧
   ∀v' m',R v' (look m' v')→ ∃v mm nn σ,((∀k b,m k=some b→k<n)→NewM m n m' mm nn σ)∧(∀i∈ids v,n≤i∧i<nn)∧(∀ι' ι'':Nm,(∀i,n≤i→ι'' i=ι' (σ i))→ren ι'' v=ren ι' v')∧K v mm nn):jcz P f h:=by
 obtain⟨h1,h2,h3,h4⟩:=hf;cases hb:fn.body with
 | none=>rw[hb]at h2;cases h2
 | some c=>
  simp only[hb]at h4;simp only[LOKf,hb]at hL;refine⟨⟨fn,h1,h3,by rw[hb];rfl⟩,fun args m n K hh N w0 ι w hrel hwf hargs=> ?_⟩;obtain⟨args',m0,n0,ρ,R,hs,ha,hlen,hids,hd,hR⟩:=H _ _ _ _ hh;rw[jee]at hd;rw[←ha ι];refine(jd3 (N:=w.heap.size) (w0:=w) (ι:=fun j=>ι (ρ j)) hG hm h1 hb h4 hL hlen hd (hs.rel hrel) hs.lt hids).mono fun e w' ⟨v',m',n',ι',he,hv',_,_,hm',_,_⟩=> ?_
  obtain⟨v,mm,nn,σ,hn,hvi,hvr,hk⟩:=hR v' m' hv';have hn:=hn fun k b hk=>(hwf k b hk).1
  obtain⟨q1,q2⟩:=hn.rel hrel hwf hm';refine⟨v,mm,nn,_,?_,hk,hn.le,fun k hk=>nmJ_old hk,q1,q2,fun j hj=>(hvi j hj).2⟩;rw[he,hvr ι' _ fun i hi=>nmJ_new hi]
end
theorem ji1(m:Lk)(ρ:Nat→Nat)(n:Nat):SubM m ρ (fun _=>none) n:=⟨fun _ _ h=>(by cases h),fun _ _ h=>(by cases h)⟩
theorem new_none{m:Lk}{n:Nat}(hwf:∀k b,m k=some b→k<n)(m':Lk)(σ:Nat→Nat):NewM m n m' m n σ:=
 ⟨Nat.le_refl _,fun _ _=>rfl,fun j b h hj=>by have:=hwf j b hj;omega,fun j j' b b' h _ hj=>by have:=hwf j b hj;omega⟩
theorem new_one{m:Lk}{n:Nat}(hwf:∀k b,m k=some b→k<n){m':Lk}{a:Nat}{c:E}{ty:TypeId}(ha:m' a=some ⟨c,ty,true⟩)(hc:ja8 c=true)(hit:Nat.ble itTy ty=false):
  NewM m n m' (m.upd n ⟨c,ty,true⟩) (n+1) (fun _=>a):=by
 have hget:∀j b,n≤j→m.upd n ⟨c,ty,true⟩ j=some b→j=n∧b=⟨c,ty,true⟩:=fun j b hj h=>by
  by_cases e:j=n
  ·subst e;rw[Lk.upd_same]at h;cases h;exact⟨rfl,rfl⟩
  ·rw[Lk.upd_other _ _ e]at h;have:=hwf j b h;omega
 refine⟨by omega,fun j hj=>Lk.upd_other _ _ (by omega),fun j b hj h=> ?_,fun j j' b b' hj hj' h h' hne=> ?_⟩
 ·obtain⟨rfl,rfl⟩:=hget j b hj h;exact⟨by omega,fun i hi=>(by rw[jaq hc]at hi;cases hi),rfl,hit,⟨c,ty,true⟩,ha,rfl,rfl,fun ι' ι'' _=>renMap_congr fun k hk=>by rw[jaq hc]at hk;cases hk⟩
 ·have e1:=(hget j b hj h).1;have e2:=(hget j' b' hj' h').1;omega
theorem new_form{m:Lk}{n:Nat}(hwf:∀k b,m k=some b→k<n){m':Lk}{a x k cap:Nat}{A B d:E}{ty ty2:TypeId}(ha:m' a=some ⟨A++ .slice (some ⟨x,0,some 1⟩) k cap::B,ty,true⟩)
  (hx:m' x=some ⟨d,ty2,true⟩) (hA:ja8 A=true) (hB:ja8 B=true) (hd:ja8 d=true) (hit:Nat.ble itTy ty=false) (hit2:Nat.ble itTy ty2=false) (hne:a≠x):
  NewM m n m' ((m.upd n ⟨A++ .slice (some ⟨n+1,0,some 1⟩) k cap::B,ty,true⟩).upd (n+1) ⟨d,ty2,true⟩) (n+2) (fun j=>if j=n then a else x):=by
 have hget:∀j b,n≤j→((m.upd n ⟨A++ .slice (some ⟨n+1,0,some 1⟩) k cap::B,ty,true⟩).upd (n+1) ⟨d,ty2,true⟩) j=some b→
   (j=n∧b=⟨A++ .slice (some ⟨n+1,0,some 1⟩) k cap::B,ty,true⟩)∨(j=n+1∧b=⟨d,ty2,true⟩):=fun j b hj h=>by
  by_cases e:j=n+1
  ·subst e;rw[Lk.upd_same]at h;cases h;exact .inr ⟨rfl,rfl⟩
  ·rw[Lk.upd_other _ _ e]at h;by_cases e2:j=n
   ·subst e2;rw[Lk.upd_same]at h;cases h;exact .inl ⟨rfl,rfl⟩
   ·rw[Lk.upd_other _ _ e2]at h;have:=hwf j b h;omega
 have hids:∀y i,i∈idsL (A++Value.slice (some ⟨y,0,some 1⟩) k cap::B)→i=y:=fun y i hi=>by
  obtain⟨v,hv,hi⟩:=ja5.1 hi;rcases List.mem_append.1 hv with hv | hv
  ·rw[jbq (jbd.1 hA v hv)]at hi;cases hi
  ·rcases List.mem_cons.1 hv with rfl | hv
   ·simpa[ids]using hi
   ·rw[jbq (jbd.1 hB v hv)]at hi;cases hi
 refine⟨by omega,fun j hj=>by rw[Lk.upd_other _ _ (by omega),Lk.upd_other _ _ (by omega)],fun j b hj h=> ?_,fun j j' b b' hj hj' h h' hn=> ?_⟩
 ·rcases hget j b hj h with⟨rfl,rfl⟩ | ⟨rfl,rfl⟩
  ·refine⟨by omega,fun i hi=>by have:=hids _ i hi;omega,rfl,hit,⟨A++ .slice (some ⟨x,0,some 1⟩) k cap::B,ty,true⟩,by rw[if_pos rfl];exact ha,rfl,rfl,fun ι' ι'' hι=> ?_⟩;rw[List.map_append,List.map_append,List.map_cons,List.map_cons];have e1:A.map (ren ι'')=A.map (ren ι'):=renMap_congr fun k hk=>by rw[jaq hA]at hk;cases hk
   have e2:B.map (ren ι'')=B.map (ren ι'):=renMap_congr fun k hk=>by rw[jaq hB]at hk;cases hk
   have e3:ι'' (j+1)=ι' x:=by rw[hι (j+1) (by omega),if_neg (by omega)]
   rw[e1,e2];simp[ren,ren1,e3]
  ·refine⟨by omega,fun i hi=>(by rw[jaq hd]at hi;cases hi),rfl,hit2,⟨d,ty2,true⟩,(by rw[if_neg (by omega)];exact hx),rfl,rfl,fun ι' ι'' _=>renMap_congr fun k hk=>by rw[jaq hd]at hk;cases hk⟩
 ·rcases hget j b hj h with⟨rfl,rfl⟩ | ⟨rfl,rfl⟩ <;>rcases hget j' b' hj' h' with⟨rfl,rfl⟩ | ⟨rfl,rfl⟩
  ·exact absurd rfl hn
  ·rw[if_pos rfl,if_neg (by omega)];exact hne
  ·rw[if_neg (by omega),if_pos rfl];exact hne.symm
  ·exact absurd rfl hn
theorem look_form{m:Lk}{a x k cap:Nat}{c d:E}{ty ty2:TypeId}(hc:c[6]?=some (.slice (some ⟨x,0,some 1⟩) k cap))
  (h:look m (.tuple ⟨[.pointer (some ⟨a,0,some 0⟩),.bool true]⟩)=[some ⟨c,ty,true⟩,some ⟨d,ty2,true⟩]):m a=some ⟨c,ty,true⟩∧m x=some ⟨d,ty2,true⟩:=by
 simp only[look]at h;cases ha:m a with
 | none=>rw[ha]at h;cases h
 | some b=>
  rw[ha]at h;simp only at h;split at h
  ·rename_i a' l' c' hc';simp only[List.cons.injEq,and_true]at h;obtain⟨h1,h2⟩:=h;cases h1;rw[hc]at hc';cases hc';exact⟨rfl,h2⟩
  ·cases h
def frm(l:J)(x k cap:Nat):E:=[.string (sz l),.bool true,.int .i64 (l.length-cntZ l 86),.int .i64 (pdGo (jas l)),.int .i64 (pqGo l (jas l) 0),.bool (jdm l==1)]++
 .slice (some ⟨x,0,some 1⟩) k cap::[.int .u8 (drZ (jan l)),.int .i64 (nD (jan l)).2.2,.bool (crZ l),.int .u8 (fdFl l),.int .i64 (cntZ (mkGo (drZ (jan l)) false (jan l)) 100)]
def rolF(l:J):J:=nR (jan l)++(bif crZ l then [4,4]else [])
def allK(l:J):Bool:=l.all (hasZ kL)
theorem jij{l:J}(h:allK l=true):asc l=true∧ ∀c∈l,c≠0:=by
 simp only[allK,List.all_eq_true]at h;refine⟨?_,fun c hc=> ?_⟩
 ·simp only[asc,List.all_eq_true,jae];exact fun c hc=>(kL_lt (h c hc)).2
 ·rintro rfl;exact absurd (h 0 hc) (by decide)
theorem body_sub{l:J}{c:Int}(h:c∈jan l):c∈l:=by
 unfold jan at h;split at h
 ·exact List.mem_of_mem_take h
 ·exact h
theorem star_body(l:J):hasZ (jan l) 42=hasZ l 42:=by
 obtain⟨t,h,ht⟩:=jez l
 have e:hasZ l 42=(hasZ (jan l) 42 || hasZ t 42):=by
  conv=>lhs;rw[h]
  simp[hasZ]
 rw[e];rcases ht with⟨rfl,_⟩ | ⟨rfl | rfl,_⟩
 ·simp[hasZ]
 ·have:hasZ [67,82] 42=false:=by decide
  rw[this,Bool.or_false]
 ·have:hasZ [68,66] 42=false:=by decide
  rw[this,Bool.or_false]
theorem form_frm{s:Y}(h:NumL (bz s))(x k cap:Nat):jj6 s (crZ (bz s)) x k cap=frm (bz s) x k cap:=by
 have e:(bif hasZ (jan (bz s)) 42 then(42:Int)else 32)=fdFl (bz s):=by
  rw[star_body,fdFl];cases hasZ (bz s) 42<;>rfl
 rw[jj6,h.w,h.dg,h.q,h.g,h.d,h.fm,e,frm,jf6];rfl
def h103:E→Lk→Nat→(Value→Lk→Nat→Prop)→Prop:=fun args m n K=>match args with
 | [.string s]=>match cnd (decide (s.size≤32) &&allK (bz s))with
  | true=>bif numV (bz s)then∀(k cap:Nat)(d:E),jbw d k cap=true→zc d k=rolF (bz s)→K (.tuple ⟨[.pointer (some ⟨n,0,some 0⟩),.bool true]⟩) ((m.upd n ⟨frm (bz s) (n+1) k cap,156,true⟩).upd (n+1) ⟨d,251,true⟩) (n+2)
   else K (.tuple ⟨[.pointer none,.bool false]⟩) m n
  | false=>False
 | _=>False
def R103(s:Y)(v:Value)(bs:O):Prop:=(numV (bz s)=false∧v= .tuple ⟨[.pointer none,.bool false]⟩)∨(numV (bz s)=true∧v= .tuple ⟨[.pointer (some ⟨3,0,some 0⟩),.bool true]⟩∧ ∃x k cap d,RowI d k cap∧zc d k=rolF (bz s)∧bs=[some ⟨frm (bz s) x k cap,156,true⟩,some ⟨d,251,true⟩])
theorem w103'(s:Y)(hs:s.size≤32)(hk:allK (bz s)=true):jee Tryz.prog G25 noL Tryz.f204 [.string s] (fun _=>none) 0 (fun v m _=>R103 s v (look m v)):=by
 obtain⟨ha,h0⟩:=jij hk;obtain⟨q1,q2⟩:=num_law (l:=bz s) fun c hm=>h0 c (body_sub hm)
 have A1:numQ (jan (bz s)) (crZ (bz s))=false→R103 s (.tuple ⟨[.pointer none,.bool false]⟩) []:=fun hn=> .inl ⟨by rw[←q1];exact hn,rfl⟩
 have A2:numQ (jan (bz s)) (crZ (bz s))=true→ ∀(x m cap:Nat)(d:E),RowI d m cap→zc d m=jk4 s (crZ (bz s))→
   R103 s (.tuple ⟨[.pointer (some ⟨3,0,some 0⟩),.bool true]⟩) [some ⟨jj6 s (crZ (bz s)) x m cap,156,true⟩,some ⟨d,251,true⟩]:=fun hy x k cap d r1 r2=>by
  rw[q1]at hy;rw[form_frm (q2 hy)];exact .inr ⟨hy,rfl,x,k,cap,d,r1,r2,rfl⟩
 exact w103 s hs ha (R103 s) A1 A2
theorem fn103:Fn1 Tryz.prog 204 Tryz.f204:= .m Tryz.func204
theorem h103_ok:jcz Tryz.prog 204 h103:=by
 refine jjc ok_G25 hmix fn103 jak fun args m n K h=> ?_
 unfold h103 at h;split at h
 case h_2=>exact h.elim
 rename_i s;split at h
 case h_2=>exact h.elim
 rename_i hc;simp only[cnd,jaf,jae]at hc;refine⟨[.string s],fun _=>none,0,id,R103 s,ji1 _ _ _,fun ι=>by simp[ren],jag,fun v hv j hj=> ?_,w103' s hc.1 hc.2,fun v' m' hR=> ?_⟩
 ·simp at hv;subst hv;simp[ids]at hj
 ·rcases hR with⟨hv,rfl⟩ | ⟨hv,rfl,x,k,cap,d,r1,r2,hbs⟩
  ·rw[hv]at h;exact⟨_,m,n,id,fun hwf=>new_none hwf _ _,by simp[ids,idsL],fun _ _ _=>by simp[ren,renL],h⟩
  ·rw[hv]at h;obtain⟨a1,a2⟩:=look_form (x:=x) (k:=k) (cap:=cap) rfl hbs;refine⟨_,_,_,fun j=>if j=n then 3 else x,fun hwf=>new_form hwf a1 a2 rfl rfl r1.plain rfl rfl ?_,?_,fun ι' ι'' hι=> ?_,h k cap d (jax.2 r1) r2⟩
   ·rintro rfl;rw[a1]at a2;cases a2
   ·intro i hi;have:i=n:=by simpa[ids,idsL]using hi
    omega
   ·have e:=hι n (Nat.le_refl _);simp only[if_true]at e;simp[ren,renL,ren1,e]
def G26:Env:=(((Env.nil.add 203 (sp2 s102)).add 55 (sp2 s89)).add 188 (sp1 s80)).addG 204 h103
theorem ok_G26:jaw Tryz.prog G26:=jao (jai (jai (jai jap ok102) ok89) ok80) h103_ok
theorem jia{p:Int→Bool}:∀{l:J},l.dropWhile p=[]↔ ∀c∈l,p c=true
 | []=>by simp
 | c::l=>by
  rw[List.dropWhile_cons];cases h:p c with
  | true=>simp only[if_true];rw[jia (l:=l)];simp[h]
  | false=>simp[h]
theorem jiy{l cs:J}:jch l cs=[]↔ ∀c∈l,hasZ cs c=true:=by
 unfold jch;rw[jia];constructor
 ·intro h c hc;cases hq:hasZ cs c with
  | true=>rfl
  | false=>
   exfalso
   -- c stays in what is left
   have:∀r:J,c∈r→c∈r.dropWhile (hasZ cs):=by
    intro r
    induction r with
    | nil=>exact fun h=>by cases h
    | cons x r ih=>
     intro hx;rw[List.dropWhile_cons];cases hh:hasZ cs x with
     | false=>simpa using hx
     | true=>
      rw[if_pos rfl];rcases List.mem_cons.1 hx with rfl | hx
      ·rw[hq]at hh;cases hh
      ·exact ih hx
   have hm:=this l.reverse (by simpa using hc);have:=h c (by simpa using hm);rw[hq]at this;cases this
 ·intro h c hc;have:c∈l.reverse.dropWhile (hasZ cs):=by simpa using hc
  exact h c (by simpa using List.dropWhile_sublist _ |>.subset this)
theorem xp_kL:∀(l:J)(st n:Int)(out:J),allK out=true→allK (xpGo l st n out).1=true
 | [],_,_,_,h=>h
 | c::r,st,n,out,h=>by
  rw[xpGo];generalize (if st=2 then n else 1)=k;split
  ·split
   ·split
    ·exact xp_kL r _ _ _ h
    ·rfl
   ·split
    ·exact xp_kL r _ _ _ h
    ·rfl
  ·split
   ·rfl
   ·split
    ·exact xp_kL r _ _ _ h
    ·split
     ·rename_i hq;refine xp_kL r _ _ _ ?_;simp only[allK,List.all_append,jaf];refine⟨h,?_⟩;rw[List.all_eq_true];intro x hx;rw[List.eq_of_mem_replicate hx];exact hq.1
     ·rfl
theorem ex_kL(l:J):allK (exZ l)=true:=by
 unfold exZ;split
 ·exact xp_kL l 0 0 [] rfl
 ·rfl
def frmP(l:J)(x k cap:Nat):E:=[.string (sz (pS l)),.bool true,.int .i64 (pW l),.int .i64 (pD l),.int .i64 (pQ l),.bool (pG l)]++
 .slice (some ⟨x,0,some 1⟩) k cap::[.int .u8 (drZ (jan (pS l))),.int .i64 (nD (jan (pS l))).2.2,.bool (crZ (pS l)),.int .u8 (fdFl (pS l)),.int .i64 (cntZ (mkGo (drZ (jan (pS l))) false (jan (pS l))) 100)]
def chrP(l:J):E:=[.string (sz (pS l)),.bool false,.int .i64 (pW l),.int .i64 0,.int .i64 0,.bool false,.slice none 0 0,.int .u8 0,.int .i64 0,.bool false,.int .u8 0,.int .i64 0]
theorem frm_P{l:J}(h:pN l=true)(x k cap:Nat):frm (exZ l) x k cap=frmP l x k cap:=by
 have hv:=jdf h;have hc:=(jhy h).nch;unfold frm frmP;rw[pS,if_pos hv,pW,if_pos hv,if_neg (by rw[hc];simp),pD,if_pos h,pQ,if_pos h,pG,h,Bool.true_and]
def h70:E→Lk→Nat→(Value→Lk→Nat→Prop)→Prop:=fun args m n K=>match args with
 | [.string s]=>match cnd (decide (s.size≤9223372036854775807))with
  | true => bif vOK (bz s) then (bif pN (bz s) then ∀ (k cap : Nat) (d : E), jbw d k cap = true → zc d k = rolF (pS (bz s)) → K (.tuple ⟨[.pointer (some ⟨n, 0, some 0⟩), .bool true]⟩) ((m.upd n ⟨frmP (bz s) (n + 1) k cap, 156, true⟩).upd (n + 1) ⟨d, 251, true⟩) (n + 2)
    else K (.tuple ⟨[.pointer (some ⟨n,0,some 0⟩),.bool true]⟩) (m.upd n ⟨chrP (bz s),156,true⟩) (n+1))
   else K (.tuple ⟨[.pointer none,.bool false]⟩) m n
  | false=>False
 | _=>False
def h62:E→Lk→Nat→(Value→Lk→Nat→Prop)→Prop:=fun args m n K=>match args with
 | [.string s]=>match cnd (decide (s.size≤9223372036854775807))with
  | true=>bif pN (bz s)then∀(k cap:Nat)(d:E),jbw d k cap=true→zc d k=rolF (pS (bz s))→K (.tuple ⟨[.pointer (some ⟨n,0,some 0⟩),.bool true]⟩) ((m.upd n ⟨frmP (bz s) (n+1) k cap,156,true⟩).upd (n+1) ⟨d,251,true⟩) (n+2)
   else K (.tuple ⟨[.pointer none,.bool false]⟩) m n
  | false=>False
 | _=>False
def Rfm(c:Bool)(s:Y)(v:Value)(bs:O):Prop:=
 (pN (bz s)=true∧ ∃a x k cap d,v= .tuple ⟨[.pointer (some ⟨a,0,some 0⟩),.bool true]⟩∧RowI d k cap∧zc d k=rolF (pS (bz s))∧bs=[some ⟨frmP (bz s) x k cap,156,true⟩,some ⟨d,251,true⟩])∨
 (c=true∧vOK (bz s)=true∧pN (bz s)=false∧ ∃a,v= .tuple ⟨[.pointer (some ⟨a,0,some 0⟩),.bool true]⟩∧bs=[some ⟨chrP (bz s),156,true⟩])∨
 (pN (bz s)=false∧(c=true→vOK (bz s)=false)∧v= .tuple ⟨[.pointer none,.bool false]⟩)
theorem rfm_new{c:Bool}{s:Y}{v':Value}{m m':Lk}{n:Nat}{K:Value→Lk→Nat→Prop}(hR:Rfm c s v' (look m' v'))
  (h1:pN (bz s)=true→ ∀(k cap:Nat)(d:E),jbw d k cap=true→zc d k=rolF (pS (bz s))→K (.tuple ⟨[.pointer (some ⟨n,0,some 0⟩),.bool true]⟩) ((m.upd n ⟨frmP (bz s) (n+1) k cap,156,true⟩).upd (n+1) ⟨d,251,true⟩) (n+2))
  (h2:c=true→vOK (bz s)=true→pN (bz s)=false→K (.tuple ⟨[.pointer (some ⟨n,0,some 0⟩),.bool true]⟩) (m.upd n ⟨chrP (bz s),156,true⟩) (n+1))
  (h3:pN (bz s)=false→(c=true→vOK (bz s)=false)→K (.tuple ⟨[.pointer none,.bool false]⟩) m n):
  ∃v mm nn σ,((∀k b,m k=some b→k<n)→NewM m n m' mm nn σ)∧(∀i∈ids v,n≤i∧i<nn)∧(∀ι' ι'':Nm,(∀i,n≤i→ι'' i=ι' (σ i))→ren ι'' v=ren ι' v')∧K v mm nn:=by
 rcases hR with⟨hv,a,x,k,cap,d,rfl,r1,r2,hbs⟩ | ⟨hc,hv,hp,a,rfl,hbs⟩ | ⟨hv,hc,rfl⟩
 ·obtain⟨a1,a2⟩:=look_form (x:=x) (k:=k) (cap:=cap) rfl hbs;refine⟨_,_,_,fun j=>if j=n then a else x,fun hwf=>new_form hwf a1 a2 rfl rfl r1.plain rfl rfl ?_,?_,fun ι' ι'' hι=> ?_,h1 hv k cap d (jax.2 r1) r2⟩
  ·rintro rfl;rw[a1]at a2;cases a2
  ·intro i hi;have:i=n:=by simpa[ids,idsL]using hi
   omega
  ·have e:=hι n (Nat.le_refl _);simp only[if_true]at e;simp[ren,renL,ren1,e]
 ·have ha:m' a=some ⟨chrP (bz s),156,true⟩:=by
   simp only[look]at hbs;cases ha:m' a with
   | none=>rw[ha]at hbs;cases hbs
   | some b=>
    rw[ha]at hbs;simp only at hbs;split at hbs
    ·cases hbs
    ·cases hbs;rfl
  refine⟨_,_,_,fun j=>a,fun hwf=>new_one hwf ha rfl rfl,?_,fun ι' ι'' hι=> ?_,h2 hc hv hp⟩
  ·intro i hi;have:i=n:=by simpa[ids,idsL]using hi
   omega
  ·have e:=hι n (Nat.le_refl _);simp[ren,renL,ren1,e]
 ·exact⟨_,m,n,id,fun hwf=>new_none hwf _ _,by simp[ids,idsL],fun _ _ _=>by simp[ren,renL],h3 hv hc⟩
def qi(d h:Bool)(i j k:Int)(e:J)(g l:Nat)(f:Value→O→Prop):Prop:=bif d then∀a:Nat,∀b:Nat,∀c:E,jbw c a b=true→zc c a=rolF e→f (du jb (aq g)) (jp true h (crZ e) (sz e) i j k (drZ (jan e)) (nD (jan e)).snd.snd (fdFl e) (cntZ (mkGo (drZ (jan e)) false (jan e)) 100:Int) a b (some (.mk l 0 (some 1)))::gk c 251)else f (du jw (.pointer none)) []
def jq(a:Y):Y:=sz (xpGo (bz a) 0 0 []).fst
def j4(a b:Y):Y:=szO (jch (bz a) (bz b))
def li(a:Y):Bool:=fy a&&asc (bz a)
theorem v70(s:Y)(R:Value→O→Prop):(jaz Tryz.prog G26 noL Tryz.f145 [S s] (fun _=>none) 0 (fun v m _=>R v (look m v)))=(d4 (!exOK (bz s)) s (l5 R) (ig (fy (jq s) &&li ⟨#[65,88,57]⟩) (br (b5 (j4 (jq s) ⟨#[65,88,57]⟩) ao) (fy (jq s) && (fy ⟨#[65,88]⟩ && (asc (bz (jq s)) &&asc (bz ⟨#[65,88]⟩))) &&true) true) (b5 (j4 (jq s) ⟨#[65,88,57]⟩) ao&&anyZ (bz (jq s)) (bz ⟨#[65,88]⟩)) (R (co jb (aq 23)) [jp false false false (jq s) (cw (jq s)) 0 0 0 0 0 0 0 0 none]) (bif decide ((jq s).size≤32) &&allK (bz (jq s))then qi (Px.numV (bz (jq s))) (jdm (bz (jq s))==1) (((bz (jq s)).length:Int)-(cntZ (bz (jq s)) 86:Int)) (pdGo (jas (bz (jq s)))) (pqGo (bz (jq s)) (jas (bz (jq s))) 0) (bz (jq s)) 20 21 R else False))):=by kernel_rfl
theorem fn70:Fn1 Tryz.prog 145 Tryz.f145:= .m Tryz.func145
theorem w70(s:Y)(hs:s.size≤9223372036854775807):jee Tryz.prog G26 noL Tryz.f145 [.string s] (fun _=>none) 0 (fun v m _=>Rfm true s v (look m v)):=by
 rw[jee,v70];delta av b7 d4 ig du jw gk ak al jp aq jb qi jq cw co b5 ao j4 br fy li l5;have hN:pN (bz s)=false→vOK (bz s)=false→Rfm true s (.tuple ⟨[.pointer none,.bool false]⟩) []:=fun h1 h2=> .inr (.inr ⟨h1,fun _=>h2,rfl⟩)
 refine c_t (jaa hs) (cond_intro (fun h=> ?_) (fun h=> ?_))
 ·have h:exOK (bz s)=false:=by simpa using h
  exact hN (by rw[pN,h];rfl) (by rw[vOK,h];rfl)
 have h:exOK (bz s)=true:=by simpa using h
 have e:(xpGo (bz s) 0 0 []).1=exZ (bz s):=by rw[exZ,if_pos h]
 obtain⟨x1,x2⟩:=jlb s;have k1:bz ⟨#[65,88,57]⟩=[65,88,57]:=rfl;have k2:bz ⟨#[65,88]⟩=[65,88]:=rfl;rw[e,jcy x1,jcf,k1,k2,jcw,jcv,jcy (l:=jch (exZ (bz s)) [65,88,57])]
 rotate_left
 ·intro c hc;refine x1 c ?_;unfold jch at hc;have:=List.dropWhile_sublist _ |>.subset hc
  have:c∈(exZ (bz s)).reverse.dropWhile (hasZ [65,88,57]):=by simpa using this
  simpa using List.dropWhile_sublist _ |>.subset this
 have hk:=jij (ex_kL (bz s));have k3:bz ⟨#[]⟩=[]:=rfl;rw[k3]
 have eC:(decide (jch (exZ (bz s)) [65,88,57]=[]) &&anyZ (exZ (bz s)) [65,88])=je6 (exZ (bz s)):=by
  rw[je6,Bool.eq_iff_iff];simp only[jaf,jae,jiy,List.all_eq_true,anyZ,List.any_eq_true,Bool.or_eq_true,jbm];refine and_congr Iff.rfl ⟨?_,?_⟩
  ·rintro ⟨c,h1,h2⟩;simp at h2;rcases h2 with rfl | rfl
   ·exact .inl h1
   ·exact .inr h1
  ·rintro (h1 | h1)
   ·exact⟨65,h1,by simp⟩
   ·exact⟨88,h1,by simp⟩
 rw[eC];refine c_t ?_ (cond_intro (fun hc=> ?_) (fun hc=>c_t ?_ (cond_intro (fun hn k cap d r1 r2=> ?_) (fun hn=> ?_))))
 ·have a1:decide ((exZ (bz s)).length≤1000)=true:=jaa (by omega);rw[a1,hk.1];cases decide (jch (exZ (bz s)) [65,88,57]=[]) <;>rfl
 ·have hv:vOK (bz s)=true:=by rw[vOK,h,hc];rfl
  have hp:pN (bz s)=false:=by rw[pN,h,numV,hc];rfl
  refine .inr (.inl ⟨rfl,hv,hp,23,rfl,?_⟩);have e1:pS (bz s)=exZ (bz s):=by rw[pS,if_pos hv]
  have e2:pW (bz s)=(exZ (bz s)).length:=by rw[pW,if_pos hv,if_pos hc]
  rw[chrP,e1,e2]
 ·rw[jaa (show(exZ (bz s)).length≤32 by omega),ex_kL];rfl
 ·have hp:pN (bz s)=true:=by rw[pN,h,hn];rfl
  have e1:pS (bz s)=exZ (bz s):=by rw[pS,if_pos (jdf hp)]
  refine .inl ⟨hp,20,21,k,cap,d,rfl,jax.1 r1,by rw[e1];exact r2,?_⟩;rw[←frm_P hp];rfl
 ·exact hN (by rw[pN,h,hn];rfl) (by rw[vOK,h,hc,hn];rfl)
theorem h70_ok:jcz Tryz.prog 145 h70:=by
 refine jjc ok_G26 hmix fn70 jak fun args m n K h=> ?_
 unfold h70 at h;split at h
 case h_2=>exact h.elim
 rename_i s;split at h
 case h_2=>exact h.elim
 rename_i hc;have hc:s.size≤9223372036854775807:=jab hc;refine⟨[.string s],fun _=>none,0,id,Rfm true s,ji1 _ _ _,fun ι=>by simp[ren],jag,fun v hv j hj=> ?_,w70 s hc,fun v' m' hR=> ?_⟩
 ·simp at hv;subst hv;simp[ids]at hj
 ·refine rfm_new hR (fun hp=> ?_) (fun _ hv hp=> ?_) (fun hp hv=> ?_)
  ·rw[jdf hp,hp]at h;exact h
  ·rw[hv,hp]at h;exact h
  ·rw[hv rfl]at h;exact h
def G27:Env:=Env.nil.addG 145 h70
theorem ok_G27:jaw Tryz.prog G27:=jao jap h70_ok
theorem v62(s:Y)(R:Value→O→Prop):(jaz Tryz.prog G27 noL Tryz.f136 [S s] (fun _=>none) 0 (fun v m _=>R v (look m v)))=(d4 (vOK (bz s)) s (qi (pN (bz s)) (pG (bz s)) (pW (bz s)) (pD (bz s)) (pQ (bz s)) (pS (bz s)) 4 5 R) (l5 R)):=by kernel_rfl
theorem fn62:Fn1 Tryz.prog 136 Tryz.f136:= .m Tryz.func136
theorem w62(s:Y)(hs:s.size≤9223372036854775807):jee Tryz.prog G27 noL Tryz.f136 [.string s] (fun _=>none) 0 (fun v m _=>Rfm false s v (look m v)):=by
 rw[jee,v62];delta av b7 d4 co jw l5 du gk ak al jp aq jb qi;refine c_t (jaa hs) (cond_intro (fun h=>cond_intro (fun hn k cap d r1 r2=> ?_) (fun hn=> ?_)) (fun h=> ?_))
 ·exact .inl ⟨hn,4,5,k,cap,d,rfl,jax.1 r1,r2,rfl⟩
 ·exact .inr (.inr ⟨hn,fun q=>(by cases q),rfl⟩)
 ·refine .inr (.inr ⟨?_,fun q=>(by cases q),rfl⟩);cases hp:pN (bz s)with
  | false=>rfl
  | true=>rw[jdf hp]at h;cases h
theorem h62_ok:jcz Tryz.prog 136 h62:=by
 refine jjc ok_G27 hmix fn62 jak fun args m n K h=> ?_
 unfold h62 at h;split at h
 case h_2=>exact h.elim
 rename_i s;split at h
 case h_2=>exact h.elim
 rename_i hc;have hc:s.size≤9223372036854775807:=jab hc;refine⟨[.string s],fun _=>none,0,id,Rfm false s,ji1 _ _ _,fun ι=>by simp[ren],jag,fun v hv j hj=> ?_,w62 s hc,fun v' m' hR=> ?_⟩
 ·simp at hv;subst hv;simp[ids]at hj
 ·refine rfm_new hR (fun hp=> ?_) (fun q _ _=>by cases q) (fun hp _=> ?_)
  ·rw[hp]at h;exact h
  ·rw[hp]at h;exact h
def G28:Env:=(Env.nil.addG 145 h70).addG 136 h62
theorem ok_G28:jaw Tryz.prog G28:=jao (jao jap h70_ok) h62_ok
end Go.Px
end
noncomputable section
namespace Go.Px
open Go Go.Ab Go.Proofs Go.Shelf
def s35(s:Y):Bool×Value:=(decide (s.size≤9223372036854775807),.tuple ⟨[picV (bz s),.int .i64 (pE (bz s))]⟩)
theorem fn35:Fn1 Tryz.prog 113 Tryz.f113:= .m Tryz.func113
theorem v35(s:Y)(R:Value→Prop):jaz Tryz.prog G28 noL Tryz.f113 [Enc.enc s] (fun _=>none) 0 (fun v _ _=>R v)=(d4 (vOK (bz s)) s (bif pN (bz s)then∀a:Nat,∀b:Nat,∀c:E,jbw c a b=true→zc c a=rolF (pS (bz s))→R (co [ak 0] (b9 (bk (fp s) [I (pW (bz s)),I (pD (bz s)),I (pQ (bz s)),B (pG (bz s))] (B true))))else R (co [ak 0] (b9 (bk (fp s) (I (pW (bz s))::ak 0::ak 0::jw) (B false))))) (R (co [ak 30] (b9 (cu::B false::ak 0::ak 0::ak 0::jw))))):=by kernel_rfl
theorem ok35:jam Tryz.prog 113 (sp1 s35):=by
 refine jby ok_G28 hmix fn35 jak jag fun s hc=> ?_
 rw[ja0,v35];delta av b7 d4 co b9 jw ak ao cu bk fp;have hc:(s.size≤9223372036854775807):=jab hc
 try dsimp only[s35]
 refine c_t (jaa hc) (cond_intro (fun hv=>cond_intro (fun hn k cap d _ _=> ?_) (fun hn=> ?_)) (fun hv=> ?_))
 ·simp[picV,pE,hv,hn]
 ·simp[picV,pE,hv,hn,pD,pQ,pG]
 ·have hn:pN (bz s)=false:=by
   cases q:pN (bz s)with
   | false=>rfl
   | true=>rw[jdf q]at hv;cases hv
  have a1:pS (bz s)=[]:=by rw[pS,if_neg (by rw[hv];simp)]
  have a2:pW (bz s)=0:=by rw[pW,if_neg (by rw[hv];simp)]
  have a3:pD (bz s)=0:=by rw[pD,if_neg (by rw[hn];simp)]
  have a4:pQ (bz s)=0:=by rw[pQ,if_neg (by rw[hn];simp)]
  have a5:pG (bz s)=false:=by rw[pG,hn];rfl
  have a6:pE (bz s)=30:=by rw[pE,if_neg (by rw[hv];simp)]
  rw[picV,a1,a2,a3,a4,a5,a6,hn,jf1]
def s31(s:Y):Bool×Value:=(decide (s.size≤9223372036854775807),.bool (pN (bz s)))
theorem fn31:Fn1 Tryz.prog 59 Tryz.f59:= .m Tryz.func59
theorem v31(s:Y)(R:Value→Prop):jaz Tryz.prog G28 noL Tryz.f59 [Enc.enc s] (fun _=>none) 0 (fun v _ _=>R v)=(d4 (pN (bz s)) s (∀a:Nat,∀b:Nat,∀c:E,jbw c a b=true→zc c a=rolF (pS (bz s))→R (B true)) (R (B false))):=by kernel_rfl
theorem ok31:jam Tryz.prog 59 (sp1 s31):=by
 refine jby ok_G28 hmix fn31 jak jag fun s hc=> ?_
 rw[ja0,v31];delta av b7 d4;have hc:(s.size≤9223372036854775807):=jab hc
 try dsimp only[s31]
 refine c_t (jaa hc) (cond_intro (fun h k cap d _ _=> ?_) (fun h=> ?_))
 ·rw[h]
 ·rw[h]
def G29:Env:=Env.nil.add 113 (sp1 s35)
theorem ok_G29:jaw Tryz.prog G29:=jai jap ok35
def s33(s:Y):Bool×Value:=(decide (s.size≤9223372036854775807),.int .i64 (pE (bz s)))
theorem fn33:Fn1 Tryz.prog 67 Tryz.f67:= .m Tryz.func67
theorem v33(s:Y)(R:Value→Prop):jaz Tryz.prog G29 noL Tryz.f67 [Enc.enc s] (fun _=>none) 0 (fun v _ _=>R v)=(bif decide (s.size≤9223372036854775807)then R (I (pE (bz s)))else False):=by kernel_rfl
theorem ok33:jam Tryz.prog 67 (sp1 s33):=by
 refine jby ok_G29 hmix fn33 jak jag fun s hc=> ?_
 rw[ja0,v33];have hc:(s.size≤9223372036854775807):=jab hc
 try dsimp only[s33]
 exact c_t (jaa hc) rfl
def s46(s:Y):Bool×Value:=(decide (s.size≤9223372036854775807),.tuple ⟨[tyV (bz s),.int .i64 (pE (bz s))]⟩)
theorem fn46:Fn1 Tryz.prog 61 Tryz.f61:= .m Tryz.func61
theorem v46(s:Y)(R:Value→Prop):jaz Tryz.prog G29 noL Tryz.f61 [Enc.enc s] (fun _=>none) 0 (fun v _ _=>R v)=(d4 (j1 s) s (R (co [I (pE (bz s))] (dl 0 0 0))) (dx (pN (bz s)) (co [ak 0] (b9 [ak 1,I (pD (bz s)),I (pQ (bz s)),B false,cu])) (co [ak 0] (b9 [ak 3,I (pW (bz s)),ak 0,B false,cu])) R)):=by kernel_rfl
theorem ok46:jam Tryz.prog 61 (sp1 s46):=by
 refine jby ok_G29 hmix fn46 jak jag fun s hc=> ?_
 rw[ja0,v46];delta av b7 d4 dx co b9 ao cu ak dl j1;have hc:(s.size≤9223372036854775807):=jab hc
 try dsimp only[s46]
 rw[jkj];refine c_t (jaa hc) (cond_intro (fun h=> ?_) (fun h=> ?_))
 ·have h:vOK (bz s)=false:=by simpa using h
  have hn:pN (bz s)=false:=by
   cases q:pN (bz s)with
   | false=>rfl
   | true=>rw[jdf q]at h;cases h
  simp[tyV,tyK,tyP,pQ,h,hn]
 ·have h:vOK (bz s)=true:=by simpa using h
  apply cond_intro<;>intro hn
  ·simp[tyV,tyK,tyP,pE,h,hn]
  ·simp[tyV,tyK,tyP,pE,pQ,h,hn]
theorem jgd{l:J}(h:pN l=true):NumL (pS l)∧okR (rolF (pS l))∧(rolF (pS l)).map rmk=jas (pS l):=by
 have hv:=jdf h;have e:pS l=exZ l:=by rw[pS,if_pos hv]
 simp only[pN,jaf]at h;rw[e];have hL:=(num_law (l:=exZ l) fun c hm=>(jij (ex_kL l)).2 c (body_sub hm)).2 h.2
 have hm:(rolF (exZ l)).map rmk=jas (exZ l):=by
  rw[rolF,List.map_append,hL.roles,jas];congr 1;cases crZ (exZ l) <;>rfl
 refine⟨hL,?_,hm⟩;intro r hr;rcases List.mem_append.1 hr with hr | hr
 ·exact hL.ok r hr
 ·cases hc:crZ (exZ l)with
  | false=>rw[hc]at hr;cases hr
  | true=>
   rw[hc]at hr;have:r=4∨r=4:=by simpa using hr
   omega
theorem rol_len{l:J}(h:pN l=true):(rolF (pS l)).length=(pS l).length:=by
 have:=congrArg List.length (jgd h).2.2;rw[List.length_map,jej]at this;exact this
end Go.Px
end
noncomputable section
namespace Go.Px
open Go Go.Ab Go.Proofs Go.Shelf Go.RowKit Go.Sort Go.Lib
theorem laysM284:LaysM.n284 Tryz.prog Tryz.lays172_ren:={Tryz.lays172 with
 i0:=by kernel_rfl
 i3:=by kernel_rfl
 i4:=by kernel_rfl
 i5:=by kernel_rfl
 i9:=by kernel_rfl
 i46:=by kernel_rfl
 i53:=by kernel_rfl
 i212:=by kernel_rfl
 m17:=by kernel_rfl}
theorem tab_pow {w : World} (h : TabsIn w.heap.size w) : Lib.TabIs Tryz.prog w "internal/strconv.uint64pow10" .u64 Lib.pow10Tab := by
 obtain⟨_,ty,fr,h2⟩:=h 1 _ rfl;unfold Lib.TabIs World.var?
 have e : Tryz.prog.globalNamed "internal/strconv.uint64pow10" = some 1 := by kernel_rfl
 rw[e];simp only[Option.bind_some,h2];rfl
theorem fmt_small(u:Nat)(hu:u<100)(w:World):Calls Tryz.prog 155 #[.int .u64 u,.int .i64 10] w fun e w'=>e= .returned (.string ⟨(Lib.decDigits u).toArray⟩)∧w'=w:=by
 have mixed:=Tryz.lays172.mixed;have e142:∀args w,(callFunc 216 args).run Tryz.prog w= .ok (.enter 216 args) w:=enters_of Tryz.func216 (by kernel_rfl) rfl;have hw:IntKind.i64.wrap (u:Int)=(u:Int):=by rw[IntKind.wrap_i64];omega
 go_enter Tryz.func155,Tryz.ntmps155
 go_wp2_with (go_at_fn 216;refine(Any.internal_strconv_small (ρ:=Tryz.lays172_ren) {Tryz.lays172 with} u hu _).mono ?_;rintro e w' ⟨rfl,rfl⟩)
 go_ret
 exact⟨rfl,rfl⟩
set_option maxHeartbeats 6400000 in
set_option maxRecDepth 100000 in
theorem fmt_big (u : Nat) (hu : 100 ≤ u) (hu64 : u < 18446744073709551616) (w : World) (htab : Lib.TabIs Tryz.prog w "internal/strconv.uint64pow10" .u64 Lib.pow10Tab) :
  Calls Tryz.prog 155 #[.int .u64 u,.int .i64 10] w fun e w'=>e= .returned (.string ⟨(Lib.decDigits u).toArray⟩)∧ ∃k os,w'=grow (w.drewN k) os:=by
 have mixed:=Tryz.lays172.mixed;have e143:∀args w,(callFunc 217 args).run Tryz.prog w= .ok (.enter 217 args) w:=enters_of Tryz.func217 (by kernel_rfl) rfl;have e144:∀args w,(callFunc 218 args).run Tryz.prog w= .ok (.enter 218 args) w:=enters_of Tryz.func218 (by kernel_rfl) rfl;have hu1:1≤u:=by omega
 have hnd20:Lib.nDigits u≤20:=by have:=Lib.numDigits_eq u hu1 hu64;split at this<;>omega
 have iu:(100:Int)≤(u:Int):=by omega
 have t148:=Tryz.underlying216;have hal:Tryz.prog.arrayLen 216=24:=by simp[Program.arrayLen,Tryz.underlying216]
 have hsl:∀W,(Instr.sliceAt 216 (.pointer (some ⟨w.heap.size,0,none⟩)) none (some (.int .i64 (Lib.nDigits u:Int))) none).run Tryz.prog W= .ok (.slice (some ⟨w.heap.size,0,none⟩) (Lib.nDigits u) 24) W:=fun W=>by
  rw[run_sliceAt_array_h W 216 ⟨w.heap.size,0,none⟩ (by simp[Program.arrayLen,Program.elem,Tryz.underlying216]) .i64 (Lib.nDigits u:Int) (by omega) (by rw[hal];omega)]
  go_simp
 have hH0:=Lib.holds_zero0 w 216 (Lib.nDigits u) (by omega);have hfmt:=Any.internal_strconv_formatBase10 (ρ:=Tryz.lays172_ren) {Tryz.lays172 with} w.heap.size 0 24 u (Array.replicate (Lib.nDigits u) 0) (w.alloc (.cells Lib.zeros24 216)) hH0 (by rw[Array.size_replicate];exact Lib.lt_pow_nDigits u) hu64 (by rw[Array.size_replicate];omega);rw[Array.size_replicate]at hfmt;have HH0:=Lib.hid hH0;clear hH0 hal
 go_enter Tryz.func155,Tryz.ntmps155
 go_wp2_with (first
  | (go_at_fn 217;refine(Any.internal_strconv_numDigits (ρ:=Tryz.lays172_ren) laysM284 u hu1 hu64 _ (Lib.tabIs_alloc htab _)).mono ?_;rintro e w' ⟨rfl,rfl⟩))
 go_at_fn 218
 refine hfmt.mono ?_;rintro e w' ⟨rfl,k,v',dk,rfl,hF⟩
 have hcv:(convert 96 9 (.slice (some ⟨w.heap.size,0,none⟩) (Lib.nDigits u) 24)).run Tryz.prog ((putRow (fun(b:UInt8)=>Value.int .u8 (b.toNat:Int)) (w.alloc (.cells Lib.zeros24 216)) w.heap.size 0 dk).drewN k)= .ok (.string ⟨(Lib.decDigits u).toArray⟩) ((putRow (fun(b:UInt8)=>Value.int .u8 (b.toNat:Int)) (w.alloc (.cells Lib.zeros24 216)) w.heap.size 0 dk).drewN k):=by
  have h:=run_convert_bytes_back (P:=Tryz.prog) ((putRow (fun(b:UInt8)=>Value.int .u8 (b.toNat:Int)) (w.alloc (.cells Lib.zeros24 216)) w.heap.size 0 dk).drewN k) 96 9 5 ⟨w.heap.size,0,none⟩ 24 (Lib.decDigits u) Tryz.underlying96 Tryz.underlying5 Tryz.underlying9 (fun j hj=>by
   rw[Lib.row_is_numeral hF j hj,Lib.add_plain,World.cell?_drewN];exact cell?_putRow (fun(b:UInt8)=>Value.int .u8 (b.toNat:Int)) _ w.heap.size 0 _ dk HH0.out (by rw[hF.size,Array.size_replicate]) j (by rw[hF.size];rw[Lib.decDigits_length]at hj;exact hj))
  rw[Lib.decDigits_length]at h;exact h
 go_wp2
 go_ret
 obtain⟨os,eo⟩:=Lib.fin_at w (.cells Lib.zeros24 216) dk k 0;exact⟨rfl,k,os,eo⟩
def decZ(n:Int):J:=zl (Lib.decDigits n.toNat)
theorem c87:jbz Tryz.prog 81:=cal Tryz.func81 (by kernel_rfl) (by kernel_rfl)
theorem fmt_all(u:Nat)(hu64:u<18446744073709551616)(w:World)(ht:TabsIn w.heap.size w):
  Calls Tryz.prog 155 #[.int .u64 u,.int .i64 10] w fun e w'=>e= .returned (.string ⟨(Lib.decDigits u).toArray⟩)∧RowKit.Below w.heap.size w w':=by
 by_cases hu:u<100
 ·exact(fmt_small u hu w).mono fun e w' ⟨h1,h2⟩=>⟨h1,jct h2⟩
 ·exact(fmt_big u (by omega) hu64 w (tab_pow ht)).mono fun e w' ⟨h1,k,os,h2⟩=>⟨h1,by rw[h2];exact Lib.below_grow _ _ (Nat.le_refl _) _ _⟩
theorem fmt87(u:Nat)(hu64:u<18446744073709551616)(w:World)(ht:TabsIn w.heap.size w):
  Calls Tryz.prog 81 #[.int .u64 u,.int .i64 10] w fun e w'=>e= .returned (.string ⟨(Lib.decDigits u).toArray⟩)∧RowKit.Below w.heap.size w w':=by
 have mixed:=Tryz.lays172.mixed;have e115:∀args w,(callFunc 155 args).run Tryz.prog w= .ok (.enter 155 args) w:=enters_of Tryz.func155 (by kernel_rfl) rfl
 go_enter Tryz.func81,Tryz.ntmps81
 go_wp2_with (go_at_fn 155;refine(fmt_all u hu64 _ ht).mono ?_;rintro e w' ⟨rfl,hb⟩)
 go_ret
 exact⟨rfl,hb⟩
def isTen(b:Int):Bool:=b==10
def s87(n:U64)(b:Int):Bool×Value:=(decide (0≤n.n∧n.n<18446744073709551616) &&isTen b,.string (sz (decZ n.n)))
theorem ok87:jam Tryz.prog 81 (sp2 s87):=jd8 c87 fun n b hc w ht=>by
 simp only[s87,isTen,jaf,jae,beq_iff_eq]at hc;obtain⟨⟨h0,h1⟩,rfl⟩:=hc
 have e:Enc.enc n=Value.int .u64 (n.n.toNat:Int):=by
  show Value.int .u64 n.n=_;rw[Int.toNat_of_nonneg h0]
 rw[e];refine(fmt87 n.n.toNat (by omega) w ht).mono fun e w' ⟨h4,h5⟩=>⟨?_,h5⟩
 rw[h4,jhq];rfl
end Go.Px
end
section
namespace Go.Px
open Go Go.Ab Go.Proofs
def dval(l:J):Int:=numZ l 0
theorem ji7:∀(l:J)(a:Int),numZ l a=a*tenZ l.length+numZ l 0
 | [],a=>by simp[numZ,tenZ]
 | c::r,a=>by
  rw[numZ,ji7 r,numZ,ji7 r (0*10+(c-48)),List.length_cons,jgb,Int.add_mul,Int.add_mul,Int.mul_assoc,Int.mul_comm 10 (tenZ r.length)];omega
theorem jeb(a b:J):dval (a++b)=dval a*tenZ b.length+dval b:=by
 have:∀(l:J)(x:Int),numZ (l++b) x=numZ b (numZ l x):=by
  intro l
  induction l with
  | nil=>exact fun _=>rfl
  | cons c r ih=>exact fun x=>ih _
 rw[dval,this,ji7 b];rfl
theorem jh9(l:J)(c:Int):dval (l++ [c])=dval l*10+(c-48):=by
 rw[jeb];simp[dval,numZ,tenZ]
theorem jie{a b:J}:dgL (a++b)=true↔dgL a=true∧dgL b=true:=by simp[dgL]
theorem jhg{c:Int}{l:J}:dgL (c::l)=true↔(48≤c∧c≤57)∧dgL l=true:=by simp[dgL]
theorem jc6(n:Nat):0<tenZ n:=by unfold tenZ;exact Int.pow_pos (by decide)
theorem jdr:∀l:J,dgL l=true→0≤dval l∧dval l<tenZ l.length
 | [],_=>by simp[dval,numZ,tenZ]
 | c::r,h=>by
  obtain⟨h1,h2⟩:=jhg.1 h;have ih:=jdr r h2
  have e:dval (c::r)=(c-48)*tenZ r.length+dval r:=by
   have:=jeb [c] r;simpa[dval,numZ]using this
  have hp:=jc6 r.length;rw[e,List.length_cons,jgb];have h3:(c-48)*tenZ r.length≤9*tenZ r.length:=Int.mul_le_mul_of_nonneg_right (by omega) (by omega);have h4:0≤(c-48)*tenZ r.length:=Int.mul_nonneg (by omega) (by omega);omega
theorem dval_head{c:Int}{r:J}(h:dgL (c::r)=true)(hc:c≠48):tenZ r.length≤dval (c::r):=by
 obtain⟨h1,h2⟩:=jhg.1 h;have ih:=jdr r h2
 have e:dval (c::r)=(c-48)*tenZ r.length+dval r:=by
  have:=jeb [c] r;simpa[dval,numZ]using this
 have hp:=jc6 r.length;have h3:1*tenZ r.length≤(c-48)*tenZ r.length:=Int.mul_le_mul_of_nonneg_right (by omega) (by omega);rw[e];omega
theorem dec_spec(u:Nat):dgL (zl (Lib.decDigits u))=true∧dval (zl (Lib.decDigits u))=u:=by
 induction u using Nat.strongRecOn with
 | _ u ih=>
  rw[Lib.decDigits];split
  ·rename_i h
   have e:(((UInt8.ofNat (48+u)).toNat:Nat):Int)=48+u:=by
    simp only[UInt8.toNat_ofNat'];omega
   simp only[zl,List.map_cons,List.map_nil,e];exact⟨by simp[dgL];omega,by simp[dval,numZ];omega⟩
  ·rename_i h;obtain⟨h1,h2⟩:=ih (u/10) (by omega)
   have e:(((UInt8.ofNat (48+u%10)).toNat:Nat):Int)=48+(u%10:Nat):=by
    simp only[UInt8.toNat_ofNat'];omega
   have es:zl (Lib.decDigits (u/10)++ [UInt8.ofNat (48+u%10)])=zl (Lib.decDigits (u/10))++ [48+((u%10:Nat):Int)]:=by
    simp only[zl,List.map_append,List.map_cons,List.map_nil,e]
   rw[es];refine⟨jie.2 ⟨h1,by simp[dgL];omega⟩,?_⟩;rw[jh9,h2];omega
theorem jid:∀(n:Nat)(l:J),l.length=n→dgL l=true→digZ (dval l) n=l
 | 0,l,hl,_=>by rw[List.length_eq_zero_iff.1 hl];rfl
 | n+1,l,hl,h=>by
  rcases List.eq_nil_or_concat l with rfl | ⟨a,c,rfl⟩
  ·cases hl
  ·rw[List.concat_eq_append]at h hl ⊢;obtain⟨h1,h2⟩:=jie.1 h;have h2:=(jhg.1 h2).1;rw[digZ,jh9];have e1:(dval a*10+(c-48))/10=dval a:=by omega
   have e2:48+(dval a*10+(c-48))%10=c:=by omega
   rw[e1,e2,jid n a (by simpa using hl) h1]
theorem digZ_val(l:J)(h:dgL l=true):digZ (dval l) l.length=l:=jid _ l rfl h
theorem digZ_drop:∀(d k:Nat)(v:Int),d≤k→(digZ v k).drop (k-d)=digZ v d
 | 0,k,v,_=>by
  rw[Nat.sub_zero];exact List.drop_eq_nil_of_le (by rw[jds];exact Nat.le_refl _)
 | d+1,0,v,h=>by omega
 | d+1,k+1,v,h=>by
  rw[digZ,digZ,List.drop_append_of_le_length (by rw[jds];omega),show k+1-(d+1)=k-d by omega,digZ_drop d k _ (by omega)]
theorem digZ_last{l:J}(h:dgL l=true){d:Nat}(hd:d≤l.length):l.drop (l.length-d)=digZ (dval l) d:=by
 have:=digZ_drop d l.length (dval l) hd;rwa [digZ_val l h]at this
theorem jjm:∀(d:Nat)(v:Int),0≤v→digZ (v%tenZ d) d=digZ v d
 | 0,_,_=>rfl
 | d+1,v,h=>by
  obtain⟨n,rfl⟩:∃n:Nat,v=n:=⟨v.toNat,by omega⟩
  have et:tenZ (d+1)=((10*10^d:Nat):Int):=by
   unfold tenZ;rw[Nat.mul_comm,←Nat.pow_succ];simp
  have ed:tenZ d=((10^d:Nat):Int):=by unfold tenZ;simp
  have e1:((n:Int)%tenZ (d+1))/10=((n:Int)/10)%tenZ d:=by
   rw[et,ed];have:=Nat.mod_mul_right_div_self n 10 (10^d)
   exact_mod_cast this
  have e2:((n:Int)%tenZ (d+1))%10=(n:Int)%10:=by
   rw[et];have:=Nat.mod_mul_right_mod n 10 (10^d)
   exact_mod_cast this
  rw[digZ,digZ,e1,e2,jjm d _ (by omega)]
theorem dval_take{l:J}(h:dgL l=true)(k:Nat):dval (l.take (l.length-k))=dval l/tenZ k:=by
 by_cases hk:k≤l.length
 ·have e:=List.take_append_drop (l.length-k) l;have hh:dgL (l.take (l.length-k)++l.drop (l.length-k))=true:=by rw[e];exact h
  have h2:=(jie.1 hh).2;have r:=jdr _ h2;have el:(l.drop (l.length-k)).length=k:=by rw[List.length_drop];omega
  have ev:=jeb (l.take (l.length-k)) (l.drop (l.length-k));rw[e,el]at ev;rw[el]at r;have hp:=jc6 k;rw[ev,Int.add_comm,Int.add_mul_ediv_right _ _ (by omega),Int.ediv_eq_zero_of_lt r.1 r.2,Int.zero_add]
 ·have:l.length-k=0:=by omega
  rw[this,List.take_zero];have r:=jdr l h
  have hle:tenZ l.length≤tenZ k:=by
   unfold tenZ;have:(10:Nat) ^l.length≤10^k:=Nat.pow_le_pow_right (by decide) (by omega)
   exact_mod_cast this
  rw[Int.ediv_eq_zero_of_lt r.1 (by omega)];rfl
theorem jjh(k:Nat):dval (rep1 48 k)=0∧dgL (rep1 48 k)=true:=by
 induction k with
 | zero=>exact⟨rfl,rfl⟩
 | succ k ih=>
  have e:rep1 48 (k+1)=48::rep1 48 k:=rfl;rw[e];refine⟨?_,jhg.2 ⟨by omega,ih.2⟩⟩;have:=jeb [48] (rep1 48 k);rw[ih.1]at this;rw[List.singleton_append]at this;rw[this];simp[dval,numZ]
theorem jfs:∀l:J,dval (l.dropWhile (· ==48))=dval l
 | []=>rfl
 | c::r=>by
  rw[List.dropWhile_cons];cases h:c==48 with
  | false=>simp
  | true=>
   rw[if_pos rfl,jfs r];have:=jeb [c] r;rw[eq_of_beq h]at this ⊢;simp[dval,numZ]
theorem dgL_strip{l:J}(h:dgL l=true):dgL (l.dropWhile (· ==48))=true:=by
 simp only[dgL,List.all_eq_true]at h ⊢;exact fun c hc=>h c ((List.dropWhile_sublist _).subset hc)
theorem strip_head:∀l:J,l.dropWhile (· ==48)=[]∨ ∃c r,l.dropWhile (· ==48)=c::r∧c≠48
 | []=> .inl rfl
 | c::r=>by
  rw[List.dropWhile_cons];cases h:c==48 with
  | true=>rw[if_pos rfl];exact strip_head r
  | false=>exact .inr ⟨c,r,by simp,by simpa using h⟩
theorem tenZ_mono{a b:Nat}(h:a≤b):tenZ a≤tenZ b:=by
 unfold tenZ;have:(10:Nat) ^a≤10^b:=Nat.pow_le_pow_right (by decide) h
 exact_mod_cast this
theorem strip_len{l:J}(h:dgL l=true)(d:Nat):(l.dropWhile (· ==48)).length≤d↔dval l<tenZ d:=by
 have hs:=dgL_strip h;have r:=jdr _ hs;rw[jfs]at r;constructor
 ·intro hl;have:=tenZ_mono hl;omega
 ·intro hv;rcases strip_head l with e | ⟨c,t,e,hc⟩
  ·rw[e];exact Nat.zero_le _
  ·have:=dval_head (e▸hs) hc;rw[←e,jfs]at this;rw[e,List.length_cons];have hlt:¬d≤t.length:=fun q=>by have:=tenZ_mono q;omega
   omega
theorem strip_nil{l:J}(h:dgL l=true):l.dropWhile (· ==48)=[]↔dval l=0:=by
 have r:=strip_len h 0;have hv:=(jdr l h).1;have e:tenZ 0=1:=rfl;rw[e,Nat.le_zero,List.length_eq_zero_iff]at r;rw[r];omega
theorem jji:∀(d:Nat)(v:Int),0≤v→dval (digZ v d)=v%tenZ d
 | 0,v,_=>by simp[digZ,dval,numZ,tenZ]
 | d+1,v,h=>by
  have e:=jjm (d+1) v h;have r:=jdr (digZ v (d+1)) (jfj _ _);rw[digZ,jh9,jji d _ (by omega)];obtain⟨n,rfl⟩:∃n:Nat,v=n:=⟨v.toNat,by omega⟩
  have et:tenZ (d+1)=((10*10^d:Nat):Int):=by
   unfold tenZ;rw[Nat.mul_comm,←Nat.pow_succ];simp
  have ed:tenZ d=((10^d:Nat):Int):=by unfold tenZ;simp
  have e1:((n:Int)%tenZ (d+1))/10=((n:Int)/10)%tenZ d:=by
   rw[et,ed];have:=Nat.mod_mul_right_div_self n 10 (10^d)
   exact_mod_cast this
  have e2:((n:Int)%tenZ (d+1))%10=(n:Int)%10:=by
   rw[et];have:=Nat.mod_mul_right_mod n 10 (10^d)
   exact_mod_cast this
  omega
end Go.Px
end
noncomputable section
namespace Go.Px
open Go Go.Ab Go.Proofs Go.Shelf
def fmL(s:Y)(nb:Bool)(w d sc:Int)(sg:Bool)(x k cap:Nat)(dr f:Int)(cr:Bool)(fl fm:Int):E:=
 [.string s,.bool nb,.int .i64 w,.int .i64 d,.int .i64 sc,.bool sg,.slice (some ⟨x,0,some 1⟩) k cap,.int .u8 dr,.int .i64 f,.bool cr,.int .u8 fl,.int .i64 fm]
def vwF(c:E):Lk:=fun j=>match Nat.beq j 0 with | true=>some ⟨c,156,false⟩ | false=>none
def vwF2(c d:E):Lk:=fun j=>match Nat.beq j 0 with | true=>some ⟨c,156,false⟩ | false=>match Nat.beq j 1 with | true=>some ⟨d,251,false⟩ | false=>none
def rho2(a x:Nat):Nat→Nat:=fun j=>match j with | 0=>a | _=>x
theorem sub_F{m:Lk}{a x k cap:Nat}{s:Y}{nb:Bool}{w d sc:Int}{sg:Bool}{dr f:Int}{cr:Bool}{fl fm:Int}{own:Bool}(ha:m a=some ⟨fmL s nb w d sc sg x k cap dr f cr fl fm,156,own⟩):
  SubM m (rho2 a x) (vwF (fmL s nb w d sc sg 1 k cap dr f cr fl fm)) 2:=by
 have hget:∀j b,vwF (fmL s nb w d sc sg 1 k cap dr f cr fl fm) j=some b→j=0∧b=⟨fmL s nb w d sc sg 1 k cap dr f cr fl fm,156,false⟩:=fun j b h=>by
  simp only[vwF]at h;split at h
  ·rename_i h0;cases h;exact⟨jah h0,rfl⟩
  ·cases h
 refine⟨fun j b h=> ?_,fun j b h=> ?_⟩
 ·obtain⟨rfl,rfl⟩:=hget j b h;refine⟨by omega,fun i hi=> ?_⟩;have:i=1:=by simpa[fmL,idsL,ids]using hi
  omega
 ·obtain⟨rfl,rfl⟩:=hget j b h;refine⟨rfl,⟨fmL s nb w d sc sg x k cap dr f cr fl fm,156,own⟩,?_,fun ι=> ?_⟩
  ·show noIt (m a)=_;rw[ha];simp only[noIt];have:(own&&Nat.beq 156 itTy)=false:=by cases own<;>rfl
   rw[this]
  ·simp[fmL,ren,ren1,rho2]
theorem sub_F2{m:Lk}{a x k cap:Nat}{s:Y}{nb:Bool}{w d sc:Int}{sg:Bool}{dr f:Int}{cr:Bool}{fl fm:Int}{own own2:Bool}{r:E}(hr:ja8 r=true)
  (ha:m a=some ⟨fmL s nb w d sc sg x k cap dr f cr fl fm,156,own⟩) (hx:m x=some ⟨r,251,own2⟩):
  SubM m (rho2 a x) (vwF2 (fmL s nb w d sc sg 1 k cap dr f cr fl fm) r) 2:=by
 have hget:∀j b,vwF2 (fmL s nb w d sc sg 1 k cap dr f cr fl fm) r j=some b→(j=0∧b=⟨fmL s nb w d sc sg 1 k cap dr f cr fl fm,156,false⟩)∨(j=1∧b=⟨r,251,false⟩):=fun j b h=>by
  simp only[vwF2]at h;split at h
  ·rename_i h0;cases h;exact .inl ⟨jah h0,rfl⟩
  ·split at h
   ·rename_i h0;cases h;exact .inr ⟨jah h0,rfl⟩
   ·cases h
 refine⟨fun j b h=> ?_,fun j b h=> ?_⟩
 ·rcases hget j b h with⟨rfl,rfl⟩ | ⟨rfl,rfl⟩
  ·refine⟨by omega,fun i hi=> ?_⟩;have:i=1:=by simpa[fmL,idsL,ids]using hi
   omega
  ·exact⟨by omega,fun i hi=>by rw[jaq hr]at hi;cases hi⟩
 ·rcases hget j b h with⟨rfl,rfl⟩ | ⟨rfl,rfl⟩
  ·refine⟨rfl,⟨fmL s nb w d sc sg x k cap dr f cr fl fm,156,own⟩,?_,fun ι=> ?_⟩
   ·show noIt (m a)=_;rw[ha];simp only[noIt];have:(own&&Nat.beq 156 itTy)=false:=by cases own<;>rfl
    rw[this]
   ·simp[fmL,ren,ren1,rho2]
  ·refine⟨rfl,⟨r,251,own2⟩,?_,fun ι=>renMap_congr fun k hk=>by rw[jaq hr]at hk;cases hk⟩;show noIt (m x)=_;rw[hx];simp only[noIt];have:(own2&&Nat.beq 251 itTy)=false:=by cases own2<;>rfl
   rw[this]
def hideS(sp:Ab.Spec):E→Lk→Nat→(Value→Lk→Nat→Prop)→Prop:=fun args m n K=>match sp args (args.map (blkOf m))with
 | some (c,.string e)=>match cnd c with
  | true=>∀s':Y,e=s'→K (.string s') m n
  | false=>False
 | _=>False
theorem jjd{P:Program}{f:FuncId}{sp:Ab.Spec}(h:jam P f sp):jcz P f (hideS sp):=by
 obtain⟨hc,hp⟩:=h;refine⟨hc,fun args m n K hh N w0 ι w hrel hwf hargs=> ?_⟩;unfold hideS at hh;split at hh
 case h_2=>exact hh.elim
 rename_i c e hs;split at hh
 case h_2=>exact hh.elim
 rename_i hcc;have hcc:c=true:=hcc;subst hcc;refine(hp args (.string e) N w0 m ι w hrel hs rfl).mono fun e' w' ⟨h1,h2⟩=> ?_
 exact⟨.string e,m,n,ι,by rw[h1];rfl,hh e rfl,Nat.le_refl _,fun _ _=>rfl,hrel.grow h2,hwf,by simp[ids]⟩
def G31:Env:=(((Env.nil.add 55 (sp2 s89)).addG 81 (hideS (sp2 s87))).addG 154 (hideS (sp2 s88))).addG 30 (hideS (sp2 s78))
theorem ok_G31:jaw Tryz.prog G31:=jao (jao (jao (jai jap ok89) (jjd ok87)) (jjd ok88)) (jjd ok78)
def ll(a:Y)(b:Int):Int:=aw (cw a-b) .i64
def pd(a b:Y)(c:Int):Y:=(a++b).extract (ll (a++b) c).toNat (a++b).size
def d9:Y:=⟨#[48]⟩
def so(a g:Bool)(d:Y)(e f:Int)(h:Value→Prop):Prop:=bif a then∀b:Y,sz ((bz d).dropWhile (fun c:Int=>c==lv 48))=b→jy (decide (am b≤e)) (e9 f 0 || (g || true)) true (j6 d9 (imax 0 (cv e (am b))) 1000 1000) (∀c:Y,sz (repZ (bz d9) (imax 0 (cv e (am b))).toNat)=c→(bif ew c b then j7 (d5 0 (ll (c++b) e) (cw (c++b)) (cw (c++b)) (cw (c++b))) (br (b8 f 0) (bif g then fy (pd c b e) &&li d9&&true else true) true) (du [.bool (b8 f 0&& (g&& !b5 (j4 (pd c b e) d9) ao)),.bool (br (b8 f 0) (bif g then decide (am b≤e) && (e9 f 0 || (g || b5 b ao))else decide (am b≤e) && (e9 f 0 || (g || b5 b ao))) (decide (am b≤e) && (e9 f 0 || (g || b5 b ao))))] (.string (bif b8 f 0 then bif g then pd c b e else pd c b e else pd c b e))) h else False)) False else False
def rz(f:Bool)(c d e g h:Int)(i:Value→Prop):Prop:=bif b6 c 18446744073709551616&&true then∀a:Y,sz (decZ c)=a→(bif e9 d e then bif j6 d9 (cm d e) 1000 1000 then∀b:Y,sz (repZ (bz d9) (cm d e).toNat)=b→so (ew a b) f (a++b) g h i else False else so (d5 0 0 (imax 0 (cv (am a) (cm e d))) (imax 0 (cv (am a) (cm e d))) (am a)) f (a.extract 0 (imax 0 (cv (am a) (cm e d))).toNat) g h i)else False
theorem v63(s:Y)(nb:Bool)(w:Int)(d:Int)(sc:Int)(sg:Bool)(k:Nat)(cap:Nat)(dr:Int)(f:Int)(cr:Bool)(fl:Int)(fm:Int)(n:Int)(q:Int)(R:Value→Prop):(jaz Tryz.prog G31 noL Tryz.f225 [.pointer (some ⟨0,0,some 0⟩),I n,I q] (vwF (fmL s nb w d sc sg 1 k cap dr f cr fl fm)) 2 (fun v _ _=>R v))=(bif d7 n then rz sg (aw (0-IntKind.u64.wrap n) .u64) sc q d n R else rz sg (IntKind.u64.wrap n) sc q d n R):=by kernel_rfl
theorem rep_48:∀k:Nat,repZ [48] k=rep1 48 k
 | 0=>rfl
 | k+1=>by rw[repZ,rep_48 k];rfl
theorem all48{l:J}(h:dgL l=true):(∀c∈l,hasZ [48] c=true)↔dval l=0:=by
 rw[←strip_nil h,jia];constructor
 ·intro q c hc;have:=q c hc;rw[jbm]at this;simpa using this
 ·intro q c hc;rw[jbm];simpa using q c hc
theorem jgm(s:Y):(s.toList==ByteArray.toList (ByteArray.mk #[]))=(bz s).isEmpty:=by
 rw[jcv];have:bz ⟨#[]⟩=[]:=rfl;rw[this];cases bz s<;>rfl
theorem trim_isB{l cs:J}(h:IsB l):IsB (jch l cs):=by
 intro c hc;refine h c ?_;unfold jch at hc;have:=List.dropWhile_sublist _ |>.subset hc
 have:c∈l.reverse.dropWhile (hasZ cs):=by simpa using this
 simpa using List.dropWhile_sublist _ |>.subset this
theorem jhi{n d M:Int}{sg:Bool}{l1:J}{s1:Y}(hs1:bz s1=l1)(hdg:dgL l1=true)(hv:dval l1=M)(hlen:l1.length≤100)(hd:0≤d∧d≤9){R:Value→Prop}
  (hR:R (.tuple ⟨[.string (sz (digZ (M%tenZ d.toNat) d.toNat)),.bool (decide (n<0) && (sg&& !(M%tenZ d.toNat==0))),.bool (decide (M<tenZ d.toNat) && (decide (n≥0) || (sg || M%tenZ d.toNat==0)))]⟩)):
  ∀(s2:Y),sz (List.dropWhile (fun x=>x==List.getD (bz (ByteArray.mk #[48])) 0 0) (bz s1))=s2→
   bif bif decide ((↑(ByteArray.size s2):Int)≤d)then decide (n≥0) || (sg || true)else true then
    bif decide (0≤imax 0 (IntKind.wrap IntKind.i64 (d-(↑(ByteArray.size s2):Int)))∧imax 0 (IntKind.wrap IntKind.i64 (d-(↑(ByteArray.size s2):Int)))≤1000∧ByteArray.size (ByteArray.mk #[48])≤1000)then
     ∀(s':Y),sz (repZ (bz (ByteArray.mk #[48])) (Int.toNat (imax 0 (IntKind.wrap IntKind.i64 (d-(↑(ByteArray.size s2):Int))))))=s'→
      bif jbi (ByteArray.size s'+ByteArray.size s2)then
       bif decide (0≤IntKind.wrap IntKind.i64 ((↑(ByteArray.size (s'++s2)):Int)-d)∧IntKind.wrap IntKind.i64 ((↑(ByteArray.size (s'++s2)):Int)-d)≤(↑(ByteArray.size (s'++s2)):Int)∧(↑(ByteArray.size (s'++s2)):Int)≤(↑(ByteArray.size (s'++s2)):Int))then
        bif bif decide (n<0)then bif sg then decide (ByteArray.size (ByteArray.extract (s'++s2) (Int.toNat (IntKind.wrap IntKind.i64 ((↑(ByteArray.size (s'++s2)):Int)-d))) (ByteArray.size (s'++s2)))≤1000) && (decide (ByteArray.size (ByteArray.mk #[48])≤1000) &&asc (bz (ByteArray.mk #[48]))) &&true else true else true then
         R (Value.tuple (Array.mk [Value.string (bif decide (n<0)then bif sg then ByteArray.extract (s'++s2) (Int.toNat (IntKind.wrap IntKind.i64 ((↑(ByteArray.size (s'++s2)):Int)-d))) (ByteArray.size (s'++s2))else ByteArray.extract (s'++s2) (Int.toNat (IntKind.wrap IntKind.i64 ((↑(ByteArray.size (s'++s2)):Int)-d))) (ByteArray.size (s'++s2))else ByteArray.extract (s'++s2) (Int.toNat (IntKind.wrap IntKind.i64 ((↑(ByteArray.size (s'++s2)):Int)-d))) (ByteArray.size (s'++s2))),
          Value.bool (decide (n<0) && (sg&& !ByteArray.toList (szO (jch (bz (ByteArray.extract (s'++s2) (Int.toNat (IntKind.wrap IntKind.i64 ((↑(ByteArray.size (s'++s2)):Int)-d))) (ByteArray.size (s'++s2)))) (bz (ByteArray.mk #[48]))))==ByteArray.toList (ByteArray.mk #[]))),
          Value.bool (bif decide (n<0)then bif sg then decide ((↑(ByteArray.size s2):Int)≤d) && (decide (n≥0) || (sg || ByteArray.toList s2==ByteArray.toList (ByteArray.mk #[])))else decide ((↑(ByteArray.size s2):Int)≤d) && (decide (n≥0) || (sg || ByteArray.toList s2==ByteArray.toList (ByteArray.mk #[])))else decide ((↑(ByteArray.size s2):Int)≤d) && (decide (n≥0) || (sg || ByteArray.toList s2==ByteArray.toList (ByteArray.mk #[]))))]))
        else False
       else False
      else False
    else False
   else False:=by
 intro s2 h2;have k0:(bz ⟨#[48]⟩).getD 0 0=48:=rfl;have k1:bz ⟨#[48]⟩=[48]:=rfl;rw[k0,hs1]at h2;have hB:∀{l:J},dgL l=true→IsB l:=jg5;have h2d:=dgL_strip hdg;have b2:bz s2=l1.dropWhile (· ==48):=by rw[←h2,jcy (hB h2d)]
 have hl2:(l1.dropWhile (· ==48)).length≤100:=Nat.le_trans (List.dropWhile_sublist _).length_le hlen;have z2:s2.size=(l1.dropWhile (· ==48)).length:=by rw[←jal,b2]
 rw[z2,w64 (n:=d-((l1.dropWhile (· ==48)).length:Int)) (by omega),k1];have hv2:dval (l1.dropWhile (· ==48))=M:=by rw[jfs,hv]
 have hlt:=strip_len hdg d.toNat;have hnl:=strip_nil hdg;rw[hv]at hlt hnl;generalize l1.dropWhile (· ==48)=l2 at*;have hk:0≤imax 0 (d-(l2.length:Int))∧imax 0 (d-(l2.length:Int))≤9∧d≤imax 0 (d-(l2.length:Int))+l2.length:=by unfold imax;split<;>omega
 generalize imax 0 (d-(l2.length:Int))=k at*;refine c_t (by cases decide ((l2.length:Int)≤d) <;>simp) (c_t (jaa ⟨hk.1,by omega,by decide⟩) fun s3 h3=> ?_);obtain⟨r1,r2⟩:=jjh k.toNat;have b3:bz s3=rep1 48 k.toNat:=by rw[←h3,rep_48,jcy (hB r2)]
 have z3:s3.size=k.toNat:=by rw[←jal,b3];simp[rep1]
 have bE:bz (s3++s2)=rep1 48 k.toNat++l2:=by rw[jbr,b3,b2]
 have zE:(s3++s2).size=k.toNat+l2.length:=by rw[←jal,bE,List.length_append];simp[rep1]
 rw[zE,w64 (n:=((k.toNat+l2.length:Nat):Int)-d) (by omega)];refine c_t (by simp only[jbi,Nat.ble_eq];omega) (c_t (jaa (by omega)) ?_);have d3:dgL (rep1 48 k.toNat++l2)=true:=jie.2 ⟨r2,h2d⟩;have v3:dval (rep1 48 k.toNat++l2)=M:=by rw[jeb,r1,hv2];omega
 have l3:(rep1 48 k.toNat++l2).length=k.toNat+l2.length:=by rw[List.length_append];simp[rep1]
 have hM:0≤M:=by have:=(jdr _ d3).1;omega
 have bx:bz ((s3++s2).extract (((k.toNat+l2.length:Nat):Int)-d).toNat (k.toNat+l2.length))=digZ (M%tenZ d.toNat) d.toNat:=by
  rw[jb7,bE,List.take_of_length_le (by rw[l3];exact Nat.le_refl _)];have:=digZ_last d3 (d:=d.toNat) (by rw[l3];omega);rw[v3,l3]at this;rw[jjm _ _ hM,←this];congr 1;omega
 have ex:(s3++s2).extract (((k.toNat+l2.length:Nat):Int)-d).toNat (k.toNat+l2.length)=sz (digZ (M%tenZ d.toNat) d.toNat):=by rw[←bx,jf6]
 have hdd:=jfj d.toNat (M%tenZ d.toNat);rw[ex,jcy (hB hdd),jcw,jgm,jcy (trim_isB (hB hdd)),jgm,b2]
 have e1:(jch (digZ (M%tenZ d.toNat) d.toNat) [48]).isEmpty=(M%tenZ d.toNat==0):=by
  have hm:=Int.emod_nonneg M (b:=tenZ d.toNat) (by have:=jc6 d.toNat;omega);have hm2:=Int.emod_lt_of_pos M (jc6 d.toNat);have hz:dval (digZ (M%tenZ d.toNat) d.toNat)=M%tenZ d.toNat:=by rw[jji _ _ hm,Int.emod_eq_of_lt hm hm2]
  rw[Bool.eq_iff_iff,List.isEmpty_iff,jiy,all48 hdd,hz,beq_iff_eq]
 have e2:(decide ((l2.length:Int)≤d) && (decide (n≥0) || (sg || l2.isEmpty)))=(decide (M<tenZ d.toNat) && (decide (n≥0) || (sg || M%tenZ d.toNat==0))):=by
  by_cases hq:M<tenZ d.toNat
  ·have h5:(l2.length:Int)≤d:=by have:=hlt.2 hq;omega
   have h6:l2.isEmpty=(M%tenZ d.toNat==0):=by
    rw[Int.emod_eq_of_lt hM hq,Bool.eq_iff_iff,List.isEmpty_iff,hnl,beq_iff_eq]
   rw[jaa hq,jaa h5,h6]
  ·have h5:¬(l2.length:Int)≤d:=fun q=>hq (hlt.1 (by omega))
   rw[jad hq,jad h5];rfl
 rw[e1,e2,jcf,jds];have a1:decide (d.toNat≤1000)=true:=jaa (by omega);rw[a1];refine c_t (by cases decide (n<0) <;>cases sg<;>rfl) ?_;cases hn:decide (n<0) <;>cases sg<;>simpa[hn]using hR
def cutV(n q sc d:Int)(sg:Bool):Value:= .tuple ⟨[.string (sz (digZ ((cuN n q sc d sg).natAbs:Int) d.toNat)),.bool (decide (cuN n q sc d sg<0)),.bool (cuF n q sc d sg)]⟩
theorem cutV_eq{n q sc d:Int}{sg:Bool}(hM:0≤cuM n q sc):cutV n q sc d sg= .tuple ⟨[.string (sz (digZ (cuM n q sc%tenZ d.toNat) d.toNat)),.bool (decide (n<0) && (sg&& !(cuM n q sc%tenZ d.toNat==0))),.bool (decide (cuM n q sc<tenZ d.toNat) && (decide (n≥0) || (sg || cuM n q sc%tenZ d.toNat==0)))]⟩:=by
 have hm:=Int.emod_nonneg (cuM n q sc) (b:=tenZ d.toNat) (by have:=jc6 d.toNat;omega)
 have e1:((cuN n q sc d sg).natAbs:Int)=cuM n q sc%tenZ d.toNat:=by
  unfold cuN cuV;split<;>omega
 have e2:decide (cuN n q sc d sg<0)=(decide (n<0) && (sg&& !(cuM n q sc%tenZ d.toNat==0))):=by
  unfold cuN cuV;rw[Bool.eq_iff_iff];simp only[jae,jaf,Bool.not_eq_true',beq_eq_false_iff_ne];split
  ·rename_i h;constructor
   ·exact fun q=>⟨h.1,h.2,by omega⟩
   ·exact fun q=>by omega
  ·rename_i h;constructor
   ·exact fun q=>by omega
   ·exact fun q=>absurd ⟨q.1,q.2.1⟩ h
 rw[cutV,e1,e2];rfl
theorem w63(s:Y)(nb:Bool)(w:Int)(d:Int)(sc:Int)(sg:Bool)(k:Nat)(cap:Nat)(dr:Int)(f:Int)(cr:Bool)(fl:Int)(fm:Int)(n q:Int)(hn: -9223372036854775808≤n∧n≤9223372036854775807)(hq:0≤q∧q≤9)(hsc:0≤sc∧sc≤9)(hd:0≤d∧d≤9){R:Value→Prop}(hR:R (cutV n q sc d sg)):
  jee Tryz.prog G31 noL Tryz.f225 [.pointer (some ⟨0,0,some 0⟩),.int .i64 n,.int .i64 q] (vwF (fmL s nb w d sc sg 1 k cap dr f cr fl fm)) 2 (fun v _ _=>R v):=by
 rw[jee,v63];delta av br jy ay j7 du aw cw ll pd b8 b5 ao e9 am j4 d9 fy li d5 ew cv j6 lv so cm b6 rz d7;obtain⟨u,hu⟩:∃u:Nat,n.natAbs=u:=⟨_,rfl⟩
 obtain⟨U,hU⟩:∃U:Int,U=u:=⟨_,rfl⟩
 obtain⟨g1,g2⟩:=dec_spec u
 have gl:(zl (Lib.decDigits u)).length≤20:=by
  rw[zl,List.length_map,Lib.decDigits_length];exact Lib.nDigits_le20 u (by omega)
 have eD:decZ U=zl (Lib.decDigits u):=by rw[hU,decZ,Int.toNat_natCast]
 have eM1:sc≥q→cuM n q sc=u*tenZ (sc-q).toNat:=fun h=>by
  unfold cuM;split
  ·have:sc=q:=by omega
   rw[this,hu,Int.sub_self];simp[tenZ]
  ·rw[hu]
 have eM2:¬sc≥q→cuM n q sc=u/tenZ (q-sc).toNat:=fun h=>by
  unfold cuM;rw[if_pos (by omega),hu]
 have hM:0≤cuM n q sc:=by
  by_cases h:sc≥q
  ·rw[eM1 h];exact Int.mul_nonneg (by omega) (by have:=jc6 (sc-q).toNat;omega)
  ·rw[eM2 h];exact Int.ediv_nonneg (by omega) (by have:=jc6 (q-sc).toNat;omega)
 have k1:bz ⟨#[48]⟩=[48]:=rfl
 have tail1:∀(s1 s2:Y),sz (decZ U)=s1→sc≥q→sz (repZ (bz (ByteArray.mk #[48])) (Int.toNat (sc-q)))=s2→jbi (s1.size+s2.size)=true∧bz (s1++s2)=zl (Lib.decDigits u)++rep1 48 (sc-q).toNat:=fun s1 s2 h1 h2 h3=>by
  have r:=jjh (sc-q).toNat;have b1:bz s1=zl (Lib.decDigits u):=by rw[←h1,eD,jcy (jg5 g1)]
  have b2:bz s2=rep1 48 (sc-q).toNat:=by rw[←h3,k1,rep_48,jcy (jg5 r.2)]
  have z1:s1.size≤20:=by rw[←jal,b1];exact gl
  have z2:s2.size≤9:=by rw[←jal,b2];simp[rep1];omega
  exact⟨by simp only[jbi,Nat.ble_eq];omega,by rw[jbr,b1,b2]⟩
 have tv1:∀h:sc≥q,dgL (zl (Lib.decDigits u)++rep1 48 (sc-q).toNat)=true∧dval (zl (Lib.decDigits u)++rep1 48 (sc-q).toNat)=cuM n q sc∧(zl (Lib.decDigits u)++rep1 48 (sc-q).toNat).length≤100:=fun h=>by
  have r:=jjh (sc-q).toNat;refine⟨jie.2 ⟨g1,r.2⟩,?_,?_⟩
  ·rw[jeb,g2,r.1,eM1 h];simp[rep1]
  ·rw[List.length_append];simp only[rep1,List.length_replicate];omega
 have tail2:∀(s1:Y),sz (decZ U)=s1→ ¬sc≥q→(0≤imax 0 ((s1.size:Int)-(q-sc))∧imax 0 ((s1.size:Int)-(q-sc))≤s1.size)∧s1.size≤20∧bz (s1.extract 0 (Int.toNat (imax 0 ((s1.size:Int)-(q-sc)))))=(zl (Lib.decDigits u)).take ((zl (Lib.decDigits u)).length-(q-sc).toNat):=fun s1 h1 h2=>by
  have b1:bz s1=zl (Lib.decDigits u):=by rw[←h1,eD,jcy (jg5 g1)]
  have z1:s1.size=(zl (Lib.decDigits u)).length:=by rw[←jal,b1]
  refine⟨by unfold imax;split<;>omega,by omega,?_⟩;rw[jb7,b1,List.drop_zero];congr 1;unfold imax;split<;>omega
 have tv2:∀h:¬sc≥q,dgL ((zl (Lib.decDigits u)).take ((zl (Lib.decDigits u)).length-(q-sc).toNat))=true∧dval ((zl (Lib.decDigits u)).take ((zl (Lib.decDigits u)).length-(q-sc).toNat))=cuM n q sc∧((zl (Lib.decDigits u)).take ((zl (Lib.decDigits u)).length-(q-sc).toNat)).length≤100:=fun h=>by
  refine⟨?_,?_,?_⟩
  ·simp only[dgL,List.all_eq_true]at g1 ⊢;exact fun c hc=>g1 c (List.mem_of_mem_take hc)
  ·rw[dval_take g1,g2,eM2 h]
  ·rw[List.length_take];omega
 rw[cutV_eq hM]at hR;apply cond_intro<;>intro hneg
 ·have hneg':=jab hneg;have e:IntKind.wrap .u64 (0-IntKind.wrap .u64 n)=U:=by rw[wu64e,wu64e];omega
  rw[e,w64 (n:=sc-q) (by omega),w64 (n:=q-sc) (by omega)];refine c_t (by rw[jaa (show(0:Int)≤U∧U<18446744073709551616 by omega)];rfl) fun s1 h1=>cond_intro (fun h=> ?_) (fun h=> ?_)
  ·have h:=jab h;refine c_t (jaa ⟨by omega,by omega,by decide⟩) fun s2 h2=> ?_
   obtain⟨a1,a2⟩:=tail1 s1 s2 h1 h h2;obtain⟨t1,t2,t3⟩:=tv1 h;exact c_t a1 (jhi a2 t1 t2 t3 hd hR)
  ·have h:=jac h;obtain⟨a1,a2,a3⟩:=tail2 s1 h1 h;obtain⟨t1,t2,t3⟩:=tv2 h;rw[w64 (n:=(s1.size:Int)-(q-sc)) (by omega)];have b1:decide ((0:Int)≤0∧0≤imax 0 ((s1.size:Int)-(q-sc))∧imax 0 ((s1.size:Int)-(q-sc))≤(s1.size:Int))=true:=jaa ⟨by decide,a1.1,a1.2⟩;exact c_t b1 (jhi a3 t1 t2 t3 hd hR)
 ·have hneg':=jac hneg;have e:IntKind.wrap .u64 n=U:=by rw[wu64e];omega
  rw[e,w64 (n:=sc-q) (by omega),w64 (n:=q-sc) (by omega)];refine c_t (by rw[jaa (show(0:Int)≤U∧U<18446744073709551616 by omega)];rfl) fun s1 h1=>cond_intro (fun h=> ?_) (fun h=> ?_)
  ·have h:=jab h;refine c_t (jaa ⟨by omega,by omega,by decide⟩) fun s2 h2=> ?_
   obtain⟨a1,a2⟩:=tail1 s1 s2 h1 h h2;obtain⟨t1,t2,t3⟩:=tv1 h;exact c_t a1 (jhi a2 t1 t2 t3 hd hR)
  ·have h:=jac h;obtain⟨a1,a2,a3⟩:=tail2 s1 h1 h;obtain⟨t1,t2,t3⟩:=tv2 h;rw[w64 (n:=(s1.size:Int)-(q-sc)) (by omega)];have b1:decide ((0:Int)≤0∧0≤imax 0 ((s1.size:Int)-(q-sc))∧imax 0 ((s1.size:Int)-(q-sc))≤(s1.size:Int))=true:=jaa ⟨by decide,a1.1,a1.2⟩;exact c_t b1 (jhi a3 t1 t2 t3 hd hR)
def i64B(n:Int):Bool:=decide (-9223372036854775808≤n∧n≤9223372036854775807)
def h63:E→Lk→Nat→(Value→Lk→Nat→Prop)→Prop:=fun args m n K=>match args with
 | [.pointer (some ⟨a,0,some 0⟩),.int .i64 x,.int .i64 q]=>match m a with
  | some ⟨[.string s,.bool nb,.int .i64 w,.int .i64 d,.int .i64 sc,.bool sg,.slice (some ⟨y,0,some 1⟩) k cap,.int .u8 dr,.int .i64 f,.bool cr,.int .u8 fl,.int .i64 fm],156,own⟩=>
   match cnd (i64B x&& (decide (0≤q∧q≤9) && (decide (0≤sc∧sc≤9) &&decide (0≤d∧d≤9))))with
   | true=>K (cutV x q sc d sg) m n
   | false=>False
  | _=>False
 | _=>False
theorem fn63:Fn1 Tryz.prog 225 Tryz.f225:= .m Tryz.func225
theorem h63_ok:jcz Tryz.prog 225 h63:=by
 refine jh5 ok_G31 hmix fn63 jak fun args m n K h=> ?_
 unfold h63 at h;split at h
 case h_2=>exact h.elim
 rename_i a x q;split at h
 case h_2=>exact h.elim
 rename_i s nb w d sc sg y k cap dr f cr fl fm own hm;split at h
 case h_2=>exact h.elim
 rename_i hc;simp only[cnd,i64B,jaf,jae]at hc;obtain⟨h1,h2,h3,h4⟩:=hc;refine⟨[.pointer (some ⟨0,0,some 0⟩),.int .i64 x,.int .i64 q],_,2,rho2 a y,cutV x q sc d sg,sub_F hm,fun ι=>by simp[ren,ren1,rho2],jag,fun v hv j hj=> ?_,rfl,w63 s nb w d sc sg k cap dr f cr fl fm x q h1 h2 h3 h4 (R:=fun v=>v=cutV x q sc d sg) rfl,h⟩;simp at hv;rcases hv with rfl | rfl | rfl
 ·have:j=0:=by simpa[ids]using hj
  omega
 ·simp[ids]at hj
 ·simp[ids]at hj
def G32:Env:=Env.nil.add 55 (sp2 s89)
theorem ok_G32:jaw Tryz.prog G32:=jai jap ok89
def enOn:J→Bool
 | []=>false
 | r::rs=>bif r==0 || r==1 then r==1 else enOn rs
def enGo(ze:Bool)(fm:Int):J→J→Int→Int
 | [],_,_=> -1
 | r::rs,ds,at_=>bif r==0 then at_ else bif r==1 then(bif ds.headD 0 !=48 then at_ else enGo ze fm rs ds.tail (at_+1))
  else bif r==2 then(bif decide (fm>0) || !ze then at_ else enGo ze fm rs ds at_)else enGo ze fm rs ds (at_+1)
def cn1:J→Int
 | []=>0
 | r::rs=>(bif r==1 then 1 else 0)+cn1 rs
theorem jle:∀l,0≤cn1 l
 | []=>by simp[cn1]
 | r::rs=>by have:=jle rs;rw[cn1];cases r==1<;>simp<;>omega
def V90_0:Int×Int×Int×Bool×Bool×Nat×Nat×Int×Int×Y×Bool×Int×Int×Int×Bool×Nat×Nat×Int×Int×Bool×Int×Int×Y×Bool×Int×Int×Int×E→E:=fun(r2,r3,r4,ze,on,k2,cap2,L,i,s,nb,w,dg,sc,sg,k,cap,dr,f,cr,fl,fm,nu,mi,us,at0,ld,d)=> [.pointer (some ⟨0,0,some 0⟩),I r2,I r3,I r4,B ze,B on,.slice (some ⟨2,0,some 1⟩) k2 cap2,I L,I i]
def B90_0:Int×Int×Int×Bool×Bool×Nat×Nat×Int×Int×Y×Bool×Int×Int×Int×Bool×Nat×Nat×Int×Int×Bool×Int×Int×Y×Bool×Int×Int×Int×E→O:=fun(r2,r3,r4,ze,on,k2,cap2,L,i,s,nb,w,dg,sc,sg,k,cap,dr,f,cr,fl,fm,nu,mi,us,at0,ld,d)=> [some ⟨[.pointer (some ⟨1,0,some 0⟩),.string nu,.bool mi,.int .i64 us,.int .i64 at0,.int .i64 ld],255,false⟩,some ⟨[.string s,.bool nb,.int .i64 w,.int .i64 dg,.int .i64 sc,.bool sg,.slice (some ⟨2,0,some 1⟩) k cap,.int .u8 dr,.int .i64 f,.bool cr,.int .u8 fl,.int .i64 fm],156,false⟩,some ⟨d,251,false⟩]
def S90_0:LSpecA (Int×Int×Int×Bool×Bool×Nat×Nat×Int×Int×Y×Bool×Int×Int×Int×Bool×Nat×Nat×Int×Int×Bool×Int×Int×Y×Bool×Int×Int×Int×E) where
 live:=[0,2,3,4,5,6,23,24,25]
 mid:=[0,1,2]
 n:=100
 ap:=[]
 dec vs bs:=match vs,bs with | [.pointer (some ⟨0,0,some 0⟩),.int .i64 r2,.int .i64 r3,.int .i64 r4,.bool ze,.bool on,.slice (some ⟨2,0,some 1⟩) k2 cap2,.int .i64 L,.int .i64 i],[some ⟨[.pointer (some ⟨1,0,some 0⟩),.string nu,.bool mi,.int .i64 us,.int .i64 at0,.int .i64 ld],255,false⟩,some ⟨[.string s,.bool nb,.int .i64 w,.int .i64 dg,.int .i64 sc,.bool sg,.slice (some ⟨2,0,some 1⟩) k cap,.int .u8 dr,.int .i64 f,.bool cr,.int .u8 fl,.int .i64 fm],156,false⟩,some ⟨d,251,false⟩]=>some (r2,r3,r4,ze,on,k2,cap2,L,i,s,nb,w,dg,sc,sg,k,cap,dr,f,cr,fl,fm,nu,mi,us,at0,ld,d) | _,_=>none
 pre:=fun(r2,r3,r4,ze,on,k2,cap2,L,i,s,nb,w,dg,sc,sg,k,cap,dr,f,cr,fl,fm,nu,mi,us,at0,ld,d)=>jbw d k2 cap2&&decide (0≤i∧i≤k2∧k2≤1000∧L=k2∧on=false)
 fin:=fun(r2,r3,r4,ze,on,k2,cap2,L,i,s,nb,w,dg,sc,sg,k,cap,dr,f,cr,fl,fm,nu,mi,us,at0,ld,d) Z=>∀i',Z (.exit 0) [.pointer (some ⟨0,0,some 0⟩),I r2,I r3,I r4,B ze,B (enOn ((zc d k2).drop i.toNat)),.slice (some ⟨2,0,some 1⟩) k2 cap2,I L,I i'] [some ⟨[.pointer (some ⟨1,0,some 0⟩),.string nu,.bool mi,.int .i64 us,.int .i64 at0,.int .i64 ld],255,false⟩,some ⟨[.string s,.bool nb,.int .i64 w,.int .i64 dg,.int .i64 sc,.bool sg,.slice (some ⟨2,0,some 1⟩) k cap,.int .u8 dr,.int .i64 f,.bool cr,.int .u8 fl,.int .i64 fm],156,false⟩,some ⟨d,251,false⟩]
def iw(a:List (Prod Nat Nat))(b:E):Option Blk:=some (.mk (rlbL a b) 251 false)
def kg(b f l:Bool)(a:Y)(c d e j k m n:Int)(g h i:Nat):Option Blk:=some (.mk [.string a,.bool b,ak c,ak d,ak e,.bool f,bv g h i,al j,ak k,.bool l,al m,ak n] 156 false)
def l6(a:Bool)(b:Y)(c d e:Int):Option Blk:=some (.mk (aq 1::dt a b (az c d) (ak e)) 255 false)
theorem r90_0(r2:Int)(r3:Int)(r4:Int)(ze:Bool)(on:Bool)(k2:Nat)(cap2:Nat)(L:Int)(i:Int)(s:Y)(nb:Bool)(w:Int)(dg:Int)(sc:Int)(sg:Bool)(k:Nat)(cap:Nat)(dr:Int)(f:Int)(cr:Bool)(fl:Int)(fm:Int)(nu:Y)(mi:Bool)(us:Int)(at0:Int)(ld:Int)(d:E)(jk:Tmps)(R:Exit→E→O→Prop):(jbp Tryz.prog G32 noL Tryz.f251.ntmps (ja6 Tryz.f251 0) (tl S90_0.live (V90_0 (r2,r3,r4,ze,on,k2,cap2,L,i,s,nb,w,dg,sc,sg,k,cap,dr,f,cr,fl,fm,nu,mi,us,at0,ld,d)) jk) (ml S90_0.mid (B90_0 (r2,r3,r4,ze,on,k2,cap2,L,i,s,nb,w,dg,sc,sg,k,cap,dr,f,cr,fl,fm,nu,mi,us,at0,ld,d))) S90_0.n fun e t' m' _=>S90_0.out R e t' m')=(ja (ic d) R i L .i64 [kg nb sg cr s w dg sc dr f fl fm 2 k cap,iw [] d] d (ak r3::gp ze r4 (bv 2 k2 cap2::az L i) (B on)) k2 0 (l6 mi nu at0 ld us) (bw (ez i 0 d) true (ez i 0 d || ez i 1 d) (fv (ic d) R [kg nb sg cr s w dg sc dr f fl fm 2 k cap,iw [] d] (ak r3::gp ze r4 (bv 2 k2 cap2::az L i) (B (ez i 1 d))) 0 (l6 mi nu at0 ld us) (aq 0) (ak r2)) (bm (ic d) R [l6 mi nu at0 ld us,kg nb sg cr s w dg sc dr f fl fm 2 k cap,iw [] d] (aq 0::ak r2::ak r3::gp ze r4 (fk L i 2 k2 cap2) (B on)))) (aq 0) (ak r2)):=by kernel_rfl
theorem l90_0:∀t m n K,S90_0.hA t m n K→Ab.Sem Tryz.prog Tryz.f251.ntmps (.loop (ja6 Tryz.f251 0)) t m n K:=by
 refine jbv ok_G32 hmix (by kernel_rfl) (ja1 _) S90_0 V90_0 B90_0 (fun(r2,r3,r4,ze,on,k2,cap2,L,i,s,nb,w,dg,sc,sg,k,cap,dr,f,cr,fl,fm,nu,mi,us,at0,ld,d)=>(k2-i).toNat) ?_ ?_ ?_
 ·intro vs bs s h;simp only[S90_0]at h;split at h
  all_goals first | (cases h;exact⟨rfl,rfl⟩) | cases h | (split at h<;>first | (rename_i hq;cases h;have hq:=jah hq;subst hq;exact⟨rfl,rfl⟩) | cases h)
 ·exact fun⟨r2,r3,r4,ze,on,k2,cap2,L,i,s,nb,w,dg,sc,sg,k,cap,dr,f,cr,fl,fm,nu,mi,us,at0,ld,d⟩ hp=>by
   simp only[S90_0,jaf]at hp;have hr:=jax.1 hp.1;simp[V90_0,B90_0,S90_0,ja3,jb2,idsL,ids,jaq hr.plain]
 ·intro⟨r2,r3,r4,ze,on,k2,cap2,L,i,s,nb,w,dg,sc,sg,k,cap,dr,f,cr,fl,fm,nu,mi,us,at0,ld,d⟩ jk Z hp hf;rw[r90_0];delta fv av b6 gz gy ct ja ak aq bw bm gp au bu bp cq bv fk iw al kg dt az l6 ic je ez;simp only[S90_0]at hp hf;simp only[jaf,jae]at hp;obtain⟨hR,hp⟩:=hp;have hr:=jax.1 hR;have hzl:=jbn hr;have e0:0+i.toNat*1=i.toNat:=by omega
  rw[e0];simp only[hr.rlb];have hg:(jav [] d&&true&&true)=true:=by rw[hr.good];rfl
  apply cond_intro<;>intro h
  ·have h:=jab h;obtain⟨a1,a3⟩:=hr.at hp.1 (by omega);rw[a3,enOn]at hf;rw[a1,w64 (n:=i+1) (by omega)];generalize jau d i.toNat=c at*;refine c_t (jaa (by omega)) (c_t rfl (c_t (by simp) (cond_intro (fun z=>c_t hg ?_) (fun z=>c_t hg ?_))))
   ·rw[z,cond_true]at hf;exact hf i
   ·rw[z,cond_false]at hf;exact⟨(r2,r3,r4,ze,on,k2,cap2,L,i+1,s,nb,w,dg,sc,sg,k,cap,dr,f,cr,fl,fm,nu,mi,us,at0,ld,d),rfl,rfl,by simp only[S90_0,jaf,jae];exact⟨hR,by omega,by omega,by omega,by omega,hp.2.2.2.2⟩,by simp only;omega,hf⟩
  ·have h:=jac h;rw[hr.end (by omega),enOn]at hf;rw[hp.2.2.2.2];exact c_t hg (hf i)
def V90_2:Int×Int×Int×Bool×Nat×Nat×Int×Int×Y×Bool×Int×Int×Int×Bool×Nat×Nat×Int×Int×Bool×Int×Int×Y×Bool×Int×Int×Int×E→E:=fun(r2,aa,kk,ze,k2,cap2,L,i,s,nb,w,dg,sc,sg,k,cap,dr,f,cr,fl,fm,nu,mi,us,at0,ld,d)=> [.pointer (some ⟨0,0,some 0⟩),I r2,I aa,I kk,B ze,.slice (some ⟨2,0,some 1⟩) k2 cap2,I L,I i]
def B90_2:Int×Int×Int×Bool×Nat×Nat×Int×Int×Y×Bool×Int×Int×Int×Bool×Nat×Nat×Int×Int×Bool×Int×Int×Y×Bool×Int×Int×Int×E→O:=fun(r2,aa,kk,ze,k2,cap2,L,i,s,nb,w,dg,sc,sg,k,cap,dr,f,cr,fl,fm,nu,mi,us,at0,ld,d)=> [some ⟨[.pointer (some ⟨1,0,some 0⟩),.string nu,.bool mi,.int .i64 us,.int .i64 at0,.int .i64 ld],255,false⟩,some ⟨[.string s,.bool nb,.int .i64 w,.int .i64 dg,.int .i64 sc,.bool sg,.slice (some ⟨2,0,some 1⟩) k cap,.int .u8 dr,.int .i64 f,.bool cr,.int .u8 fl,.int .i64 fm],156,false⟩,some ⟨d,251,false⟩]
def S90_2:LSpecA (Int×Int×Int×Bool×Nat×Nat×Int×Int×Y×Bool×Int×Int×Int×Bool×Nat×Nat×Int×Int×Bool×Int×Int×Y×Bool×Int×Int×Int×E) where
 live:=[0,2,3,4,5,46,47,48]
 mid:=[0,1,2]
 n:=140
 ap:=[]
 dec vs bs:=match vs,bs with | [.pointer (some ⟨0,0,some 0⟩),.int .i64 r2,.int .i64 aa,.int .i64 kk,.bool ze,.slice (some ⟨2,0,some 1⟩) k2 cap2,.int .i64 L,.int .i64 i],[some ⟨[.pointer (some ⟨1,0,some 0⟩),.string nu,.bool mi,.int .i64 us,.int .i64 at0,.int .i64 ld],255,false⟩,some ⟨[.string s,.bool nb,.int .i64 w,.int .i64 dg,.int .i64 sc,.bool sg,.slice (some ⟨2,0,some 1⟩) k cap,.int .u8 dr,.int .i64 f,.bool cr,.int .u8 fl,.int .i64 fm],156,false⟩,some ⟨d,251,false⟩]=>some (r2,aa,kk,ze,k2,cap2,L,i,s,nb,w,dg,sc,sg,k,cap,dr,f,cr,fl,fm,nu,mi,us,at0,ld,d) | _,_=>none
 pre:=fun(r2,aa,kk,ze,k2,cap2,L,i,s,nb,w,dg,sc,sg,k,cap,dr,f,cr,fl,fm,nu,mi,us,at0,ld,d)=>jbw d k2 cap2&&decide (0≤i∧i≤k2∧k2≤1000∧L=k2∧0≤kk∧kk≤i∧0≤aa∧aa≤i∧kk+cn1 ((zc d k2).drop i.toNat)≤nu.size)
 fin:=fun(r2,aa,kk,ze,k2,cap2,L,i,s,nb,w,dg,sc,sg,k,cap,dr,f,cr,fl,fm,nu,mi,us,at0,ld,d) Z=>(∀a' k' i',enGo ze fm ((zc d k2).drop i.toNat) ((bz nu).drop kk.toNat) aa=a'→0≤a'→Z .ret [.pointer (some ⟨0,0,some 0⟩),I a',I a',I k',B ze,.slice (some ⟨2,0,some 1⟩) k2 cap2,I L,I i'] [some ⟨[.pointer (some ⟨1,0,some 0⟩),.string nu,.bool mi,.int .i64 us,.int .i64 at0,.int .i64 ld],255,false⟩,some ⟨[.string s,.bool nb,.int .i64 w,.int .i64 dg,.int .i64 sc,.bool sg,.slice (some ⟨2,0,some 1⟩) k cap,.int .u8 dr,.int .i64 f,.bool cr,.int .u8 fl,.int .i64 fm],156,false⟩,some ⟨d,251,false⟩])∧(enGo ze fm ((zc d k2).drop i.toNat) ((bz nu).drop kk.toNat) aa= -1→ ∀a' k' i',Z (.exit 2) [.pointer (some ⟨0,0,some 0⟩),I r2,I a',I k',B ze,.slice (some ⟨2,0,some 1⟩) k2 cap2,I L,I i'] [some ⟨[.pointer (some ⟨1,0,some 0⟩),.string nu,.bool mi,.int .i64 us,.int .i64 at0,.int .i64 ld],255,false⟩,some ⟨[.string s,.bool nb,.int .i64 w,.int .i64 dg,.int .i64 sc,.bool sg,.slice (some ⟨2,0,some 1⟩) k cap,.int .u8 dr,.int .i64 f,.bool cr,.int .u8 fl,.int .i64 fm],156,false⟩,some ⟨d,251,false⟩])
theorem r90_2(r2:Int)(aa:Int)(kk:Int)(ze:Bool)(k2:Nat)(cap2:Nat)(L:Int)(i:Int)(s:Y)(nb:Bool)(w:Int)(dg:Int)(sc:Int)(sg:Bool)(k:Nat)(cap:Nat)(dr:Int)(f:Int)(cr:Bool)(fl:Int)(fm:Int)(nu:Y)(mi:Bool)(us:Int)(at0:Int)(ld:Int)(d:E)(jk:Tmps)(R:Exit→E→O→Prop):(jbp Tryz.prog G32 noL Tryz.f251.ntmps (ja6 Tryz.f251 2) (tl S90_2.live (V90_2 (r2,aa,kk,ze,k2,cap2,L,i,s,nb,w,dg,sc,sg,k,cap,dr,f,cr,fl,fm,nu,mi,us,at0,ld,d)) jk) (ml S90_2.mid (B90_2 (r2,aa,kk,ze,k2,cap2,L,i,s,nb,w,dg,sc,sg,k,cap,dr,f,cr,fl,fm,nu,mi,us,at0,ld,d))) S90_2.n fun e t' m' _=>S90_2.out R e t' m')=(ja (ic d) R i L .i64 [kg nb sg cr s w dg sc dr f fl fm 2 k cap,iw [] d] d (ak aa::gp ze kk (az L i) (bv 2 k2 cap2)) k2 2 (l6 mi nu at0 ld us) (bif ez i 0 d then bif ic d then R .ret (aq 0::ak aa::ak aa::gp ze kk (az L i) (bv 2 k2 cap2)) [l6 mi nu at0 ld us,kg nb sg cr s w dg sc dr f fl fm 2 k cap,iw [] d]else False else bif ez i 1 d then bif bq nu kk then lr (ax nu kk !=48) (ic d) R [kg nb sg cr s w dg sc dr f fl fm 2 k cap,iw [] d] (gp ze kk (az L i) (bv 2 k2 cap2)) (bu kk::B ze::fk L i 2 k2 cap2) (l6 mi nu at0 ld us) (aq 0) (ak aa) (ak aa) (aq 0) (ak r2) (bu aa)else False else bif ez i 2 d then bif f9 fm || true then lr (f9 fm || !ze) (ic d) R [kg nb sg cr s w dg sc dr f fl fm 2 k cap,iw [] d] (gp ze kk (az L i) (bv 2 k2 cap2)) (gp ze kk (cq L i) (bv 2 k2 cap2)) (l6 mi nu at0 ld us) (aq 0) (ak aa) (ak aa) (aq 0) (ak r2) (ak aa)else False else bm (ic d) R [l6 mi nu at0 ld us,kg nb sg cr s w dg sc dr f fl fm 2 k cap,iw [] d] (aq 0::ak r2::bu aa::gp ze kk (cq L i) (bv 2 k2 cap2))) (aq 0) (ak r2)):=by kernel_rfl
theorem l90_2:∀t m n K,S90_2.hA t m n K→Ab.Sem Tryz.prog Tryz.f251.ntmps (.loop (ja6 Tryz.f251 2)) t m n K:=by
 refine jbv ok_G32 hmix (by kernel_rfl) (ja1 _) S90_2 V90_2 B90_2 (fun(r2,aa,kk,ze,k2,cap2,L,i,s,nb,w,dg,sc,sg,k,cap,dr,f,cr,fl,fm,nu,mi,us,at0,ld,d)=>(k2-i).toNat) ?_ ?_ ?_
 ·intro vs bs s h;simp only[S90_2]at h;split at h
  all_goals first | (cases h;exact⟨rfl,rfl⟩) | cases h | (split at h<;>first | (rename_i hq;cases h;have hq:=jah hq;subst hq;exact⟨rfl,rfl⟩) | cases h)
 ·exact fun⟨r2,aa,kk,ze,k2,cap2,L,i,s,nb,w,dg,sc,sg,k,cap,dr,f,cr,fl,fm,nu,mi,us,at0,ld,d⟩ hp=>by
   simp only[S90_2,jaf]at hp;have hr:=jax.1 hp.1;simp[V90_2,B90_2,S90_2,ja3,jb2,idsL,ids,jaq hr.plain]
 ·intro⟨r2,aa,kk,ze,k2,cap2,L,i,s,nb,w,dg,sc,sg,k,cap,dr,f,cr,fl,fm,nu,mi,us,at0,ld,d⟩ jk Z hp hf;rw[r90_2];delta fv av b6 gz gy ct ja ak aq bm gp bv au bu bp cq iw al kg dt az l6 ic lr f9 je ez fk ax am bq;simp only[S90_2]at hp hf;simp only[jaf,jae]at hp;obtain⟨hR,hp⟩:=hp;have hr:=jax.1 hR;have hzl:=jbn hr;have e0:0+i.toNat*1=i.toNat:=by omega
  rw[e0];simp only[hr.rlb];have hg:(jav [] d&&true&&true)=true:=by rw[hr.good];rfl
  apply cond_intro<;>intro h
  ·have h:=jab h;obtain⟨a1,a3⟩:=hr.at hp.1 (by omega);rw[a3]at hp hf;rw[enGo]at hf;rw[cn1]at hp;rw[a1,w64 (n:=i+1) (by omega)];have hc:=jle ((zc d k2).drop (i+1).toNat);generalize jau d i.toNat=c at*;refine c_t (jaa (by omega)) (c_t rfl (cond_intro (fun z=>c_t hg ?_) (fun z=> ?_)))
   ·rw[z,cond_true]at hf;exact hf.1 aa kk i rfl (by omega)
   ·rw[z,cond_false]at hf;apply cond_intro<;>intro z
    ·rw[z,cond_true]at hf hp;obtain⟨hp1,hp2,hp3,hp4,hp5,hp6,hp7,hp8⟩:=hp;rw[jb4 hp5 (by omega),List.headD_cons,List.tail_cons]at hf;refine c_t (jaa (by omega)) (cond_intro (fun z=>c_t hg ?_) (fun z=>c_t hg ?_))
     ·rw[z,cond_true]at hf;exact hf.1 aa kk i rfl (by omega)
     ·rw[z,cond_false]at hf;rw[w64 (n:=aa+1) (by omega),w64 (n:=kk+1) (by omega)];exact⟨(r2,aa+1,kk+1,ze,k2,cap2,L,i+1,s,nb,w,dg,sc,sg,k,cap,dr,f,cr,fl,fm,nu,mi,us,at0,ld,d),rfl,rfl,by simp only[S90_2,jaf,jae];exact⟨hR,by omega⟩,by simp only;omega,hf⟩
    ·rw[z,cond_false]at hf hp;refine cond_intro (fun z=>c_t (by simp) (cond_intro (fun z2=>c_t hg ?_) (fun z2=>c_t hg ?_))) (fun z=>c_t hg ?_)
     ·rw[z,cond_true,z2,cond_true]at hf;exact hf.1 aa kk i rfl (by omega)
     ·rw[z,cond_true,z2,cond_false]at hf;exact⟨(r2,aa,kk,ze,k2,cap2,L,i+1,s,nb,w,dg,sc,sg,k,cap,dr,f,cr,fl,fm,nu,mi,us,at0,ld,d),rfl,rfl,by simp only[S90_2,jaf,jae];exact⟨hR,by omega⟩,by simp only;omega,hf⟩
     ·rw[z,cond_false]at hf;rw[w64 (n:=aa+1) (by omega)];exact⟨(r2,aa+1,kk,ze,k2,cap2,L,i+1,s,nb,w,dg,sc,sg,k,cap,dr,f,cr,fl,fm,nu,mi,us,at0,ld,d),rfl,rfl,by simp only[S90_2,jaf,jae];exact⟨hR,by omega⟩,by simp only;omega,hf⟩
  ·have h:=jac h;rw[hr.end (by omega),enGo]at hf;exact c_t hg (hf.2 rfl aa kk i)
def pnL(x:Nat)(nu:Y)(mi:Bool)(us at0 ld:Int):E:=[.pointer (some ⟨x,0,some 0⟩),.string nu,.bool mi,.int .i64 us,.int .i64 at0,.int .i64 ld]
def vwF3(p c d:E):Lk:=fun j=>match Nat.beq j 0 with | true=>some ⟨p,255,false⟩ | false=>match Nat.beq j 1 with | true=>some ⟨c,156,false⟩ | false=>match Nat.beq j 2 with | true=>some ⟨d,251,false⟩ | false=>none
def rho3(a x y:Nat):Nat→Nat:=fun j=>match j with | 0=>a | 1=>x | _=>y
theorem sub_F3{m:Lk}{a x y k cap:Nat}{nu:Y}{mi:Bool}{us at0 ld:Int}{s:Y}{nb:Bool}{w d sc:Int}{sg:Bool}{dr f:Int}{cr:Bool}{fl fm:Int}{own own2 own3:Bool}{r:E}(hr:ja8 r=true)
  (hp:m a=some ⟨pnL x nu mi us at0 ld,255,own⟩) (ha:m x=some ⟨fmL s nb w d sc sg y k cap dr f cr fl fm,156,own2⟩) (hx:m y=some ⟨r,251,own3⟩):
  SubM m (rho3 a x y) (vwF3 (pnL 1 nu mi us at0 ld) (fmL s nb w d sc sg 2 k cap dr f cr fl fm) r) 3:=by
 have hget:∀j b,vwF3 (pnL 1 nu mi us at0 ld) (fmL s nb w d sc sg 2 k cap dr f cr fl fm) r j=some b→(j=0∧b=⟨pnL 1 nu mi us at0 ld,255,false⟩)∨(j=1∧b=⟨fmL s nb w d sc sg 2 k cap dr f cr fl fm,156,false⟩)∨(j=2∧b=⟨r,251,false⟩):=fun j b h=>by
  simp only[vwF3]at h;split at h
  ·rename_i h0;cases h;exact .inl ⟨jah h0,rfl⟩
  ·split at h
   ·rename_i h0;cases h;exact .inr (.inl ⟨jah h0,rfl⟩)
   ·split at h
    ·rename_i h0;cases h;exact .inr (.inr ⟨jah h0,rfl⟩)
    ·cases h
 refine⟨fun j b h=> ?_,fun j b h=> ?_⟩
 ·rcases hget j b h with⟨rfl,rfl⟩ | ⟨rfl,rfl⟩ | ⟨rfl,rfl⟩
  ·refine⟨by omega,fun i hi=> ?_⟩;have:i=1:=by simpa[pnL,idsL,ids]using hi
   omega
  ·refine⟨by omega,fun i hi=> ?_⟩;have:i=2:=by simpa[fmL,idsL,ids]using hi
   omega
  ·exact⟨by omega,fun i hi=>by rw[jaq hr]at hi;cases hi⟩
 ·rcases hget j b h with⟨rfl,rfl⟩ | ⟨rfl,rfl⟩ | ⟨rfl,rfl⟩
  ·refine⟨rfl,⟨pnL x nu mi us at0 ld,255,own⟩,?_,fun ι=> ?_⟩
   ·show noIt (m a)=_;rw[hp];simp only[noIt];have:(own&&Nat.beq 255 itTy)=false:=by cases own<;>rfl
    rw[this]
   ·simp[pnL,ren,ren1,rho3]
  ·refine⟨rfl,⟨fmL s nb w d sc sg y k cap dr f cr fl fm,156,own2⟩,?_,fun ι=> ?_⟩
   ·show noIt (m x)=_;rw[ha];simp only[noIt];have:(own2&&Nat.beq 156 itTy)=false:=by cases own2<;>rfl
    rw[this]
   ·simp[fmL,ren,ren1,rho3]
  ·refine⟨rfl,⟨r,251,own3⟩,?_,fun ι=>renMap_congr fun k hk=>by rw[jaq hr]at hk;cases hk⟩;show noIt (m y)=_;rw[hx];simp only[noIt];have:(own3&&Nat.beq 251 itTy)=false:=by cases own3<;>rfl
   rw[this]
theorem fn90:Fn1 Tryz.prog 251 Tryz.f251:= .m Tryz.func251
theorem lok90:LOKf Tryz.prog (twoL 0 S90_0.hA 2 S90_2.hA) Tryz.f251:=jeu (by kernel_rfl) (by kernel_rfl) l90_0 l90_2
def enV(nu:J)(fm:Int)(ro:J):Int:=bif enOn ro then enGo (jch nu [48]).isEmpty fm ro nu 0 else 0
theorem v90(s:Y)(nb:Bool)(w:Int)(dg:Int)(sc:Int)(sg:Bool)(k:Nat)(cap:Nat)(dr:Int)(f:Int)(cr:Bool)(fl:Int)(fm:Int)(nu:Y)(mi:Bool)(us:Int)(at0:Int)(ld:Int)(d:E)(R:Value→Prop):(jaz Tryz.prog G32 (twoL 0 S90_0.hA 2 S90_2.hA) Tryz.f251 [.pointer (some ⟨0,0,some 0⟩)] (vwF3 (pnL 1 nu mi us at0 ld) (fmL s nb w dg sc sg 2 k cap dr f cr fl fm) d) 3 (fun v _ _=>R v))=(ig (fy nu) (li d9) (jv [] d 100) (go (S90_0.toLSpec.pre ((0:Int),((0:Int),((0:Int),(b5 (j4 nu d9) ao,(false,(k,(cap,(natO k,((0:Int),(s,(nb,(w,(dg,(sc,(sg,(k,(cap,(dr,(f,(cr,(fl,(fm,(nu,(mi,(us,(at0,(ld,rlbL [] d)))))))))))))))))))))))))))) (jr (rlbL [] d) 100 (bif !enOn (ii 0 [] d k)then R (ak 0)else bif jv [] (rlbL [] d) 140 then kz (S90_2.toLSpec.pre ((0:Int),((0:Int),((0:Int),(b5 (j4 nu d9) ao,(k,(cap,(natO k,((0:Int),(s,(nb,(w,(dg,(sc,(sg,(k,(cap,(dr,(f,(cr,(fl,(fm,(nu,(mi,(us,(at0,(ld,la d))))))))))))))))))))))))))) (∀a:Int,jz (enGo (b5 (j4 nu d9) ao) fm (ii 0 [] (rlbL [] d) k) (cl nu) 0=a→0≤a→km (la d) 140 (R (ak a)))) (enGo (b5 (j4 nu d9) ao) fm (ii 0 [] (rlbL [] d) k) (cl nu) 0= -(1:Int)→jz (Int→km (la d) 140 (R (I (-1)))))else False)) Int) False):=by kernel_rfl
theorem w90(s:Y)(nb:Bool)(w:Int)(dg:Int)(sc:Int)(sg:Bool)(k:Nat)(cap:Nat)(dr:Int)(f:Int)(cr:Bool)(fl:Int)(fm:Int)(nu:Y)(mi:Bool)(us:Int)(at0:Int)(ld:Int)(d:E)(hR:jbw d k cap=true)(hk:k≤1000)(hn:nu.size≤1000)(hc:cn1 (zc d k)≤nu.size){R:Value→Prop}(hr:R (.int .i64 (enV (bz nu) fm (zc d k)))):
  jee Tryz.prog G32 (twoL 0 S90_0.hA 2 S90_2.hA) Tryz.f251 [.pointer (some ⟨0,0,some 0⟩)] (vwF3 (pnL 1 nu mi us at0 ld) (fmL s nb w dg sc sg 2 k cap dr f cr fl fm) d) 3 (fun v _ _=>R v):=by
 rw[jee,v90];delta av ig go gm jr kz jz km la cl ii b5 ao j4 d9 ak jv fy li;have h:=jax.1 hR;have k1:bz ⟨#[48]⟩=[48]:=rfl
 have e1:(ByteArray.toList (szO (jch (bz nu) (bz (ByteArray.mk #[48]))))==ByteArray.toList (ByteArray.mk #[]))=(jch (bz nu) [48]).isEmpty:=by
  rw[jcw,jgm,jcy (trim_isB (jdq nu)),k1]
 have z0:Int.toNat 0=0:=rfl;simp only[h.rlb,e1,z0,List.drop_zero];have hg:∀n,(jav [] d&&true&&true&& (ja3 n d&&true))=true:=fun n=>by rw[h.good];simp[ja3,idsL,jaq h.plain]
 have hi:∀n,(ja3 n d&&true)=true:=fun n=>by simp[ja3,idsL,jaq h.plain]
 have c1:(decide (ByteArray.size (ByteArray.mk #[48])≤1000) &&asc (bz (ByteArray.mk #[48])))=true:=by kernel_rfl
 have c2:(decide (nu.size≤1000) && (decide (ByteArray.size (ByteArray.mk #[48])≤1000) &&asc (bz (ByteArray.mk #[48]))))=true:=by rw[c1,jaa hn];rfl
 refine c_t c2 (c_t (hg _) (c_t ?_ fun i'=>c_t (hi _) fun _=>cond_intro (fun ho=> ?_) (fun ho=>c_t (hg _) (c_t ?_ ⟨fun a' k' i' ha h0=>c_t (hi _) fun _=> ?_,fun ha a' k' i'=>c_t (hi _) fun _=> ?_⟩))))
 ·simp only[S90_0,jaf,jae,jca];exact⟨hR,by omega,by omega,by omega,trivial,trivial⟩
 ·rw[Bool.not_eq_true']at ho;rw[enV,ho]at hr;exact hr
 ·simp only[S90_2,jaf,jae,jca,z0,List.drop_zero];exact⟨hR,by omega,by omega,by omega,trivial,by omega,by omega,by omega,by omega,by omega⟩
 ·rw[Bool.not_eq_false']at ho;rw[enV,ho,cond_true,ha]at hr;exact hr
 ·rw[Bool.not_eq_false']at ho;rw[enV,ho,cond_true,ha]at hr;exact hr
def h90:E→Lk→Nat→(Value→Lk→Nat→Prop)→Prop:=fun args m n K=>match args with
 | [.pointer (some ⟨a,0,some 0⟩)]=>match m a with
  | some ⟨[.pointer (some ⟨x,0,some 0⟩),.string nu,.bool mi,.int .i64 us,.int .i64 at0,.int .i64 ld],255,own⟩=>match m x with
   | some ⟨[.string s,.bool nb,.int .i64 w,.int .i64 dg,.int .i64 sc,.bool sg,.slice (some ⟨y,0,some 1⟩) k cap,.int .u8 dr,.int .i64 f,.bool cr,.int .u8 fl,.int .i64 fm],156,own2⟩=>match m y with
    | some ⟨d,251,own3⟩=>
     match cnd (jbw d k cap&&decide (k≤1000∧nu.size≤1000∧cn1 (zc d k)≤nu.size))with
     | true=>K (.int .i64 (enV (bz nu) fm (zc d k))) m n
     | false=>False
    | _=>False
   | _=>False
  | _=>False
 | _=>False
theorem h90_ok:jcz Tryz.prog 251 h90:=by
 refine jh5 ok_G32 hmix fn90 lok90 fun args m n K h=> ?_
 unfold h90 at h;split at h
 case h_2=>exact h.elim
 rename_i a;split at h
 case h_2=>exact h.elim
 rename_i x nu mi us at0 ld own hm;split at h
 case h_2=>exact h.elim
 rename_i s nb w dg sc sg y k cap dr f cr fl fm own2 hx;split at h
 case h_2=>exact h.elim
 rename_i d own3 hy;split at h
 case h_2=>exact h.elim
 rename_i hc;simp only[cnd,jaf,jae]at hc;obtain⟨h1,h2,h3,h4⟩:=hc;refine⟨[.pointer (some ⟨0,0,some 0⟩)],_,3,rho3 a x y,.int .i64 (enV (bz nu) fm (zc d k)),sub_F3 (jax.1 h1).plain hm hx hy,fun ι=>by simp[ren,ren1,rho3],jag,fun v hv j hj=> ?_,rfl,w90 s nb w dg sc sg k cap dr f cr fl fm nu mi us at0 ld d h1 h2 h3 h4 (R:=fun v=>v= .int .i64 (enV (bz nu) fm (zc d k))) rfl,h⟩;simp at hv;subst hv;have:j=0:=by simpa[ids]using hj
 omega
end Go.Px
end
