/-
  Part 2: the run and laws.
-/
import Derived.Test.YtiahilhlpmohoaaGreatDoorS11
set_option linter.unusedVariables false
set_option linter.unusedSimpArgs false
set_option linter.unusedSectionVars false
noncomputable section
namespace Go.Px
open Go Go.Ab Go.Proofs Go.Shelf
theorem fn131:Fn1 Tryz.prog 188 Tryz.f188:= .m Tryz.func188
theorem lok131:LOKf Tryz.prog (oneL 0 S131_0.hA) Tryz.f188:=jbb (by kernel_rfl) l131_0
def G21:Env:=Env.nil.add 221 (sp2 s141)
theorem ok_G21:ja3 Tryz.prog G21:=jaj jav ok141
def G22:Env:=Env.nil.addG 255 (inlQ Tryz.prog G21 noL Tryz.f255)
theorem ok_G22:ja3 Tryz.prog G22:=jau jav (jbh ok_G21 hmix (.m Tryz.func255) jal)
def ci(l:O):J:=l.map fun n=> .int .i64 n
@[simp] theorem ci_length (l:O):(ci l).length=l.length:=by simp[ci]
theorem ci_append(a b:O):ci (a++b)=ci a++ci b:=by simp[ci]
theorem ci_plain:∀l:O,ja1 (ci l)=true
 | []=>rfl
 | c::r=>by simpa[ci,ja1,plain]using ci_plain r
def jfj:J→Bool
 | []=>true
 | .int .i64 _::r=>jfj r
 | _=>false
theorem ci_isInts:∀l:O,jfj (ci l)=true
 | []=>rfl
 | c::r=>by simpa[ci,jfj]using ci_isInts r
theorem joe:∀{l:J},jfj l=true→ci (l.map iv)=l
 | [],_=>rfl
 | .int .i64 n::r,h=>by
  have:=joe (l:=r) (by simpa[jfj]using h);simp only[ci]at this;simp only[List.map_cons,ci,iv,this]
def jbv(c:J)(n cap:Nat):Bool:=jfj (c.take n) && (ja1 c&& (Nat.beq c.length cap&& (Nat.ble n cap&&Nat.ble cap 9223372036854775807)))
structure RowI (c:J)(n cap:Nat):Prop where
 bytes:jfj (c.take n)=true
 plain:ja1 c=true
 len:c.length=cap
 le:n≤cap
 cap:cap≤9223372036854775807
theorem jat{c:J}{n cap:Nat}:jbv c n cap=true↔RowI c n cap:=by
 simp only[jbv,jaf,Nat.ble_eq,Nat.beq_eq];exact⟨fun⟨h1,h2,h3,h4,h5⟩=>⟨h1,h2,h3,h4,h5⟩,fun⟨h1,h2,h3,h4,h5⟩=>⟨h1,h2,h3,h4,h5⟩⟩
theorem jbk{c:J}{n cap:Nat}(h:RowI c n cap):(zc c n).length=n:=by
 have h1:=h.len;have h2:=h.le;simp only[zc,K9,Kp];omega
theorem RowI.eq{c:J}{n cap:Nat}(h:RowI c n cap):c=ci (zc c n)++c.drop n:=by
 rw[zc,joe h.bytes,KC]
theorem RowI.take{c:J}{n cap:Nat}(h:RowI c n cap):c.take n=ci (zc c n):=(joe h.bytes).symm
theorem rowI_mk(L:O){tail:J}{cap:Nat}(ht:ja1 tail=true)(hl:L.length+tail.length=cap)(hc:cap≤9223372036854775807):RowI (ci L++tail) L.length cap∧zc (ci L++tail) L.length=L:=by
 have e:(ci L++tail).take L.length=ci L:=by rw[KI (by simp),Kw (by simp)]
 refine⟨⟨by rw[e];exact ci_isInts L,plainL_append.2 ⟨ci_plain L,ht⟩,by simp[hl],by omega,hc⟩,?_⟩;show List.map iv ((ci L++tail).take L.length)=L;rw[e];simp only[ci,List.map_map];have:(iv∘fun n:Int=>Value.int .i64 n)=id:=by funext n;rfl
 rw[this,List.map_id]
theorem RowI.app{c:J}{n cap:Nat}(h:RowI c n cap)(M:O){tail:J}{cap':Nat}(ht:jbd tail cap' (n+M.length) 1=true):
  RowI (c.take n++ci M++tail) (n+M.length) cap'∧zc (c.take n++ci M++tail) (n+M.length)=zc c n++M:=by
 obtain⟨t1,t2,t3,t4⟩:=jfe ht;have hz:=jbk h;have:=rowI_mk (zc c n++M) (tail:=tail) (cap:=cap') t1 (by simp only[Kk,hz];omega) t4;simp only[Kk,hz,ci_append]at this;rw[h.take];exact this
theorem RowI.app1{c:J}{n cap:Nat}(h:RowI c n cap)(x:Int){tail:J}{cap':Nat}(ht:jbd tail cap' (n+1) 1=true):
  RowI (c.take (n*1)++ [.int .i64 x]++tail) (n+1) cap'∧zc (c.take (n*1)++ [.int .i64 x]++tail) (n+1)=zc c n++ [x]:=by
 rw[Nat.mul_one];exact h.app [x] ht
theorem RowI.ask{c:J}{n cap:Nat}(h:RowI c n cap){k:Nat}(hk:n+k≤1000000):
  (Nat.beq c.length (cap*1) &&Nat.ble n cap&&Nat.ble cap 9223372036854775807&&true&&jb2 (n+k) 8)=true:=by
 have h1:=h.len;have h2:=h.le;have h3:=h.cap;simp only[jb2,jaf,Nat.ble_eq,Nat.beq_eq,Nat.mul_one];exact⟨⟨⟨⟨h1,h2⟩,h3⟩,trivial⟩,by omega,by omega⟩
theorem jfr(M:O){tail:J}{cap':Nat}(ht:jbd tail cap' M.length 1=true):RowI (ci M++tail) M.length cap'∧zc (ci M++tail) M.length=M:=by
 obtain⟨t1,t2,t3,t4⟩:=jfe ht;exact rowI_mk M t1 (by omega) t4
theorem RowI.good{c:J}{n cap:Nat}(h:RowI c n cap)(ps:List (Nat×Nat)):jas ps c=true:=goodL_plain h.plain
theorem RowI.rlb{c:J}{n cap:Nat}(h:RowI c n cap)(ps:List (Nat×Nat)):rlbL ps c=c:=rlbL_plain ps h.plain
def Rw.bi:Rw→Option Blk
 | .nil=>none
 | .own d _ _=>some ⟨d,221,true⟩
def Rw.oki:Rw→Bool
 | .nil=>true
 | .own d m cap=>jbv d m cap
theorem jhm{b:Bool}{P Q P' Q':Prop}(h:bif b then P else Q)(h1:P→P')(h2:Q→Q'):bif b then P' else Q':=by
 cases b
 ·exact h2 h
 ·exact h1 h
theorem jlb(l:O)(c:Int):decide (idxZ l c≥0)=hasZ l c:=by
 have:=idx_neg l c;rw[Kl,jae]at*;cases h:hasZ l c with
 | true=>
  rw[h]at this;have h2:¬idxZ l c<0:=fun q=>by have:=this.1 q;cases this
  simp;omega
 | false=>
  rw[h]at this;have h2:idxZ l c<0:=this.2 rfl;simp;omega
def roP(dr f c i:Int):Int:=bif hasZ [57,89,84,73,82] c then 0 else bif c==90 || (c==42 || (c==dr&&i !=f))then 1 else bif c==86 then 2 else bif c==36 then 5 else bif c==83 || (c==43 || c==45)then 4 else 3
def jbl(dr f:Int):O→Int→O
 | [],_=> []
 | c::r,i=>roP dr f c i::jbl dr f r (i+1)
structure PlS where
 pts:Int
 bh:Bool
 w:Int
 dg:Int
 q:Int
 fm:Int
def plGo:O→PlS→Bool×PlS
 | [],a=>(true,a)
 | r::rs,a=>bif r==2 then plGo rs ⟨a.pts+1,a.bh,a.w,a.dg,a.q,a.fm⟩else bif r==0 then plGo rs ⟨a.pts,a.bh,a.w+1,a.dg+1,a.q+a.pts,a.fm+1⟩
  else bif r==1 then(bif decide (a.fm>0)then(false,a)else plGo rs ⟨a.pts,a.bh || decide (a.pts>0),a.w+1,a.dg+1,a.q+a.pts,a.fm⟩)else plGo rs ⟨a.pts,a.bh,a.w+1,a.dg,a.q,a.fm⟩
def V133_0:Y×Bool×Int×Bool×J×Nat×Nat×Int×Int×Y×Int×Int×Int×Rw×Int×Int×Bool×Int→J:=fun(b,r,pts,bh,d,m,cap,L,i,s,w,dg,q,o,dr,f,cr,fm)=> [.pointer (some ⟨3,0,some 0⟩),S b,B r,I (pts),B (bh),.slice (some ⟨400,0,some 1⟩) m cap,I L,I (i)]
def B133_0:Y×Bool×Int×Bool×J×Nat×Nat×Int×Int×Y×Int×Int×Int×Rw×Int×Int×Bool×Int→Ya:=fun(b,r,pts,bh,d,m,cap,L,i,s,w,dg,q,o,dr,f,cr,fm)=> [some ⟨[.string s,.bool true,.int .i64 (w),.int .i64 (dg),.int .i64 (q),.bool false,o.v 401,.int .u8 dr,.int .i64 f,.bool cr,.int .u8 32,.int .i64 (fm)],132,true⟩,some ⟨d,5,false⟩,o.bi]
def S133_0:LSpecA (Y×Bool×Int×Bool×J×Nat×Nat×Int×Int×Y×Int×Int×Int×Rw×Int×Int×Bool×Int) where
 live:=[0,1,4,5,6,11,12,13]
 mid:=[3,400,401]
 n:=410
 ap:=[(.tmp 11,400),(.cell 3 6,401)]
 dec vs bs:=match vs,bs with
  | [.pointer (some ⟨3,0,some 0⟩),.string b,.bool r,.int .i64 pts,.bool bh,.slice (some ⟨400,0,some 1⟩) m cap,.int .i64 L,.int .i64 i],[some ⟨[.string s,.bool true,.int .i64 w,.int .i64 dg,.int .i64 q,.bool false,.slice none 0 0,.int .u8 dr,.int .i64 f,.bool cr,.int .u8 32,.int .i64 fm],132,true⟩,some ⟨d,5,false⟩,none]=>some (b,r,pts,bh,d,m,cap,L,i,s,w,dg,q,.nil,dr,f,cr,fm)
  | [.pointer (some ⟨3,0,some 0⟩),.string b,.bool r,.int .i64 pts,.bool bh,.slice (some ⟨400,0,some 1⟩) m cap,.int .i64 L,.int .i64 i],[some ⟨[.string s,.bool true,.int .i64 w,.int .i64 dg,.int .i64 q,.bool false,.slice (some ⟨401,0,some 1⟩) m2 cap2,.int .u8 dr,.int .i64 f,.bool cr,.int .u8 32,.int .i64 fm],132,true⟩,some ⟨d,5,false⟩,some ⟨d2,221,true⟩]=>some (b,r,pts,bh,d,m,cap,L,i,s,w,dg,q,.own d2 m2 cap2,dr,f,cr,fm)
  | _,_=>none
 pre:=fun(b,r,pts,bh,d,m,cap,L,i,s,w,dg,q,o,dr,f,cr,fm)=>o.oki&& (vwOK d m&&decide (0≤i∧i≤m∧m≤100∧L=m∧0≤pts∧pts≤i∧0≤w∧w≤i∧0≤dg∧dg≤i∧0≤fm∧fm≤i∧0≤q∧q≤i*100∧o.z.length≤i))
 fin:=fun(b,r,pts,bh,d,m,cap,L,i,s,w,dg,q,o,dr,f,cr,fm) Z=>(bif (plGo (jbl dr f ((zc d m).drop i.toNat) i) ⟨pts,bh,w,dg,q,fm⟩).1 then(o.is=false→(zc d m).drop i.toNat=[]→Z (.exit 0) [.pointer (some ⟨3,0,some 0⟩),S b,B r,I (pts),B (bh),.slice (some ⟨400,0,some 1⟩) m cap,I L,I (m)] [some ⟨[.string s,.bool true,.int .i64 (w),.int .i64 (dg),.int .i64 (q),.bool false,.slice none 0 0,.int .u8 dr,.int .i64 f,.bool cr,.int .u8 32,.int .i64 (fm)],132,true⟩,some ⟨d,5,false⟩,none])∧ ∀pts' bh' w' dg' q' fm' d' m' cap',jbv d' m' cap'=true→zc d' m'=o.z++jbl dr f ((zc d m).drop i.toNat) i→plGo (jbl dr f ((zc d m).drop i.toNat) i) ⟨pts,bh,w,dg,q,fm⟩=(true,⟨pts',bh',w',dg',q',fm'⟩)→Z (.exit 0) [.pointer (some ⟨3,0,some 0⟩),S b,B r,I (pts'),B (bh'),.slice (some ⟨400,0,some 1⟩) m cap,I L,I (m)] [some ⟨[.string s,.bool true,.int .i64 (w'),.int .i64 (dg'),.int .i64 (q'),.bool false,.slice (some ⟨401,0,some 1⟩) m' cap',.int .u8 dr,.int .i64 f,.bool cr,.int .u8 32,.int .i64 (fm')],132,true⟩,some ⟨d,5,false⟩,some ⟨d',221,true⟩]else∀pts' bh' i' w' dg' q' fm' d' m' cap',jbv d' m' cap'=true→Z .ret [.pointer (some ⟨3,0,some 0⟩),S b,B false,I (pts'),B (bh'),.slice (some ⟨400,0,some 1⟩) m cap,I L,I (i')] [some ⟨[.string s,.bool true,.int .i64 (w'),.int .i64 (dg'),.int .i64 (q'),.bool false,.slice (some ⟨401,0,some 1⟩) m' cap',.int .u8 dr,.int .i64 f,.bool cr,.int .u8 32,.int .i64 (fm')],132,true⟩,some ⟨d,5,false⟩,some ⟨d',221,true⟩])
def dq(a c:Int)(b:J):Bool:=c9 a b==c
def pk(b d e:Int)(a:J)(c f g h i j:Prop):Prop:=bif jbg .u8 a (ew b)then ja (decide (idxZ (bz ⟨#[57,89,84,73,82]⟩) (c9 b a)≥0)) (c9 b a) 256 c (bq (dq b 90 a) (dq b 42 a || (dq b d a || true)) (dq b 90 a || (dq b 42 a || dq b d a&&b !=e)) f (bif dq b 86 a then g else bif dq b 36 a then h else ij (dq b 83 a) (dq b 43 a || true) (dq b 83 a || (dq b 43 a || dq b 45 a)) i j))else False
def kx(a:List (Prod Nat Nat))(b:J):Option Blk:=some (.mk (rlbL a b) 221 true)
def sb(b c:J)(a:Nat):Ya:=[kr [(a,401)] b 400,kx [(400,400),(a,401)] c]
def jz:Option Addr:=some (.mk 401 0 (some 1))
def kv(a:Bool)(b:Y)(c d e f g h:Int)(k l:J)(i j m:Nat):Ya:=ie true false a b c d e f g 32 h i j jz::sb k l m
def kc(c:List (Prod Nat Nat))(d e:J)(a b:Nat):Bool:=jas ((a,b)::c) d&& (jas ((a,b)::c) e&&true)
def m5(b c:J)(a:Nat):Bool:=kc [(a,401)] b c 400 400
def ny(g:Bool)(h:Y)(f:Exit→J→Ya→Prop)(d i j k l m n:Int)(b o:J)(e:Nat):Prop:=∀a:Nat,∀c:J,fu c a 1→bm (m5 b (ak d::c) e&&true) f (kv g h i j k l m n b (ak d::c) 1 a e) o
def lq(c h:Bool)(a:Y)(b d e:Int)(f g:Nat):J:=ft a (ak b:: .bool c::dp d e 400 f g) (.bool h)
theorem r133_0n(b:Y)(r:Bool)(pts:Int)(bh:Bool)(d:J)(m:Nat)(cap:Nat)(L:Int)(i:Int)(s:Y)(w:Int)(dg:Int)(q:Int)(dr:Int)(f:Int)(cr:Bool)(fm:Int)(jk:Tmps)(R:Exit→J→Ya→Prop):(jbn Tryz.prog G22 noL Tryz.f190.ntmps (ja2 Tryz.f190 0) (tl S133_0.live (V133_0 (b,r,pts,bh,d,m,cap,L,i,s,w,dg,q,.nil,dr,f,cr,fm)) jk) (ml S133_0.mid (B133_0 (b,r,pts,bh,d,m,cap,L,i,s,w,dg,q,.nil,dr,f,cr,fm))) S133_0.n fun e t' m' _=>S133_0.out R e t' m')=(dy (bw i L) (cl i (m:Int)) (f0 d 400 400) (pk i dr f d (ny cr s R 0 (ax w) (ax dg) (fp q pts) dr f (ax fm) d (lq bh r b pts L i m cap) 434) (∀a:Nat,∀c:J,fu c a 1→(bif gp fm then bif m5 d (ak 1::c) 457&&true then R .ret (ft b (ak pts::B bh::du L i 400 m cap) (B false)) (kv cr s w dg q dr f fm d (ak 1::c) 1 a 457)else False else bif bh || true then bm (m5 d (ak 1::c) 457&&true) R (kv cr s (ax w) (ax dg) (fp q pts) dr f fm d (ak 1::c) 1 a 457) (ft b (ak pts::B (bh || gp pts)::dp L i 400 m cap) (B r))else False)) (ny cr s R 2 w dg q dr f fm d (ft b (az pts::B bh::dp L i 400 m cap) (B r)) 460) (ny cr s R 5 (ax w) dg q dr f fm d (lq bh r b pts L i m cap) 463) (ny cr s R 4 (ax w) dg q dr f fm d (lq bh r b pts L i m cap) 474) (ny cr s R 3 (ax w) dg q dr f fm d (lq bh r b pts L i m cap) 474)) (R (.exit 0) (ft b (ak pts::B bh::du L i 400 m cap) (B r)) [l0 cr s w dg q dr f fm,kr [] d 400,none])):=by kernel_rfl
def n6(a:Bool)(b:Y)(c d e f g h:Int)(k:List (Prod Nat Nat))(l n:J)(i j m:Nat):Ya:=[ie true false a b c d e f g 32 h i j jz,kr k l m,kx ((m,m)::k) n]
def m9(a:J)(b c:Nat)(d:Prop):Prop:=bif e8 a b c 8 then d else False
def mh(b:Int)(a c d:J)(e f:Nat):Bool:=m5 a (gz b .i64 c d e) f&&true
theorem r133_0o(b:Y)(r:Bool)(pts:Int)(bh:Bool)(d:J)(m:Nat)(cap:Nat)(L:Int)(i:Int)(s:Y)(w:Int)(dg:Int)(q:Int)(d2:J)(m2:Nat)(cap2:Nat)(dr:Int)(f:Int)(cr:Bool)(fm:Int)(jk:Tmps)(R:Exit→J→Ya→Prop):(jbn Tryz.prog G22 noL Tryz.f190.ntmps (ja2 Tryz.f190 0) (tl S133_0.live (V133_0 (b,r,pts,bh,d,m,cap,L,i,s,w,dg,q,.own d2 m2 cap2,dr,f,cr,fm)) jk) (ml S133_0.mid (B133_0 (b,r,pts,bh,d,m,cap,L,i,s,w,dg,q,.own d2 m2 cap2,dr,f,cr,fm))) S133_0.n fun e t' m' _=>S133_0.out R e t' m')=(dy (bw i L) (cl i (m:Int)) (m5 d d2 401&&true) (pk i dr f d (m9 d2 cap2 m2 (∀a:Nat,∀c:J,fu c a (m2+1)→bm (mh 0 d d2 c m2 434) R (kv cr s (ax w) (ax dg) (fp q pts) dr f (ax fm) d (gz 0 .i64 d2 c m2) (m2+1) a 434) (lq bh r b pts L i m cap))) (m9 d2 cap2 m2 (∀a:Nat,∀c:J,fu c a (m2+1)→(bif gp fm then bif mh 1 d d2 c m2 457 then R .ret (ft b (ak pts::B bh::du L i 400 m cap) (B false)) (kv cr s w dg q dr f fm d (gz 1 .i64 d2 c m2) (m2+1) a 457)else False else bif bh || true then bm (mh 1 d d2 c m2 457) R (kv cr s (ax w) (ax dg) (fp q pts) dr f fm d (gz 1 .i64 d2 c m2) (m2+1) a 457) (ft b (ak pts::B (bh || gp pts)::dp L i 400 m cap) (B r))else False))) (m9 d2 cap2 m2 (∀a:Nat,∀c:J,fu c a (m2+1)→bm (mh 2 d d2 c m2 460) R (kv cr s w dg q dr f fm d (gz 2 .i64 d2 c m2) (m2+1) a 460) (ft b (az pts::B bh::dp L i 400 m cap) (B r)))) (m9 d2 cap2 m2 (∀a:Nat,∀c:J,fu c a (m2+1)→bm (mh 5 d d2 c m2 463) R (kv cr s (ax w) dg q dr f fm d (gz 5 .i64 d2 c m2) (m2+1) a 463) (lq bh r b pts L i m cap))) (m9 d2 cap2 m2 (∀a:Nat,∀c:J,fu c a (m2+1)→bm (mh 4 d d2 c m2 474) R (kv cr s (ax w) dg q dr f fm d (gz 4 .i64 d2 c m2) (m2+1) a 474) (lq bh r b pts L i m cap))) (m9 d2 cap2 m2 (∀a:Nat,∀c:J,fu c a (m2+1)→bm (mh 3 d d2 c m2 474) R (kv cr s (ax w) dg q dr f fm d (gz 3 .i64 d2 c m2) (m2+1) a 474) (lq bh r b pts L i m cap)))) (R (.exit 0) (ft b (ak pts::B bh::du L i 400 m cap) (B r)) (n6 cr s w dg q dr f fm [(401,401)] d d2 m2 cap2 400))):=by kernel_rfl
theorem l133_0:LOKf Tryz.prog (oneL 0 S133_0.hA) Tryz.f190:=by
 refine jbb (h:=S133_0.hA) (by kernel_rfl) (jbo ok_G22 hmix (by kernel_rfl) (ja0 _) S133_0 V133_0 B133_0 (fun(b,r,pts,bh,d,m,cap,L,i,s,w,dg,q,o,dr,f,cr,fm)=>(m-i).toNat) ?_ ?_ ?_)
 ·intro vs bs s h;simp only[S133_0]at h;split at h
  all_goals first | (cases h;exact⟨rfl,rfl⟩) | cases h | (split at h<;>first | (rename_i hq;cases h;have hq:=jah hq;subst hq;exact⟨rfl,rfl⟩) | cases h)
 ·exact fun⟨b,r,pts,bh,d,m,cap,L,i,s,w,dg,q,o,dr,f,cr,fm⟩ hp=>by
   simp only[S133_0,jaf]at hp;have hv:=jc3.1 hp.2.1;cases o with
   | nil=>simp[V133_0,B133_0,S133_0,jaw,jbs,idsL,ids,Rw.v,Rw.bi,jao hv.plain]
   | own d2 m2 cap2=>simp[V133_0,B133_0,S133_0,jaw,jbs,idsL,ids,Rw.v,Rw.bi,jao hv.plain,jao (jat.1 hp.1).plain]
 ·intro⟨b,r,pts,bh,d,m,cap,L,i,s,w,dg,q,o,dr,f,cr,fm⟩ jk Z hp hf;simp only[S133_0]at hp hf;cases o with
  | nil=>
   rw[r133_0n];delta e7 dy kr ak am ie l0 ar ft bp cq du cl ja av bq ij ew c9 dq pk bm kx sb jz kv kc m5 fu ny ax az ct dp lq gp fp f0 bw;simp only[jaf,jae]at hp;obtain⟨-,hV,hp⟩:=hp;have hv:=jc3.1 hV;simp only[Rw.z,List.length_nil]at hp hf;have k1:bz ⟨#[57,89,84,73,82]⟩=[57,89,84,73,82]:=rfl;have e0:0+i.toNat*1=i.toNat:=by omega
   rw[k1,e0];apply Ka<;>intro h
   ·have h:=jab h;obtain⟨a1,a2,a3⟩:=hv.at hp.1 (by omega);rw[a3]at hf;rw[a1,w64 (n:=i+1) (by omega)];generalize jar d i.toNat=c at*;refine c_t (jaa (by omega)) (c_t rfl (c_t (jaa a2) ?_));rw[jlb];refine Ka (fun q0=> ?_) (fun q0=>c_t (by simp) (Ka (fun q1=> ?_) (fun q1=>Ka (fun q2=> ?_) (fun q2=>Ka (fun q3=> ?_) (fun q3=>c_t (by simp) (Ka (fun q4=> ?_) (fun q4=> ?_)))))))
    ·have e:roP dr f c i=0:=by
      unfold roP;rw[q0];rfl
     rw[jbl,e]at hf;intro cap1 tail ht;obtain⟨h1,h2⟩:RowI (Value.int IntKind.i64 0::tail) 1 cap1∧zc (Value.int IntKind.i64 0::tail) 1=[0]:=jfr [0] ht;have hl1:=jbk h1;generalize Value.int IntKind.i64 0::tail=d' at*;refine c_t (by rw[goodL_plain hv.plain,goodL_plain h1.plain];rfl) ?_;rw[hv.rlb,rlbL_plain _ h1.plain];rw[w64 (n:=w+1) (by omega)];rw[w64 (n:=dg+1) (by omega)];rw[w64 (n:=q+pts) (by omega)];rw[w64 (n:=fm+1) (by omega)];exact⟨(b,r,pts,bh,d,m,cap,L,i+1,s,w+1,dg+1,q+pts,.own d' (1) cap1,dr,f,cr,fm+1),rfl,rfl,by simp only[S133_0,jaf,jae];exact⟨jat.2 h1,hV,by simp only[Rw.z,hl1];omega⟩,by simp only;omega,by simp only[S133_0];refine jhm hf ?_ (fun g=>g);rintro ⟨-,g⟩;exact⟨fun q=>(by cases q),fun pts' bh' w' dg' q' fm' d'' m'' cap'' g1 g2 g3=>g pts' bh' w' dg' q' fm' d'' m'' cap'' g1 (by rw[g2];simp[Rw.z,h2]) g3⟩⟩
    ·have e:roP dr f c i=1:=by
      unfold roP;rw[q0,q1];rfl
     rw[jbl,e]at hf;intro cap1 tail ht;obtain⟨h1,h2⟩:RowI (Value.int IntKind.i64 1::tail) 1 cap1∧zc (Value.int IntKind.i64 1::tail) 1=[1]:=jfr [1] ht;have hl1:=jbk h1;generalize Value.int IntKind.i64 1::tail=d' at*;have e2:plGo (1::jbl dr f (List.drop (i+1).toNat (zc d m)) (i+1)) ⟨pts,bh,w,dg,q,fm⟩=bif decide (fm>0)then(false,⟨pts,bh,w,dg,q,fm⟩)else plGo (jbl dr f (List.drop (i+1).toNat (zc d m)) (i+1)) ⟨pts,bh || decide (pts>0),w+1,dg+1,q+pts,fm⟩:=rfl;rw[e2]at hf;refine Ka (fun z=>c_t (by rw[goodL_plain hv.plain,goodL_plain h1.plain];rfl) ?_) (fun z=>c_t (by simp) ?_)
     ·rw[hv.rlb,rlbL_plain _ h1.plain];rw[z,cond_true]at hf;exact hf _ _ _ _ _ _ _ d' _ _ (jat.2 h1)
     ·rw[z,cond_false]at hf;refine c_t (by rw[goodL_plain hv.plain,goodL_plain h1.plain];rfl) ?_;rw[hv.rlb,rlbL_plain _ h1.plain];rw[w64 (n:=w+1) (by omega)];rw[w64 (n:=dg+1) (by omega)];rw[w64 (n:=q+pts) (by omega)];exact⟨(b,r,pts,bh || decide (pts>0),d,m,cap,L,i+1,s,w+1,dg+1,q+pts,.own d' (1) cap1,dr,f,cr,fm),rfl,rfl,by simp only[S133_0,jaf,jae];exact⟨jat.2 h1,hV,by simp only[Rw.z,hl1];omega⟩,by simp only;omega,by simp only[S133_0];refine jhm hf ?_ (fun g=>g);rintro ⟨-,g⟩;exact⟨fun q=>(by cases q),fun pts' bh' w' dg' q' fm' d'' m'' cap'' g1 g2 g3=>g pts' bh' w' dg' q' fm' d'' m'' cap'' g1 (by rw[g2];simp[Rw.z,h2]) g3⟩⟩
    ·have e:roP dr f c i=2:=by
      unfold roP;rw[q0,q1,q2];rfl
     rw[jbl,e]at hf;intro cap1 tail ht;obtain⟨h1,h2⟩:RowI (Value.int IntKind.i64 2::tail) 1 cap1∧zc (Value.int IntKind.i64 2::tail) 1=[2]:=jfr [2] ht;have hl1:=jbk h1;generalize Value.int IntKind.i64 2::tail=d' at*;refine c_t (by rw[goodL_plain hv.plain,goodL_plain h1.plain];rfl) ?_;rw[hv.rlb,rlbL_plain _ h1.plain];rw[w64 (n:=pts+1) (by omega)];exact⟨(b,r,pts+1,bh,d,m,cap,L,i+1,s,w,dg,q,.own d' (1) cap1,dr,f,cr,fm),rfl,rfl,by simp only[S133_0,jaf,jae];exact⟨jat.2 h1,hV,by simp only[Rw.z,hl1];omega⟩,by simp only;omega,by simp only[S133_0];refine jhm hf ?_ (fun g=>g);rintro ⟨-,g⟩;exact⟨fun q=>(by cases q),fun pts' bh' w' dg' q' fm' d'' m'' cap'' g1 g2 g3=>g pts' bh' w' dg' q' fm' d'' m'' cap'' g1 (by rw[g2];simp[Rw.z,h2]) g3⟩⟩
    ·have e:roP dr f c i=5:=by
      unfold roP;rw[q0,q1,q2,q3];rfl
     rw[jbl,e]at hf;intro cap1 tail ht;obtain⟨h1,h2⟩:RowI (Value.int IntKind.i64 5::tail) 1 cap1∧zc (Value.int IntKind.i64 5::tail) 1=[5]:=jfr [5] ht;have hl1:=jbk h1;generalize Value.int IntKind.i64 5::tail=d' at*;refine c_t (by rw[goodL_plain hv.plain,goodL_plain h1.plain];rfl) ?_;rw[hv.rlb,rlbL_plain _ h1.plain];rw[w64 (n:=w+1) (by omega)];exact⟨(b,r,pts,bh,d,m,cap,L,i+1,s,w+1,dg,q,.own d' (1) cap1,dr,f,cr,fm),rfl,rfl,by simp only[S133_0,jaf,jae];exact⟨jat.2 h1,hV,by simp only[Rw.z,hl1];omega⟩,by simp only;omega,by simp only[S133_0];refine jhm hf ?_ (fun g=>g);rintro ⟨-,g⟩;exact⟨fun q=>(by cases q),fun pts' bh' w' dg' q' fm' d'' m'' cap'' g1 g2 g3=>g pts' bh' w' dg' q' fm' d'' m'' cap'' g1 (by rw[g2];simp[Rw.z,h2]) g3⟩⟩
    ·have e:roP dr f c i=4:=by
      unfold roP;rw[q0,q1,q2,q3,q4];rfl
     rw[jbl,e]at hf;intro cap1 tail ht;obtain⟨h1,h2⟩:RowI (Value.int IntKind.i64 4::tail) 1 cap1∧zc (Value.int IntKind.i64 4::tail) 1=[4]:=jfr [4] ht;have hl1:=jbk h1;generalize Value.int IntKind.i64 4::tail=d' at*;refine c_t (by rw[goodL_plain hv.plain,goodL_plain h1.plain];rfl) ?_;rw[hv.rlb,rlbL_plain _ h1.plain];rw[w64 (n:=w+1) (by omega)];exact⟨(b,r,pts,bh,d,m,cap,L,i+1,s,w+1,dg,q,.own d' (1) cap1,dr,f,cr,fm),rfl,rfl,by simp only[S133_0,jaf,jae];exact⟨jat.2 h1,hV,by simp only[Rw.z,hl1];omega⟩,by simp only;omega,by simp only[S133_0];refine jhm hf ?_ (fun g=>g);rintro ⟨-,g⟩;exact⟨fun q=>(by cases q),fun pts' bh' w' dg' q' fm' d'' m'' cap'' g1 g2 g3=>g pts' bh' w' dg' q' fm' d'' m'' cap'' g1 (by rw[g2];simp[Rw.z,h2]) g3⟩⟩
    ·have e:roP dr f c i=3:=by
      unfold roP;rw[q0,q1,q2,q3,q4];rfl
     rw[jbl,e]at hf;intro cap1 tail ht;obtain⟨h1,h2⟩:RowI (Value.int IntKind.i64 3::tail) 1 cap1∧zc (Value.int IntKind.i64 3::tail) 1=[3]:=jfr [3] ht;have hl1:=jbk h1;generalize Value.int IntKind.i64 3::tail=d' at*;refine c_t (by rw[goodL_plain hv.plain,goodL_plain h1.plain];rfl) ?_;rw[hv.rlb,rlbL_plain _ h1.plain];rw[w64 (n:=w+1) (by omega)];exact⟨(b,r,pts,bh,d,m,cap,L,i+1,s,w+1,dg,q,.own d' (1) cap1,dr,f,cr,fm),rfl,rfl,by simp only[S133_0,jaf,jae];exact⟨jat.2 h1,hV,by simp only[Rw.z,hl1];omega⟩,by simp only;omega,by simp only[S133_0];refine jhm hf ?_ (fun g=>g);rintro ⟨-,g⟩;exact⟨fun q=>(by cases q),fun pts' bh' w' dg' q' fm' d'' m'' cap'' g1 g2 g3=>g pts' bh' w' dg' q' fm' d'' m'' cap'' g1 (by rw[g2];simp[Rw.z,h2]) g3⟩⟩
   ·have h:=jac h;rw[hv.end (by omega),jbl,plGo,cond_true]at hf;obtain rfl:i=m:=by omega
    refine c_t (by rw[goodL_plain hv.plain];rfl) ?_;rw[hv.rlb];exact hf.1 rfl rfl
  | own d2 m2 cap2=>
   rw[r133_0o];delta e7 dy kx kr ak am ie jz n6 ar ft bp cq du cl ja av bq ij ew c9 dq pk e8 m9 bm ax az ct dp lq sb kv g9 gz kc m5 mh fu gp fp bw;simp only[jaf,jae]at hp;obtain⟨hR,hV,hp⟩:=hp;have hv:=jc3.1 hV;have hr:=jat.1 hR;have hzl:=jbk hr;simp only[Rw.z,hzl]at hp hf;have k1:bz ⟨#[57,89,84,73,82]⟩=[57,89,84,73,82]:=rfl;have e0:0+i.toNat*1=i.toNat:=by omega
   rw[k1,e0];apply Ka<;>intro h
   ·have h:=jab h;obtain⟨a1,a2,a3⟩:=hv.at hp.1 (by omega);rw[a3]at hf;rw[a1,w64 (n:=i+1) (by omega)];generalize jar d i.toNat=c at*;refine c_t (jaa (by omega)) (c_t rfl (c_t (jaa a2) ?_));rw[jlb];refine Ka (fun q0=> ?_) (fun q0=>c_t (by simp) (Ka (fun q1=> ?_) (fun q1=>Ka (fun q2=> ?_) (fun q2=>Ka (fun q3=> ?_) (fun q3=>c_t (by simp) (Ka (fun q4=> ?_) (fun q4=> ?_)))))))
    ·have e:roP dr f c i=0:=by
      unfold roP;rw[q0];rfl
     rw[jbl,e]at hf;refine c_t (hr.ask (k:=1) (by omega)) (fun cap1 tail ht=> ?_);obtain⟨h1,h2⟩:=hr.app1 0 ht;have hl1:=jbk h1;generalize List.take (m2*1) d2++ [Value.int IntKind.i64 0]++tail=d' at*;refine c_t (by rw[goodL_plain hv.plain,goodL_plain h1.plain];rfl) ?_;rw[hv.rlb,rlbL_plain _ h1.plain];rw[w64 (n:=w+1) (by omega)];rw[w64 (n:=dg+1) (by omega)];rw[w64 (n:=q+pts) (by omega)];rw[w64 (n:=fm+1) (by omega)];exact⟨(b,r,pts,bh,d,m,cap,L,i+1,s,w+1,dg+1,q+pts,.own d' (m2+1) cap1,dr,f,cr,fm+1),rfl,rfl,by simp only[S133_0,jaf,jae];exact⟨jat.2 h1,hV,by simp only[Rw.z,hl1];omega⟩,by simp only;omega,by simp only[S133_0];refine jhm hf ?_ (fun g=>g);rintro ⟨-,g⟩;exact⟨fun q=>(by cases q),fun pts' bh' w' dg' q' fm' d'' m'' cap'' g1 g2 g3=>g pts' bh' w' dg' q' fm' d'' m'' cap'' g1 (by rw[g2];simp[Rw.z,h2]) g3⟩⟩
    ·have e:roP dr f c i=1:=by
      unfold roP;rw[q0,q1];rfl
     rw[jbl,e]at hf;refine c_t (hr.ask (k:=1) (by omega)) (fun cap1 tail ht=> ?_);obtain⟨h1,h2⟩:=hr.app1 1 ht;have hl1:=jbk h1;generalize List.take (m2*1) d2++ [Value.int IntKind.i64 1]++tail=d' at*;have e2:plGo (1::jbl dr f (List.drop (i+1).toNat (zc d m)) (i+1)) ⟨pts,bh,w,dg,q,fm⟩=bif decide (fm>0)then(false,⟨pts,bh,w,dg,q,fm⟩)else plGo (jbl dr f (List.drop (i+1).toNat (zc d m)) (i+1)) ⟨pts,bh || decide (pts>0),w+1,dg+1,q+pts,fm⟩:=rfl;rw[e2]at hf;refine Ka (fun z=>c_t (by rw[goodL_plain hv.plain,goodL_plain h1.plain];rfl) ?_) (fun z=>c_t (by simp) ?_)
     ·rw[hv.rlb,rlbL_plain _ h1.plain];rw[z,cond_true]at hf;exact hf _ _ _ _ _ _ _ d' _ _ (jat.2 h1)
     ·rw[z,cond_false]at hf;refine c_t (by rw[goodL_plain hv.plain,goodL_plain h1.plain];rfl) ?_;rw[hv.rlb,rlbL_plain _ h1.plain];rw[w64 (n:=w+1) (by omega)];rw[w64 (n:=dg+1) (by omega)];rw[w64 (n:=q+pts) (by omega)];exact⟨(b,r,pts,bh || decide (pts>0),d,m,cap,L,i+1,s,w+1,dg+1,q+pts,.own d' (m2+1) cap1,dr,f,cr,fm),rfl,rfl,by simp only[S133_0,jaf,jae];exact⟨jat.2 h1,hV,by simp only[Rw.z,hl1];omega⟩,by simp only;omega,by simp only[S133_0];refine jhm hf ?_ (fun g=>g);rintro ⟨-,g⟩;exact⟨fun q=>(by cases q),fun pts' bh' w' dg' q' fm' d'' m'' cap'' g1 g2 g3=>g pts' bh' w' dg' q' fm' d'' m'' cap'' g1 (by rw[g2];simp[Rw.z,h2]) g3⟩⟩
    ·have e:roP dr f c i=2:=by
      unfold roP;rw[q0,q1,q2];rfl
     rw[jbl,e]at hf;refine c_t (hr.ask (k:=1) (by omega)) (fun cap1 tail ht=> ?_);obtain⟨h1,h2⟩:=hr.app1 2 ht;have hl1:=jbk h1;generalize List.take (m2*1) d2++ [Value.int IntKind.i64 2]++tail=d' at*;refine c_t (by rw[goodL_plain hv.plain,goodL_plain h1.plain];rfl) ?_;rw[hv.rlb,rlbL_plain _ h1.plain];rw[w64 (n:=pts+1) (by omega)];exact⟨(b,r,pts+1,bh,d,m,cap,L,i+1,s,w,dg,q,.own d' (m2+1) cap1,dr,f,cr,fm),rfl,rfl,by simp only[S133_0,jaf,jae];exact⟨jat.2 h1,hV,by simp only[Rw.z,hl1];omega⟩,by simp only;omega,by simp only[S133_0];refine jhm hf ?_ (fun g=>g);rintro ⟨-,g⟩;exact⟨fun q=>(by cases q),fun pts' bh' w' dg' q' fm' d'' m'' cap'' g1 g2 g3=>g pts' bh' w' dg' q' fm' d'' m'' cap'' g1 (by rw[g2];simp[Rw.z,h2]) g3⟩⟩
    ·have e:roP dr f c i=5:=by
      unfold roP;rw[q0,q1,q2,q3];rfl
     rw[jbl,e]at hf;refine c_t (hr.ask (k:=1) (by omega)) (fun cap1 tail ht=> ?_);obtain⟨h1,h2⟩:=hr.app1 5 ht;have hl1:=jbk h1;generalize List.take (m2*1) d2++ [Value.int IntKind.i64 5]++tail=d' at*;refine c_t (by rw[goodL_plain hv.plain,goodL_plain h1.plain];rfl) ?_;rw[hv.rlb,rlbL_plain _ h1.plain];rw[w64 (n:=w+1) (by omega)];exact⟨(b,r,pts,bh,d,m,cap,L,i+1,s,w+1,dg,q,.own d' (m2+1) cap1,dr,f,cr,fm),rfl,rfl,by simp only[S133_0,jaf,jae];exact⟨jat.2 h1,hV,by simp only[Rw.z,hl1];omega⟩,by simp only;omega,by simp only[S133_0];refine jhm hf ?_ (fun g=>g);rintro ⟨-,g⟩;exact⟨fun q=>(by cases q),fun pts' bh' w' dg' q' fm' d'' m'' cap'' g1 g2 g3=>g pts' bh' w' dg' q' fm' d'' m'' cap'' g1 (by rw[g2];simp[Rw.z,h2]) g3⟩⟩
    ·have e:roP dr f c i=4:=by
      unfold roP;rw[q0,q1,q2,q3,q4];rfl
     rw[jbl,e]at hf;refine c_t (hr.ask (k:=1) (by omega)) (fun cap1 tail ht=> ?_);obtain⟨h1,h2⟩:=hr.app1 4 ht;have hl1:=jbk h1;generalize List.take (m2*1) d2++ [Value.int IntKind.i64 4]++tail=d' at*;refine c_t (by rw[goodL_plain hv.plain,goodL_plain h1.plain];rfl) ?_;rw[hv.rlb,rlbL_plain _ h1.plain];rw[w64 (n:=w+1) (by omega)];exact⟨(b,r,pts,bh,d,m,cap,L,i+1,s,w+1,dg,q,.own d' (m2+1) cap1,dr,f,cr,fm),rfl,rfl,by simp only[S133_0,jaf,jae];exact⟨jat.2 h1,hV,by simp only[Rw.z,hl1];omega⟩,by simp only;omega,by simp only[S133_0];refine jhm hf ?_ (fun g=>g);rintro ⟨-,g⟩;exact⟨fun q=>(by cases q),fun pts' bh' w' dg' q' fm' d'' m'' cap'' g1 g2 g3=>g pts' bh' w' dg' q' fm' d'' m'' cap'' g1 (by rw[g2];simp[Rw.z,h2]) g3⟩⟩
    ·have e:roP dr f c i=3:=by
      unfold roP;rw[q0,q1,q2,q3,q4];rfl
     rw[jbl,e]at hf;refine c_t (hr.ask (k:=1) (by omega)) (fun cap1 tail ht=> ?_);obtain⟨h1,h2⟩:=hr.app1 3 ht;have hl1:=jbk h1;generalize List.take (m2*1) d2++ [Value.int IntKind.i64 3]++tail=d' at*;refine c_t (by rw[goodL_plain hv.plain,goodL_plain h1.plain];rfl) ?_;rw[hv.rlb,rlbL_plain _ h1.plain];rw[w64 (n:=w+1) (by omega)];exact⟨(b,r,pts,bh,d,m,cap,L,i+1,s,w+1,dg,q,.own d' (m2+1) cap1,dr,f,cr,fm),rfl,rfl,by simp only[S133_0,jaf,jae];exact⟨jat.2 h1,hV,by simp only[Rw.z,hl1];omega⟩,by simp only;omega,by simp only[S133_0];refine jhm hf ?_ (fun g=>g);rintro ⟨-,g⟩;exact⟨fun q=>(by cases q),fun pts' bh' w' dg' q' fm' d'' m'' cap'' g1 g2 g3=>g pts' bh' w' dg' q' fm' d'' m'' cap'' g1 (by rw[g2];simp[Rw.z,h2]) g3⟩⟩
   ·have h:=jac h;rw[hv.end (by omega),jbl,plGo,cond_true]at hf;obtain rfl:i=m:=by omega
    refine c_t (by rw[goodL_plain hv.plain,goodL_plain hr.plain];rfl) ?_;rw[hv.rlb,rlbL_plain _ hr.plain];exact hf.2 pts bh w dg q fm d2 m2 cap2 hR (by simp) rfl
theorem fn133:Fn1 Tryz.prog 190 Tryz.f190:= .m Tryz.func190
def G23:Env:=Env.nil.add 221 (sp2 s141)
theorem ok_G23:ja3 Tryz.prog G23:=jaj jav ok141
theorem at_ints:∀{d:J}{n j:Nat},jfj (d.take n)=true→j<n→n≤d.length→jbg .i64 d j=true∧jar d j=(d.map iv).getD j 0
 | .int .i64 k::r,n+1,0,_,_,_=>⟨rfl,rfl⟩
 | .int .i64 k::r,n+1,j+1,h,hj,hn=>by
  have:=at_ints (d:=r) (n:=n) (j:=j) (by simpa[jfj]using h) (by omega) (by simpa using hn);simpa[jbg,jar]using this
 | [],n+1,j,_,hj,hn=>by simp at hn
 | .bool _::r,n+1,j,h,_,_ | .string _::r,n+1,j,h,_,_ | .float _ _::r,n+1,j,h,_,_ | .complex _ _ _::r,n+1,j,h,_,_ | .pointer _::r,n+1,j,h,_,_ | .slice _ _ _::r,n+1,j,h,_,_
 | .agg _::r,n+1,j,h,_,_ | .tuple _::r,n+1,j,h,_,_ | .iface _ _::r,n+1,j,h,_,_ | .func _ _ _::r,n+1,j,h,_,_ | .map _::r,n+1,j,h,_,_ | .chan _::r,n+1,j,h,_,_ | .nilFunc::r,n+1,j,h,_,_ | .nilIface::r,n+1,j,h,_,_=>by
  simp[jfj]at h
 | .int .i8 _::r,n+1,j,h,_,_ | .int .i16 _::r,n+1,j,h,_,_ | .int .i32 _::r,n+1,j,h,_,_ | .int .u8 _::r,n+1,j,h,_,_ | .int .u16 _::r,n+1,j,h,_,_ | .int .u32 _::r,n+1,j,h,_,_ | .int .u64 _::r,n+1,j,h,_,_=>by
  simp[jfj]at h
theorem RowI.at{d:J}{m cap:Nat}(h:RowI d m cap){j:Int}(h0:0≤j)(hj:j<m):jbg .i64 d j.toNat=true∧(zc d m).drop j.toNat=jar d j.toNat::(zc d m).drop (j+1).toNat:=by
 have hl:=h.len;have hle:=h.le;obtain⟨q1,q2⟩:=at_ints h.bytes (j:=j.toNat) (by omega) (by omega);refine⟨q1,?_⟩;rw[jet (zc d m) _ (by rw[jbk h];omega),show(j+1).toNat=j.toNat+1 by omega,q2];congr 1;simp only[zc,List.getD_eq_getElem?_getD,List.getElem?_map,List.getElem?_take];rw[Kd (by omega)]
theorem RowI.end{d:J}{m cap:Nat}(h:RowI d m cap){j:Int}(hj:(m:Int)≤j):(zc d m).drop j.toNat=[]:=KD (by rw[jbk h];omega)
def loGo(f:Int):O→Int→Int→Int
 | [],_,a=>a
 | r::rs,i,a=>loGo f rs (i+1) (bif r==0 || (r==1 || i==f)then imin a i else a)
def hiGo(f:Int):O→Int→Int→Int
 | [],_,a=>a
 | r::rs,i,a=>hiGo f rs (i+1) (bif r==0 || (r==1 || i==f)then imax a i else a)
def stP(f lo hi:Int):O→Int→Bool
 | [],_=>true
 | r::rs,i=> !((r==4 || r==5) && (i !=f&& (decide (i>lo) &&decide (i<hi)))) &&stP f lo hi rs (i+1)
def siGo:O→O→Int
 | c::cs,r::rs=>(bif r==4 || hasZ [84,73,82] c then 1 else 0)+siGo cs rs
 | _,_=>0
def V134_0:Y×Bool×Int×Int×Nat×Nat×Int×Int×Y×Int×Int×Int×J×Nat×Nat×Int×Int×Bool×Int→J:=fun(b,r,lo,hi,m3,cap3,L,i,s,w,dg,q,d2,m2,cap2,dr,f,cr,fm)=> [.pointer (some ⟨3,0,some 0⟩),S b,B r,I lo,I hi,.slice (some ⟨401,0,some 1⟩) m3 cap3,I L,I i]
def B134_0:Y×Bool×Int×Int×Nat×Nat×Int×Int×Y×Int×Int×Int×J×Nat×Nat×Int×Int×Bool×Int→Ya:=fun(b,r,lo,hi,m3,cap3,L,i,s,w,dg,q,d2,m2,cap2,dr,f,cr,fm)=> [some ⟨[.string s,.bool true,.int .i64 w,.int .i64 dg,.int .i64 q,.bool false,.slice (some ⟨401,0,some 1⟩) m2 cap2,.int .u8 dr,.int .i64 f,.bool cr,.int .u8 32,.int .i64 fm],132,true⟩,some ⟨d2,221,true⟩]
def S134_0:LSpecA (Y×Bool×Int×Int×Nat×Nat×Int×Int×Y×Int×Int×Int×J×Nat×Nat×Int×Int×Bool×Int) where
 live:=[0,1,4,5,6,16,17,18]
 mid:=[3,401]
 n:=520
 ap:=[]
 dec vs bs:=match vs,bs with | [.pointer (some ⟨3,0,some 0⟩),.string b,.bool r,.int .i64 lo,.int .i64 hi,.slice (some ⟨401,0,some 1⟩) m3 cap3,.int .i64 L,.int .i64 i],[some ⟨[.string s,.bool true,.int .i64 w,.int .i64 dg,.int .i64 q,.bool false,.slice (some ⟨401,0,some 1⟩) m2 cap2,.int .u8 dr,.int .i64 f,.bool cr,.int .u8 32,.int .i64 fm],132,true⟩,some ⟨d2,221,true⟩]=>some (b,r,lo,hi,m3,cap3,L,i,s,w,dg,q,d2,m2,cap2,dr,f,cr,fm) | _,_=>none
 pre:=fun(b,r,lo,hi,m3,cap3,L,i,s,w,dg,q,d2,m2,cap2,dr,f,cr,fm)=>jbv d2 m2 cap2&&decide (0≤i∧i≤m2∧m2≤1000∧L=m2∧m3=m2)
 fin:=fun(b,r,lo,hi,m3,cap3,L,i,s,w,dg,q,d2,m2,cap2,dr,f,cr,fm) Z=>∀lo' hi',loGo f ((zc d2 m2).drop i.toNat) i lo=lo'→hiGo f ((zc d2 m2).drop i.toNat) i hi=hi'→Z (.exit 0) [.pointer (some ⟨3,0,some 0⟩),S b,B r,I lo',I hi',.slice (some ⟨401,0,some 1⟩) m3 cap3,I L,I m2] [some ⟨[.string s,.bool true,.int .i64 w,.int .i64 dg,.int .i64 q,.bool false,.slice (some ⟨401,0,some 1⟩) m2 cap2,.int .u8 dr,.int .i64 f,.bool cr,.int .u8 32,.int .i64 fm],132,true⟩,some ⟨d2,221,true⟩]
def kw(f:Exit→J→Ya→Prop)(a b:Int)(k:Ya)(d h:J)(c g:Nat)(i j:Option Blk)(e:Prop):Prop:=dy (bw a b) (cl a (c:Int)) (il d) (e7 (jbg .i64 d (ew a)) e) (f (.exit g) h (i::j::k))
theorem r134_0(b:Y)(r:Bool)(lo:Int)(hi:Int)(m3:Nat)(cap3:Nat)(L:Int)(i:Int)(s:Y)(w:Int)(dg:Int)(q:Int)(d2:J)(m2:Nat)(cap2:Nat)(dr:Int)(f:Int)(cr:Bool)(fm:Int)(jk:Tmps)(R:Exit→J→Ya→Prop):(jbn Tryz.prog G23 noL Tryz.f191.ntmps (ja2 Tryz.f191 0) (tl S134_0.live (V134_0 (b,r,lo,hi,m3,cap3,L,i,s,w,dg,q,d2,m2,cap2,dr,f,cr,fm)) jk) (ml S134_0.mid (B134_0 (b,r,lo,hi,m3,cap3,L,i,s,w,dg,q,d2,m2,cap2,dr,f,cr,fm))) S134_0.n fun e t' m' _=>S134_0.out R e t' m')=(kw R i L [] d2 (ft b (ak lo::ak hi::du L i 401 m3 cap3) (B r)) m3 0 (ie true false cr s w dg q dr f 32 fm m2 cap2 jz) (kx [] d2) (bq (dq i 0 d2) (dq i 1 d2 || true) (dq i 0 d2 || (dq i 1 d2 || i==f)) (bm (il d2) R [ie true false cr s w dg q dr f 32 fm m2 cap2 jz,kx [] d2] (ft b (I (imin lo i)::I (imax hi i)::dp L i 401 m3 cap3) (B r))) (bm (il d2) R [ie true false cr s w dg q dr f 32 fm m2 cap2 jz,kx [] d2] (ft b (ak lo::ak hi::dp L i 401 m3 cap3) (B r))))):=by kernel_rfl
theorem l134_0:∀t m n K,S134_0.hA t m n K→Ab.Sem Tryz.prog Tryz.f191.ntmps (.loop (ja2 Tryz.f191 0)) t m n K:=by
 refine jbo ok_G23 hmix (by kernel_rfl) (ja0 _) S134_0 V134_0 B134_0 (fun(b,r,lo,hi,m3,cap3,L,i,s,w,dg,q,d2,m2,cap2,dr,f,cr,fm)=>(m2-i).toNat) ?_ ?_ ?_
 ·intro vs bs s h;simp only[S134_0]at h;split at h
  all_goals first | (cases h;exact⟨rfl,rfl⟩) | cases h | (split at h<;>first | (rename_i hq;cases h;have hq:=jah hq;subst hq;exact⟨rfl,rfl⟩) | cases h)
 ·exact fun⟨b,r,lo,hi,m3,cap3,L,i,s,w,dg,q,d2,m2,cap2,dr,f,cr,fm⟩ hp=>by
   simp only[S134_0,jaf]at hp;have hr:=jat.1 hp.1;simp[V134_0,B134_0,S134_0,jaw,jbs,idsL,ids,jao hr.plain]
 ·intro⟨b,r,lo,hi,m3,cap3,L,i,s,w,dg,q,d2,m2,cap2,dr,f,cr,fm⟩ jk Z hp hf;rw[r134_0];delta e7 dy ew il cl bw kw av bq bm ar ft ax az ak ct cq dp kx am ie jz c9 dq bp du;simp only[S134_0]at hp hf;simp only[jaf,jae]at hp;obtain⟨hR,hp⟩:=hp;have hr:=jat.1 hR;have hzl:=jbk hr;have e0:0+i.toNat*1=i.toNat:=by omega
  rw[e0];simp only[hr.rlb];have hg:∀ps,(jas ps d2&&true&&true)=true:=fun ps=>by rw[hr.good];rfl
  apply Ka<;>intro h
  ·have h:=jab h;obtain⟨a1,a3⟩:=hr.at hp.1 (by omega);rw[a3,loGo,hiGo]at hf;rw[a1,w64 (n:=i+1) (by omega)];generalize jar d2 i.toNat=c at*;refine c_t (jaa (by omega)) (c_t rfl (c_t (by simp) (Ka (fun z=>c_t (hg _) ?_) (fun z=>c_t (hg _) ?_))))
   ·rw[z,cond_true,cond_true]at hf;exact⟨(b,r,imin lo i,imax hi i,m3,cap3,L,i+1,s,w,dg,q,d2,m2,cap2,dr,f,cr,fm),rfl,rfl,by simp only[S134_0,jaf,jae];exact⟨hR,by omega⟩,by simp only;omega,hf⟩
   ·rw[z,cond_false,cond_false]at hf;exact⟨(b,r,lo,hi,m3,cap3,L,i+1,s,w,dg,q,d2,m2,cap2,dr,f,cr,fm),rfl,rfl,by simp only[S134_0,jaf,jae];exact⟨hR,by omega⟩,by simp only;omega,hf⟩
  ·have h:=jac h;rw[hr.end (by omega),loGo,hiGo]at hf;obtain rfl:i=m2:=by omega
   exact c_t (hg _) (hf lo hi rfl rfl)
def V134_2:Y×Bool×Int×Int×Nat×Nat×Int×Int×Y×Int×Int×Int×J×Nat×Nat×Int×Int×Bool×Int→J:=fun(b,r,lo,hi,m3,cap3,L,i,s,w,dg,q,d2,m2,cap2,dr,f,cr,fm)=> [.pointer (some ⟨3,0,some 0⟩),S b,B r,I lo,I hi,.slice (some ⟨401,0,some 1⟩) m3 cap3,I L,I i]
def B134_2:Y×Bool×Int×Int×Nat×Nat×Int×Int×Y×Int×Int×Int×J×Nat×Nat×Int×Int×Bool×Int→Ya:=fun(b,r,lo,hi,m3,cap3,L,i,s,w,dg,q,d2,m2,cap2,dr,f,cr,fm)=> [some ⟨[.string s,.bool true,.int .i64 w,.int .i64 dg,.int .i64 q,.bool false,.slice (some ⟨401,0,some 1⟩) m2 cap2,.int .u8 dr,.int .i64 f,.bool cr,.int .u8 32,.int .i64 fm],132,true⟩,some ⟨d2,221,true⟩]
def S134_2:LSpecA (Y×Bool×Int×Int×Nat×Nat×Int×Int×Y×Int×Int×Int×J×Nat×Nat×Int×Int×Bool×Int) where
 live:=[0,1,4,5,6,47,48,49]
 mid:=[3,401]
 n:=560
 ap:=[]
 dec vs bs:=match vs,bs with | [.pointer (some ⟨3,0,some 0⟩),.string b,.bool r,.int .i64 lo,.int .i64 hi,.slice (some ⟨401,0,some 1⟩) m3 cap3,.int .i64 L,.int .i64 i],[some ⟨[.string s,.bool true,.int .i64 w,.int .i64 dg,.int .i64 q,.bool false,.slice (some ⟨401,0,some 1⟩) m2 cap2,.int .u8 dr,.int .i64 f,.bool cr,.int .u8 32,.int .i64 fm],132,true⟩,some ⟨d2,221,true⟩]=>some (b,r,lo,hi,m3,cap3,L,i,s,w,dg,q,d2,m2,cap2,dr,f,cr,fm) | _,_=>none
 pre:=fun(b,r,lo,hi,m3,cap3,L,i,s,w,dg,q,d2,m2,cap2,dr,f,cr,fm)=>jbv d2 m2 cap2&&decide (0≤i∧i≤m2∧m2≤1000∧L=m2∧m3=m2)
 fin:=fun(b,r,lo,hi,m3,cap3,L,i,s,w,dg,q,d2,m2,cap2,dr,f,cr,fm) Z=>(bif stP f lo hi ((zc d2 m2).drop i.toNat) i then Z (.exit 2) [.pointer (some ⟨3,0,some 0⟩),S b,B r,I lo,I hi,.slice (some ⟨401,0,some 1⟩) m3 cap3,I L,I m2] [some ⟨[.string s,.bool true,.int .i64 w,.int .i64 dg,.int .i64 q,.bool false,.slice (some ⟨401,0,some 1⟩) m2 cap2,.int .u8 dr,.int .i64 f,.bool cr,.int .u8 32,.int .i64 fm],132,true⟩,some ⟨d2,221,true⟩]else∀i',Z .ret [.pointer (some ⟨3,0,some 0⟩),S b,B false,I lo,I hi,.slice (some ⟨401,0,some 1⟩) m3 cap3,I L,I i'] [some ⟨[.string s,.bool true,.int .i64 w,.int .i64 dg,.int .i64 q,.bool false,.slice (some ⟨401,0,some 1⟩) m2 cap2,.int .u8 dr,.int .i64 f,.bool cr,.int .u8 32,.int .i64 fm],132,true⟩,some ⟨d2,221,true⟩])
theorem r134_2(b:Y)(r:Bool)(lo:Int)(hi:Int)(m3:Nat)(cap3:Nat)(L:Int)(i:Int)(s:Y)(w:Int)(dg:Int)(q:Int)(d2:J)(m2:Nat)(cap2:Nat)(dr:Int)(f:Int)(cr:Bool)(fm:Int)(jk:Tmps)(R:Exit→J→Ya→Prop):(jbn Tryz.prog G23 noL Tryz.f191.ntmps (ja2 Tryz.f191 2) (tl S134_2.live (V134_2 (b,r,lo,hi,m3,cap3,L,i,s,w,dg,q,d2,m2,cap2,dr,f,cr,fm)) jk) (ml S134_2.mid (B134_2 (b,r,lo,hi,m3,cap3,L,i,s,w,dg,q,d2,m2,cap2,dr,f,cr,fm))) S134_2.n fun e t' m' _=>S134_2.out R e t' m')=(kw R i L [] d2 (ft b (ak lo::ak hi::du L i 401 m3 cap3) (B r)) m3 2 (ie true false cr s w dg q dr f 32 fm m2 cap2 jz) (kx [] d2) (mf (bv (dq i 4 d2) (bif i !=f then decide (i>lo) || true else true) (bif dq i 5 d2 then bif i !=f then decide (i>lo) || true else true else true)) (bv (dq i 4 d2) (i !=f&& (decide (i>lo) &&bw i hi)) (dq i 5 d2&& (i !=f&& (decide (i>lo) &&bw i hi)))) (il d2) R [kx [] d2] (ft b (ak lo::ak hi::du L i 401 m3 cap3) (B false)) (ft b (ak lo::ak hi::dp L i 401 m3 cap3) (B r)) (ie true false cr s w dg q dr f 32 fm m2 cap2 jz))):=by kernel_rfl
theorem l134_2:∀t m n K,S134_2.hA t m n K→Ab.Sem Tryz.prog Tryz.f191.ntmps (.loop (ja2 Tryz.f191 2)) t m n K:=by
 refine jbo ok_G23 hmix (by kernel_rfl) (ja0 _) S134_2 V134_2 B134_2 (fun(b,r,lo,hi,m3,cap3,L,i,s,w,dg,q,d2,m2,cap2,dr,f,cr,fm)=>(m2-i).toNat) ?_ ?_ ?_
 ·intro vs bs s h;simp only[S134_2]at h;split at h
  all_goals first | (cases h;exact⟨rfl,rfl⟩) | cases h | (split at h<;>first | (rename_i hq;cases h;have hq:=jah hq;subst hq;exact⟨rfl,rfl⟩) | cases h)
 ·exact fun⟨b,r,lo,hi,m3,cap3,L,i,s,w,dg,q,d2,m2,cap2,dr,f,cr,fm⟩ hp=>by
   simp only[S134_2,jaf]at hp;have hr:=jat.1 hp.1;simp[V134_2,B134_2,S134_2,jaw,jbs,idsL,ids,jao hr.plain]
 ·intro⟨b,r,lo,hi,m3,cap3,L,i,s,w,dg,q,d2,m2,cap2,dr,f,cr,fm⟩ jk Z hp hf;rw[r134_2];delta e7 dy ew il cl bw kw bm mf ak am ie jz ar ft ax az ct cq dp bp du kx bv c9 dq;simp only[S134_2]at hp hf;simp only[jaf,jae]at hp;obtain⟨hR,hp⟩:=hp;have hr:=jat.1 hR;have hzl:=jbk hr;have e0:0+i.toNat*1=i.toNat:=by omega
  rw[e0];simp only[hr.rlb];have hg:∀ps,(jas ps d2&&true&&true)=true:=fun ps=>by rw[hr.good];rfl
  apply Ka<;>intro h
  ·have h:=jab h;obtain⟨a1,a3⟩:=hr.at hp.1 (by omega);rw[a3,stP]at hf;rw[a1,w64 (n:=i+1) (by omega)];generalize jar d2 i.toNat=c at*;have e:(bif c==4 then i !=f&& (decide (i>lo) &&decide (i<hi))else c==5&& (i !=f&& (decide (i>lo) &&decide (i<hi))))=((c==4 || c==5) && (i !=f&& (decide (i>lo) &&decide (i<hi)))):=by cases c==4<;>rfl
   rw[e];refine c_t (jaa (by omega)) (c_t rfl (c_t (by simp) (Ka (fun z=>c_t (hg _) ?_) (fun z=>c_t (hg _) ?_))))
   ·rw[z,Bool.not_true,Bool.false_and,cond_false]at hf;exact hf i
   ·rw[z,Bool.not_false,Bool.true_and]at hf;exact⟨(b,r,lo,hi,m3,cap3,L,i+1,s,w,dg,q,d2,m2,cap2,dr,f,cr,fm),rfl,rfl,by simp only[S134_2,jaf,jae];exact⟨hR,by omega⟩,by simp only;omega,hf⟩
  ·have h:=jac h;rw[hr.end (by omega),stP,cond_true]at hf;obtain rfl:i=m2:=by omega
   exact c_t (hg _) hf
def V135_0:Y×Int×Int×J×Nat×Nat×Int×Int×Y×Int×Int×Int×J×Nat×Nat×Int×Int×Bool×Int→J:=fun(b,r,n,d,m,cap,L,i,s,w,dg,q,d2,m2,cap2,dr,f,cr,fm)=> [.pointer (some ⟨3,0,some 0⟩),S b,I r,I n,.slice (some ⟨600,0,some 1⟩) m cap,I L,I i]
def B135_0:Y×Int×Int×J×Nat×Nat×Int×Int×Y×Int×Int×Int×J×Nat×Nat×Int×Int×Bool×Int→Ya:=fun(b,r,n,d,m,cap,L,i,s,w,dg,q,d2,m2,cap2,dr,f,cr,fm)=> [some ⟨[.string s,.bool true,.int .i64 w,.int .i64 dg,.int .i64 q,.bool false,.slice (some ⟨401,0,some 1⟩) m2 cap2,.int .u8 dr,.int .i64 f,.bool cr,.int .u8 32,.int .i64 fm],132,true⟩,some ⟨d,5,false⟩,some ⟨d2,221,true⟩]
def S135_0:LSpecA (Y×Int×Int×J×Nat×Nat×Int×Int×Y×Int×Int×Int×J×Nat×Nat×Int×Int×Bool×Int) where
 live:=[0,1,4,5,9,10,11]
 mid:=[3,600,401]
 n:=610
 ap:=[(.tmp 9,600)]
 dec vs bs:=match vs,bs with | [.pointer (some ⟨3,0,some 0⟩),.string b,.int .i64 r,.int .i64 n,.slice (some ⟨600,0,some 1⟩) m cap,.int .i64 L,.int .i64 i],[some ⟨[.string s,.bool true,.int .i64 w,.int .i64 dg,.int .i64 q,.bool false,.slice (some ⟨401,0,some 1⟩) m2 cap2,.int .u8 dr,.int .i64 f,.bool cr,.int .u8 32,.int .i64 fm],132,true⟩,some ⟨d,5,false⟩,some ⟨d2,221,true⟩]=>some (b,r,n,d,m,cap,L,i,s,w,dg,q,d2,m2,cap2,dr,f,cr,fm) | _,_=>none
 pre:=fun(b,r,n,d,m,cap,L,i,s,w,dg,q,d2,m2,cap2,dr,f,cr,fm)=>jbv d2 m2 cap2&& (vwOK d m&&decide (0≤i∧i≤m∧m2=m∧m≤1000∧L=m∧0≤n∧n≤i))
 fin:=fun(b,r,n,d,m,cap,L,i,s,w,dg,q,d2,m2,cap2,dr,f,cr,fm) Z=>∀n',n+siGo ((zc d m).drop i.toNat) ((zc d2 m2).drop i.toNat)=n'→Z (.exit 0) [.pointer (some ⟨3,0,some 0⟩),S b,I r,I n',.slice (some ⟨600,0,some 1⟩) m cap,I L,I m] [some ⟨[.string s,.bool true,.int .i64 w,.int .i64 dg,.int .i64 q,.bool false,.slice (some ⟨401,0,some 1⟩) m2 cap2,.int .u8 dr,.int .i64 f,.bool cr,.int .u8 32,.int .i64 fm],132,true⟩,some ⟨d,5,false⟩,some ⟨d2,221,true⟩]
theorem r135_0(b:Y)(r:Int)(n:Int)(d:J)(m:Nat)(cap:Nat)(L:Int)(i:Int)(s:Y)(w:Int)(dg:Int)(q:Int)(d2:J)(m2:Nat)(cap2:Nat)(dr:Int)(f:Int)(cr:Bool)(fm:Int)(jk:Tmps)(R:Exit→J→Ya→Prop):(jbn Tryz.prog G23 noL Tryz.f192.ntmps (ja2 Tryz.f192 0) (tl S135_0.live (V135_0 (b,r,n,d,m,cap,L,i,s,w,dg,q,d2,m2,cap2,dr,f,cr,fm)) jk) (ml S135_0.mid (B135_0 (b,r,n,d,m,cap,L,i,s,w,dg,q,d2,m2,cap2,dr,f,cr,fm))) S135_0.n fun e t' m' _=>S135_0.out R e t' m')=(dy (bw i L) (cl i (m:Int)) (kc [] d d2 600 600&&true) (bif jbg .u8 d (ew i)then i6 (cl i (m2:Int)) (jbg .i64 d2 (ew i) && (dq i 4 d2 || cl (c9 i d) 256&&true)) (dq i 4 d2 || decide (idxZ (bz ⟨#[84,73,82]⟩) (c9 i d)≥0)) (bm (kc [] d d2 600 600&&true) R (n6 cr s w dg q dr f fm [] d d2 m2 cap2 600) (ft b (az n::dp L i 600 m cap) (ak r))) (bm (kc [] d d2 600 600&&true) R (n6 cr s w dg q dr f fm [] d d2 m2 cap2 600) (ft b (ak n::dp L i 600 m cap) (ak r)))else False) (R (.exit 0) (ft b (ak n::du L i 600 m cap) (ak r)) (n6 cr s w dg q dr f fm [] d d2 m2 cap2 600))):=by kernel_rfl
theorem l135_0:LOKf Tryz.prog (oneL 0 S135_0.hA) Tryz.f192:=by
 refine jbb (h:=S135_0.hA) (by kernel_rfl) (jbo ok_G23 hmix (by kernel_rfl) (ja0 _) S135_0 V135_0 B135_0 (fun(b,r,n,d,m,cap,L,i,s,w,dg,q,d2,m2,cap2,dr,f,cr,fm)=>(m-i).toNat) ?_ ?_ ?_)
 ·intro vs bs s h;simp only[S135_0]at h;split at h
  all_goals first | (cases h;exact⟨rfl,rfl⟩) | cases h | (split at h<;>first | (rename_i hq;cases h;have hq:=jah hq;subst hq;exact⟨rfl,rfl⟩) | cases h)
 ·exact fun⟨b,r,n,d,m,cap,L,i,s,w,dg,q,d2,m2,cap2,dr,f,cr,fm⟩ hp=>by
   simp only[S135_0,jaf]at hp;have hr:=jat.1 hp.1;simp[V135_0,B135_0,S135_0,jaw,jbs,idsL,ids,jao hr.plain,jao (jc3.1 hp.2.1).plain]
 ·intro⟨b,r,n,d,m,cap,L,i,s,w,dg,q,d2,m2,cap2,dr,f,cr,fm⟩ jk Z hp hf;rw[r135_0];delta e7 dy kx kr ak am ie jz n6 ar ft bp cq du i6 bm ax az ct dp kc ew c9 dq cl bw;simp only[S135_0]at hp hf;simp only[jaf,jae]at hp;obtain⟨hR,hV,hp⟩:=hp;have hr:=jat.1 hR;have hzl:=jbk hr;have hv:=jc3.1 hV;have e0:0+i.toNat*1=i.toNat:=by omega
  rw[e0];simp only[hr.rlb,hv.rlb];have hg:∀ps,(jas ps d&& (jas ps d2&&true) &&true)=true:=fun ps=>by rw[hr.good,goodL_plain hv.plain];rfl
  have k:bz ⟨#[84,73,82]⟩=[84,73,82]:=rfl;rw[k];apply Ka<;>intro h
  ·have h:=jab h;obtain⟨a1,a3⟩:=hr.at hp.1 (by omega);obtain⟨b1,b2,b3⟩:=hv.at hp.1 (by omega);rw[a3,b3,siGo]at hf;rw[a1,b1,w64 (n:=i+1) (by omega),jlb];generalize jar d2 i.toNat=c at*;generalize jar d i.toNat=x at*;refine c_t (jaa (by omega)) (c_t rfl (c_t (by rw[jaa (show 0≤i∧i<(m2:Int)by omega),jaa b2];simp) (Ka (fun z=>c_t (hg _) ?_) (fun z=>c_t (hg _) ?_))))
   ·rw[z,cond_true,←Int.add_assoc]at hf;rw[w64 (n:=n+1) (by omega)];exact⟨(b,r,n+1,d,m,cap,L,i+1,s,w,dg,q,d2,m2,cap2,dr,f,cr,fm),rfl,rfl,by simp only[S135_0,jaf,jae];exact⟨hR,hV,by omega⟩,by simp only;omega,hf⟩
   ·rw[z,cond_false,Int.zero_add]at hf;exact⟨(b,r,n,d,m,cap,L,i+1,s,w,dg,q,d2,m2,cap2,dr,f,cr,fm),rfl,rfl,by simp only[S135_0,jaf,jae];exact⟨hR,hV,by omega⟩,by simp only;omega,hf⟩
  ·have h:=jac h;rw[hv.end (by omega),siGo,Int.add_zero]at hf;obtain rfl:i=m:=by omega
   exact c_t (hg _) (hf n rfl);intro _ _ _ _ h1;cases h1
theorem lok134:LOKf Tryz.prog (twoL 0 S134_0.hA 2 S134_2.hA) Tryz.f191:=je2 (by kernel_rfl) (by kernel_rfl) l134_0 l134_2
def G24:Env:=Env.nil.add 221 (sp2 s141)
theorem ok_G24:ja3 Tryz.prog G24:=jaj jav ok141
def G25:Env:=((((((Env.nil.add 189 (sp2 s132)).add 187 (sp2 s130)).add 128 (sp2 s102)).addG 188 (inlQ Tryz.prog G20 (oneL 0 S131_0.hA) Tryz.f188)).addG 190 (inlQ Tryz.prog G22 (oneL 0 S133_0.hA) Tryz.f190)).addG 191 (inlQ Tryz.prog G23 (twoL 0 S134_0.hA 2 S134_2.hA) Tryz.f191)).addG 192 (inlQ Tryz.prog G24 (oneL 0 S135_0.hA) Tryz.f192)
theorem ok_G25:ja3 Tryz.prog G25:=jau (jau (jau (jau (jaj (jaj (jaj jav ok132) ok130) ok102) (jbh ok_G20 hmix fn131 lok131)) (jbh ok_G22 hmix fn133 l133_0)) (jbh ok_G23 hmix (.m Tryz.func191) lok134)) (jbh ok_G24 hmix (.m Tryz.func192) l135_0)
def look(m:Lk):Value→Ya
 | Value.tuple ⟨[Value.pointer (some a),_]⟩=>match m a.block with
  | some b=>match b.c[6]? with
   | some (Value.slice (some a') _ _)=> [some b,m a'.block]
   | _=> [some b]
  | none=> []
 | _=> []
def nD(b:O):Bool×Int×Int:=jfc [36,83,43,45] b 0 (-1)
def nR(b:O):O:=jbl (nD b).2.1 (nD b).2.2 b 0
def nP(b:O):Bool×PlS:=plGo (nR b) ⟨0,false,0,0,0,0⟩
def nPok(b:O):Bool:=(nP b).1&& (decide ((nP b).2.pts≤1) && (decide ((nP b).2.dg≥1) && (decide ((nP b).2.dg≤9) && !((nP b).2.bh&&decide ((nP b).2.fm>0)))))
def nS(b:O):Bool:=stP (nD b).2.2 (loGo (nD b).2.2 (nR b) 0 b.length) (hiGo (nD b).2.2 (nR b) 0 (-1)) (nR b) 0
def nG(b:O)(cr:Bool):Int:=siGo b (nR b)+(bif cr then 1 else 0)
def nSt(b:O):Bool:=hasZ b 42&&hasZ b 90 || (hasZ b 42 || hasZ b 90) && (nD b).2.1 !=0
def numQ(b:O)(cr:Bool):Bool:= !anyZ b [65,88,67,68] && ((nD b).1&& (!nSt b&& (nPok b&& (nS b&&decide (nG b cr≤1)))))
def jkr(s:Y)(cr:Bool)(x m cap:Nat):J:=
 [.string s,.bool true,.int .i64 ((nP (jam (bz s))).2.w+(bif cr then 2 else 0)),.int .i64 (nP (jam (bz s))).2.dg,.int .i64 (nP (jam (bz s))).2.q,.bool (nG (jam (bz s)) cr==1),
  .slice (some ⟨x,0,some 1⟩) m cap,.int .u8 (nD (jam (bz s))).2.1,.int .i64 (nD (jam (bz s))).2.2,.bool cr,.int .u8 (bif hasZ (jam (bz s)) 42 then 42 else 32),.int .i64 (nP (jam (bz s))).2.fm]
def jl1(s:Y)(cr:Bool):O:=nR (jam (bz s))++(bif cr then [4,4]else [])
theorem jh5(dr f:Int):∀(l:O)(i:Int),(jbl dr f l i).length=l.length
 | [],_=>rfl
 | c::r,i=>by simp[jbl,jh5 dr f r]
theorem jmr:∀(a b:O),0≤siGo a b∧siGo a b≤a.length
 | [],_=>by simp[siGo]
 | _::_,[]=>by simp[siGo];omega
 | c::cs,r::rs=>by
  have:=jmr cs rs;rw[siGo,List.length_cons];cases(r==4 || hasZ [84,73,82] c) <;>simp only[cond_true,cond_false] <;>omega
theorem ji6:∀(l:O)(a:PlS),(a.w≤(plGo l a).2.w∧(plGo l a).2.w≤a.w+l.length)∧(a.dg≤(plGo l a).2.dg∧(plGo l a).2.dg≤a.dg+l.length)∧(a.fm≤(plGo l a).2.fm∧(plGo l a).2.fm≤a.fm+l.length)
 | [],a=>by simp[plGo]
 | r::rs,a=>by
  rw[plGo,List.length_cons];cases r==2 with
  | true=>have:=ji6 rs ⟨a.pts+1,a.bh,a.w,a.dg,a.q,a.fm⟩;simp only[cond_true]at this ⊢;omega
  | false=>
   cases r==0 with
   | true=>have:=ji6 rs ⟨a.pts,a.bh,a.w+1,a.dg+1,a.q+a.pts,a.fm+1⟩;simp only[cond_true,cond_false]at this ⊢;omega
   | false=>
    cases r==1 with
    | true=>
     cases decide (a.fm>0)with
     | true=>simp only[cond_true,cond_false];omega
     | false=>have:=ji6 rs ⟨a.pts,a.bh || decide (a.pts>0),a.w+1,a.dg+1,a.q+a.pts,a.fm⟩;simp only[cond_true,cond_false]at this ⊢;omega
    | false=>have:=ji6 rs ⟨a.pts,a.bh,a.w+1,a.dg,a.q,a.fm⟩;simp only[cond_false]at this ⊢;omega
theorem jiw{s:O}{cr:Bool}(h:crZ s=cr):jam s=bif cr then s.take (s.length-2)else s:=by
 unfold jam;rw[h];cases cr<;>rfl
theorem cr_suf(l:O):(sufZ l [67,82] || sufZ l [68,66])=crZ l:=by
 unfold sufZ crZ;rw[Kl];simp only[Ko,jaf,jae,List.length_cons,List.length_nil];constructor
 ·rintro (⟨a,b⟩ | ⟨a,b⟩)
  ·exact⟨a,.inl b⟩
  ·exact⟨a,.inr b⟩
 ·rintro ⟨a,b | b⟩
  ·exact .inl ⟨a,b⟩
  ·exact .inr ⟨a,b⟩
theorem asc_take{l:O}(h:asc l=true)(n:Nat):asc (l.take n)=true:=by
 simp only[asc,Kf]at h ⊢;exact fun x hx=>h x (List.mem_of_mem_take hx)
def j0(a:Value→Ya→Prop):Prop:=a (aq d8 (.pointer none)) []
def q9(d:Bool)(a c:Y)(e:Prop)(b:Value→Ya→Prop):Prop:=bif fy a&& (fy ns&& (asc (bz a) &&asc (bz ns)))then bif anyZ (bz a) (bz ns)then j0 b else io (S131_0.toLSpec.pre (a,(false,(natO 4,((0:Int),(c,((0:Int),(-(1:Int),d)))))))) (jfc [36,83,43,45] (bz a) 0 (-1)).fst e (ki (Int→Tmps→j0 b))else False
def n7(b c:J)(a:Nat)(d:Prop):Prop:=bif jaw a b&&dx c a then Tmps→d else False
def kl(a:Y)(b:UInt8):Bool:=hasZ (bz a) (jy b)
def ra(j:Bool)(a i:Y)(b g:Int)(k:Prop)(h:Value→Ya→Prop):Prop:=jfc [36,83,43,45] (bz a) 0 (-1)=(true,(b,g))→Tmps→go (kl a 42) (kl a 90 || (kl a 42 || (kl a 90 || true))) (kl a 42 || (kl a 90 || true)) (bv (kl a 42) (kl a 90 || (bif kl a 42 then b !=0 else kl a 90&&b !=0)) (bif kl a 42 then b !=0 else kl a 90&&b !=0)) (j0 h) (∀c:Nat,nx (S133_0.toLSpec.pre (a,(false,((0:Int),(false,(jc a 344 400,(a.size,(c,(natO a.size,((0:Int),(i,((0:Int),((0:Int),((0:Int),(Rw.nil,(b,(g,(j,(0:Int))))))))))))))))))) (plGo (jbl b g (ku a 344 400) 0) (PlS.mk 0 false 0 0 0 0)).fst a c 344 400 410 ((Rw.is Rw.nil=false→ku a 344 400=([]:O)→jh (jc a 344 400) 410 (j0 h))∧k) (Bool→ki (Int→Int→Int→(∀d:J,∀e:Nat,∀f:Nat,jbv d e f=true→n7 (jc a 344 400) d 410 (j0 h)))))
def lc(a:J):J:=rlbL [] (rlbL [] a)
def l5(a:J):J:=rlbL [(569,600)] (lc a)
def rc(k:Bool)(b e:Y)(f g h i j l:Int)(a:J)(c d:Nat)(p:Prop)(q:Value→Ya→Prop):Prop:=bif jv [] a 520 then bif S134_0.toLSpec.pre (b,(false,(al b,(-(1:Int),(c,(d,(natO c,((0:Int),(e,(f,(g,(h,(rlbL [] a,(c,(d,(i,(j,(k,l))))))))))))))))))then∀m:Int,∀n:Int,loGo j (fw 0 (zc (rlbL [] a) c)) 0 (al b)=m→hiGo j (fw 0 (zc (rlbL [] a) c)) 0 (-1)=n→jh (rlbL [] a) 520 (bif jv [] (rlbL [] a) 560 then io (S134_2.toLSpec.pre (b,(false,(m,(n,(c,(d,(natO c,((0:Int),(e,(f,(g,(h,(lc a,(c,(d,(i,(j,(k,l))))))))))))))))))) (Px.stP j m n (fw 0 (zc (lc a) c)) 0) (bif dx (lc a) 560 then Tmps→(∀o:Nat,b.size.ble o=true→(bif jas [(569,600)] (Lib.strCells b) && (jas [(569,600)] (lc a) &&true) &&true&& (jaw 610 (jc b 569 600) &&dx (l5 a) 610)then e7 (Px.S135_0.toLSpec.pre (b,((0:Int),((0:Int),(jc b 569 600,(b.size,(o,(natO b.size,((0:Int),(e,(f,(g,(h,(l5 a,(c,(d,(i,(j,(k,l))))))))))))))))))) p else False))else False) (Int→(bif dx (lc a) 560 then Tmps→j0 q else False))else False)else False else False
def rd(a:Y)(d e:Int)(b:J)(c:Nat)(g h:Prop)(f:Value→Ya→Prop):Prop:=0+siGo (ku a 569 600) (fw 0 (zc (l5 b) c))=d→(bif jaw 610 (jc a 569 600) &&dx (l5 b) 610 then ib (decide (e>1)) (j0 f) (av (hasZ (bz a) (jy 42)) g h)else False)
def re(f:Y)(e g h i j k l m:Int)(a:J)(b c n:Nat)(d:Value→Ya→Prop):Prop:=bif (l5 a).length.beq (b*1) &&c.ble b&&b.ble 9223372036854775807&&true&&jb2 (c+2) 8 then∀q:Nat,∀r:J,fu r q (c+2)→d (aq fv (ar 3)) [ie true (ax e==1) true f (fp g 2) h i j k l m (c+2) q (some (.mk n 0 (some 1))),some (.mk ((l5 a).take (c*1)++bp 4 4++r) 221 true)]else False
theorem v103(s:Y)(R:Value→Ya→Prop):(jax Tryz.prog G25 noL Tryz.f129 [S s] (fun _=>none) 0 (fun v m _=>R v (look m v)))=(i6 (co s) (sufZ (bz s) (bz ⟨#[67,82]⟩) || co s&&true) (sufZ (bz s) (bz ⟨#[67,82]⟩) || sufZ (bz s) (bz ⟨#[68,66]⟩)) (bif kh s 2 then q9 true (j8 s) s (∀a:Int,∀b:Int,ra true (j8 s) s a b (∀d:Int,∀e:Bool,∀f:Int,∀g:Int,∀h:Int,∀i:Int,∀j:J,∀k:Nat,∀l:Nat,jbv j k l=true→zc j k=Rw.z Rw.nil++jbl a b (ku (j8 s) 344 400) 0→plGo (jbl a b (ku (j8 s) 344 400) 0) (PlS.mk 0 false 0 0 0 0)=(true,PlS.mk d e f g h i)→n7 (jc (j8 s) 344 400) j 410 (go (decide (d≤1)) (oz e g) true (!(decide (d≤1) &&oy e (gp i) g)) (j0 R) (rc true (j8 s) s f g h a b i j k l (∀p:Int,rd (j8 s) p (ax p) j k (re s p f g h a b 42 i j l k 644 R) (re s p f g h a b 32 i j l k 640 R) R) R))) R) R else False) (q9 false s s (∀a:Int,∀b:Int,ra false s s a b (∀d:Int,∀e:Bool,∀f:Int,∀g:Int,∀h:Int,∀i:Int,∀j:J,∀k:Nat,∀l:Nat,jbv j k l=true→zc j k=Rw.z Rw.nil++jbl a b (ku s 344 400) 0→plGo (jbl a b (ku s 344 400) 0) (PlS.mk 0 false 0 0 0 0)=(true,PlS.mk d e f g h i)→n7 (jc s 344 400) j 410 (go (decide (d≤1)) (oz e g) true (!(decide (d≤1) &&oy e (gp i) g)) (j0 R) (rc false s s f g h a b i j k l (∀p:Int,rd s p p j k (R (aq fv (ar 3)) [ie true (p==1) false s f g h a b 42 i k l jz,some (.mk (l5 j) 221 true)]) (R (aq fv (ar 3)) [ie true (p==1) false s f g h a b 32 i k l jz,some (.mk (l5 j) 221 true)]) R) R))) R) R)):=by kernel_rfl
theorem w103(s:Y)(hs:s.size≤32)(ha:asc (bz s)=true)(R:Value→Ya→Prop)
    (hn:numQ (jam (bz s)) (crZ (bz s))=false→R (.tuple ⟨[.pointer none,.bool false]⟩) [])
    (hy:numQ (jam (bz s)) (crZ (bz s))=true→ ∀(x m cap:Nat)(d:J),RowI d m cap→zc d m=jl1 s (crZ (bz s))→
      R (.tuple ⟨[.pointer (some ⟨3,0,some 0⟩),.bool true]⟩) [some ⟨jkr s (crZ (bz s)) x m cap,132,true⟩,some ⟨d,221,true⟩]):
    jel Tryz.prog G25 noL Tryz.f129 [.string s] (fun _=>none) 0 (fun v m _=>R v (look m v)):=by
  rw[jel,v103];delta i6 av io ki aq d8 j0 ns fy q9 go dx jv jt nx n7 jc jh ku bv jy kl ra lc e7 l5 fw al rc ib rd ak am ie jz ar fv oy gp oz bp fp ax fu re d9 j8 c7 kh co;have k67:bz ⟨#[67,82]⟩=[67,82]:=rfl;have k68:bz ⟨#[68,66]⟩=[68,66]:=rfl;rw[k67,k68,cr_suf];refine c_t (by rw[jaa (show s.size≤9223372036854775807 by omega)];simp) (Ka (fun hcr=> ?_) (fun hcr=> ?_))
  · rw [hcr] at hn hy;have hb:=jiw hcr
    have h2:2≤s.size:=by
      have:2≤(bz s).length:=by
        simp only[crZ,jaf,jae]at hcr;exact hcr.1
      rwa [jak]at this
    rw[w64 (n:=(s.size:Int)-2) (by omega)];refine c_t (jaa (by omega)) ?_
    have hb:bz (s.extract 0 ((s.size:Int)-2).toNat)=jam (bz s):=by
      rw[hb,jb5,cond_true,jak,List.drop_zero];congr 1;omega
    have hay:asc (bz (s.extract 0 ((s.size:Int)-2).toNat))=true:=by
      rw[hb,jiw hcr];exact asc_take ha _
    have hys:(s.extract 0 ((s.size:Int)-2).toNat).size≤32:=by
      rw[←jak,hb,jiw hcr,cond_true,Kp,jak];omega
    generalize s.extract 0 ((s.size:Int)-2).toNat=y at*;have k1:bz ⟨#[65,88,67,68]⟩=[65,88,67,68]:=rfl;have k2:(bz ⟨#[42]⟩).getD 0 0=42:=rfl;have k3:(bz ⟨#[90]⟩).getD 0 0=90:=rfl;rw[k1,k2,k3];have ey:=hb;refine c_t (by rw[jaa (show y.size≤1000 by omega),hay];rfl) (Ka (fun hA=>hn (by rw[←hb];simp only[numQ,hA,Bool.not_true,Bool.false_and])) (fun hA=>c_t ?_ (Ka (fun hB dr' f' hD x=> ?_) (fun hB _ _ _ _=>hn (by rw[←hb,numQ,nD,hB,hA];rfl)))))
    · simp only [S131_0, jae];exact⟨jby 4,by omega,by omega,by omega,by omega,by omega⟩
    have hD':nD (bz y)=(true,dr',f'):=hD;have e1:(nD (bz y)).1=true:=by rw[hD']
    have e2:(nD (bz y)).2.1=dr':=by rw[hD']
    have e3:(nD (bz y)).2.2=f':=by rw[hD']
    have eS:(bif hasZ (bz y) 42 then hasZ (bz y) 90 || bif hasZ (bz y) 42 then dr' !=0 else hasZ (bz y) 90&&dr' !=0 else bif hasZ (bz y) 42 then dr' !=0 else hasZ (bz y) 90&&dr' !=0)=nSt (bz y):=by
      rw[nSt,e2];cases hasZ (bz y) 42<;>cases hasZ (bz y) 90<;>cases dr' !=0<;>rfl
    rw[eS];refine c_t (by simp) (Ka (fun hC=>hn (by rw[←hb,numQ,hA,e1,hC];rfl)) (fun hC cap _=> ?_));obtain⟨v1,v2⟩:=jlt y;have v3:=jc3.2 v1;have g1:=v1.good;have g2:=v1.rlb;have g3:=jba v1.plain;have g4:∀ps,jas ps (Lib.strCells y)=true:=fun ps=>goodL_plain v1.plain
    simp only[g2];generalize Lib.strCells y=d0 at*;simp only[Int.toNat_zero,List.drop_zero,v2];have eR:jbl dr' f' (bz y) 0=nR (bz y):=by rw[nR,e2,e3]
    rw[eR];have eP:plGo (nR (bz y)) ⟨0,false,0,0,0,0⟩=nP (bz y):=rfl;rw[eP];have hl:=jh5 dr' f' (bz y) 0;rw[eR,jak]at hl;refine c_t (by rw[g1,g3];rfl) (c_t ?_ (Ka (fun hE=>⟨fun _ hnil=>c_t (by rw[g3];rfl) fun _=> ?_,fun pts' bh' w' dg' q' fm' d' m' cap' r1 r2 r3=> ?_⟩) (fun hE _ _ _ _ _ _ _ d' m' cap' r1=>c_t (by rw[g3,jba (jat.1 r1).plain];rfl) fun _=>hn (by rw[←hb,numQ,hA,e1,hC,nPok,hE];rfl))))
    · simp only [S133_0, Rw.oki, Rw.z, List.length_nil, Bool.true_and, jaf, jae];exact⟨v3,jaa ⟨by omega,by omega,by omega,jby _,by omega,by omega,by omega,by omega,by omega,by omega,by omega,by omega,by omega,by omega,by omega⟩⟩
    · have:nP (bz y)=(true,⟨0,false,0,0,0,0⟩):=by
        rw[nP,nR,hnil];rfl
      exact hn (by rw[←hb,numQ,hA,e1,hC,nPok,this];rfl)
    have r1:=jat.1 r1;have hz:=jbk r1;have r2:zc d' m'=nR (bz y):=r2;have pr:=ji6 (nR (bz y)) ⟨0,false,0,0,0,0⟩;rw[eP,r3]at pr;simp only at pr;have hm:m'=y.size:=by rw[←hz,r2,hl]
    refine c_t (by rw[g3,jba r1.plain];rfl) fun _=>c_t (by cases decide (pts'≤1) <;>cases decide (dg'≥1) <;>cases decide (dg'≤9) <;>simp) ?_
    have ePok:(decide (pts'≤1) && (decide (dg'≥1) && (decide (dg'≤9) &&bif bh' then !decide (fm'>0)else !false)))=nPok (bz y):=by
      rw[nPok,r3];cases bh'<;>rfl
    rw[ePok];refine Ka (fun hF=>hn (by rw[←hb,numQ,hA,e1,hC];rw[Ks]at hF;rw[hF];rfl)) (fun hF=> ?_);have hF:nPok (bz y)=true:=by simpa using hF
    have gd:∀ps,rlbL ps d'=d':=r1.rlb;have gg:∀ps,jas ps d'=true:=r1.good;have gi:=jba r1.plain;simp only[gd,r2];refine c_t (by rw[gg,gi];rfl) (c_t ?_ (fun lo' hi' h1 h2=>c_t (by rw[gi];rfl) fun _=>c_t (by rw[gg,gi];rfl) (c_t ?_ ?_)))
    · simp only [S134_0, jaf, jae];exact⟨jat.2 r1,by omega,by omega,by omega,jby _,trivial⟩
    · simp only [S134_2, jaf, jae];exact⟨jat.2 r1,by omega,by omega,by omega,jby _,trivial⟩
    have eSt:stP f' lo' hi' (nR (bz y)) 0=nS (bz y):=by rw[nS,e3,jak,h1,h2]
    rw[eSt];refine Ka (fun hG=> ?_) (fun hG _=>c_t (by rw[gi];rfl) fun _=>hn (by rw[←hb,numQ,hA,e1,hC,hF,hG];rfl));refine c_t (by rw[gi];rfl) fun _ cap2 _=>c_t (by rw[g4,gg,gi,g3];rfl) (c_t ?_ (fun n' h3=>c_t (by rw[gi,g3];rfl) fun _=> ?_))
    · simp only [S135_0, jaf, jae];exact⟨jat.2 r1,v3,by omega,by omega,hm,by omega,jby _,by omega,by omega⟩
    have sr:=jmr (bz y) (nR (bz y));rw[jak]at sr;rw[Int.zero_add]at h3;rw[w64 (n:=n'+1) (by omega),w64 (n:=w'+2) (by omega)];have eN:nG (bz y) true=n'+1:=by rw[nG,h3];rfl
    refine Ka (fun hH => hn (by rw [← hb, numQ, hA, e1, hC, hF, hG, eN]; have : ¬ n' + 1 ≤ 1 := (by have := jab hH; omega); rw[jad this];rfl)) (fun hH=> ?_)
    have hq:numQ (jam (bz s)) true=true:=by
      rw[←hb,numQ,hA,e1,hC,hF,hG,eN];have:n'+1≤1:=by have:=jac hH;omega
      rw[jaa this];rfl
    have eF:∀x k c,jkr s true x k c=[Value.string s,Value.bool true,Value.int IntKind.i64 (w'+2),Value.int IntKind.i64 dg',Value.int IntKind.i64 q',Value.bool (n'+1==1),Value.slice (some ⟨x,0,some 1⟩) k c,Value.int IntKind.u8 dr',Value.int IntKind.i64 f',Value.bool true,Value.int IntKind.u8 (bif hasZ (bz y) 42 then 42 else 32),Value.int IntKind.i64 fm']:=fun x k c=>by
      rw[jkr,←hb,r3,e2,e3,eN];rfl
    have hf:=hy hq;simp only[eF,jl1,←hb]at hf;apply Ka<;>intro hI
    all_goals
      rw[hI]at hf;refine c_t (r1.ask (k:=2) (by omega)) (fun cap3 tail ht=> ?_);obtain⟨a1,a2⟩:=r1.app [4,4] ht;rw[Nat.mul_one];exact hf _ _ _ _ a1 (a2.trans (by rw[r2];rfl))
  · rw [hcr] at hn hy;have hb:bz s=jam (bz s):=by rw[jiw hcr];rfl
    have hay:=ha;have k1:bz ⟨#[65,88,67,68]⟩=[65,88,67,68]:=rfl;have k2:(bz ⟨#[42]⟩).getD 0 0=42:=rfl;have k3:(bz ⟨#[90]⟩).getD 0 0=90:=rfl;rw[k1,k2,k3];have ey:=hb;refine c_t (by rw[jaa (show s.size≤1000 by omega),hay];rfl) (Ka (fun hA=>hn (by rw[←hb];simp only[numQ,hA,Bool.not_true,Bool.false_and])) (fun hA=>c_t ?_ (Ka (fun hB dr' f' hD x=> ?_) (fun hB _ _ _ _=>hn (by rw[←hb,numQ,nD,hB,hA];rfl)))))
    · simp only [S131_0, jae];exact⟨jby 4,by omega,by omega,by omega,by omega,by omega⟩
    have hD':nD (bz s)=(true,dr',f'):=hD;have e1:(nD (bz s)).1=true:=by rw[hD']
    have e2:(nD (bz s)).2.1=dr':=by rw[hD']
    have e3:(nD (bz s)).2.2=f':=by rw[hD']
    have eS:(bif hasZ (bz s) 42 then hasZ (bz s) 90 || bif hasZ (bz s) 42 then dr' !=0 else hasZ (bz s) 90&&dr' !=0 else bif hasZ (bz s) 42 then dr' !=0 else hasZ (bz s) 90&&dr' !=0)=nSt (bz s):=by
      rw[nSt,e2];cases hasZ (bz s) 42<;>cases hasZ (bz s) 90<;>cases dr' !=0<;>rfl
    rw[eS];refine c_t (by simp) (Ka (fun hC=>hn (by rw[←hb,numQ,hA,e1,hC];rfl)) (fun hC cap _=> ?_));obtain⟨v1,v2⟩:=jlt s;have v3:=jc3.2 v1;have g1:=v1.good;have g2:=v1.rlb;have g3:=jba v1.plain;have g4:∀ps,jas ps (Lib.strCells s)=true:=fun ps=>goodL_plain v1.plain
    simp only[g2];generalize Lib.strCells s=d0 at*;simp only[Int.toNat_zero,List.drop_zero,v2];have eR:jbl dr' f' (bz s) 0=nR (bz s):=by rw[nR,e2,e3]
    rw[eR];have eP:plGo (nR (bz s)) ⟨0,false,0,0,0,0⟩=nP (bz s):=rfl;rw[eP];have hl:=jh5 dr' f' (bz s) 0;rw[eR,jak]at hl;refine c_t (by rw[g1,g3];rfl) (c_t ?_ (Ka (fun hE=>⟨fun _ hnil=>c_t (by rw[g3];rfl) fun _=> ?_,fun pts' bh' w' dg' q' fm' d' m' cap' r1 r2 r3=> ?_⟩) (fun hE _ _ _ _ _ _ _ d' m' cap' r1=>c_t (by rw[g3,jba (jat.1 r1).plain];rfl) fun _=>hn (by rw[←hb,numQ,hA,e1,hC,nPok,hE];rfl))))
    · simp only [S133_0, Rw.oki, Rw.z, List.length_nil, Bool.true_and, jaf, jae];exact⟨v3,jaa ⟨by omega,by omega,by omega,jby _,by omega,by omega,by omega,by omega,by omega,by omega,by omega,by omega,by omega,by omega,by omega⟩⟩
    · have:nP (bz s)=(true,⟨0,false,0,0,0,0⟩):=by
        rw[nP,nR,hnil];rfl
      exact hn (by rw[←hb,numQ,hA,e1,hC,nPok,this];rfl)
    have r1:=jat.1 r1;have hz:=jbk r1;have r2:zc d' m'=nR (bz s):=r2;have pr:=ji6 (nR (bz s)) ⟨0,false,0,0,0,0⟩;rw[eP,r3]at pr;simp only at pr;have hm:m'=s.size:=by rw[←hz,r2,hl]
    refine c_t (by rw[g3,jba r1.plain];rfl) fun _=>c_t (by cases decide (pts'≤1) <;>cases decide (dg'≥1) <;>cases decide (dg'≤9) <;>simp) ?_
    have ePok:(decide (pts'≤1) && (decide (dg'≥1) && (decide (dg'≤9) &&bif bh' then !decide (fm'>0)else !false)))=nPok (bz s):=by
      rw[nPok,r3];cases bh'<;>rfl
    rw[ePok];refine Ka (fun hF=>hn (by rw[←hb,numQ,hA,e1,hC];rw[Ks]at hF;rw[hF];rfl)) (fun hF=> ?_);have hF:nPok (bz s)=true:=by simpa using hF
    have gd:∀ps,rlbL ps d'=d':=r1.rlb;have gg:∀ps,jas ps d'=true:=r1.good;have gi:=jba r1.plain;simp only[gd,r2];refine c_t (by rw[gg,gi];rfl) (c_t ?_ (fun lo' hi' h1 h2=>c_t (by rw[gi];rfl) fun _=>c_t (by rw[gg,gi];rfl) (c_t ?_ ?_)))
    · simp only [S134_0, jaf, jae];exact⟨jat.2 r1,by omega,by omega,by omega,jby _,trivial⟩
    · simp only [S134_2, jaf, jae];exact⟨jat.2 r1,by omega,by omega,by omega,jby _,trivial⟩
    have eSt:stP f' lo' hi' (nR (bz s)) 0=nS (bz s):=by rw[nS,e3,jak,h1,h2]
    rw[eSt];refine Ka (fun hG=> ?_) (fun hG _=>c_t (by rw[gi];rfl) fun _=>hn (by rw[←hb,numQ,hA,e1,hC,hF,hG];rfl));refine c_t (by rw[gi];rfl) fun _ cap2 _=>c_t (by rw[g4,gg,gi,g3];rfl) (c_t ?_ (fun n' h3=>c_t (by rw[gi,g3];rfl) fun _=> ?_))
    · simp only [S135_0, jaf, jae];exact⟨jat.2 r1,v3,by omega,by omega,hm,by omega,jby _,by omega,by omega⟩
    have sr:=jmr (bz s) (nR (bz s));rw[jak]at sr;rw[Int.zero_add]at h3;have eN:nG (bz s) false=n':=by rw[nG,h3];exact Int.add_zero _
    refine Ka (fun hH => hn (by rw [← hb, numQ, hA, e1, hC, hF, hG, eN]; have : ¬ n' ≤ 1 := (by have := jab hH; omega); rw[jad this];rfl)) (fun hH=> ?_)
    have hq:numQ (jam (bz s)) false=true:=by
      rw[←hb,numQ,hA,e1,hC,hF,hG,eN];have:n'≤1:=by have:=jac hH;omega
      rw[jaa this];rfl
    have eF:∀x k c,jkr s false x k c=[Value.string s,Value.bool true,Value.int IntKind.i64 w',Value.int IntKind.i64 dg',Value.int IntKind.i64 q',Value.bool (n'==1),Value.slice (some ⟨x,0,some 1⟩) k c,Value.int IntKind.u8 dr',Value.int IntKind.i64 f',Value.bool false,Value.int IntKind.u8 (bif hasZ (bz s) 42 then 42 else 32),Value.int IntKind.i64 fm']:=fun x k c=>by
      rw[jkr,←hb,r3,e2,e3,eN,cond_false,Int.add_zero]
    have hf:=hy hq;simp only[eF,jl1,←hb]at hf;apply Ka<;>intro hI
    all_goals
      rw[hI]at hf;exact hf _ _ _ _ r1 (by rw[r2];simp)
end Go.Px
end
section
namespace Go.Px
open Go Go.Ab Go.Proofs
theorem last_mem{l:O}{c:Int}:jcc l c= -1↔c∉l:=by
 rcases jes c l with⟨e,h⟩ | ⟨i,hi,e,hc,h⟩
 ·refine⟨fun _ hm=> ?_,fun _=>e⟩;obtain⟨j,hj,hv⟩:=List.mem_iff_getElem.1 hm;exact h j hj (by rw[List.getD_eq_getElem?_getD,Kx hj];exact hv)
 ·refine⟨fun q=>by omega,fun q=>absurd ?_ q⟩;rw[List.getD_eq_getElem?_getD,Kx hi]at hc;exact hc▸List.getElem_mem hi
def flg(s:O)(c:Int):Bool:=hasZ [36,83,43,45] c&&decide (2≤cntZ s c)
theorem jiu(s:O)(dr:Int):∀(r:O)(i f l:Int),(df1 s dr r i f l).1=r.all fun c=>c==dr || !flg s c
 | [],_,_,_=>rfl
 | c::r,i,f,l=>by
  rw[df1,List.all_cons];cases h:c==dr with
  | true=>rw[cond_true,jiu s dr r];rfl
  | false=>
   rw[cond_false];have e:(hasZ [36,83,43,45] c&&decide (2≤cntZ s c))=flg s c:=rfl;rw[e];cases flg s c with
   | true=>rfl
   | false=>rw[cond_false,jiu s dr r];rfl
theorem jnd(s:O)(dr:Int):∀(r:O)(i f l:Int),0≤i→(df1 s dr r i f l).1=true→
  (df1 s dr r i f l).2.1=(if f<0 then(if dr∈r then i+idxZ r dr else f)else f)∧(df1 s dr r i f l).2.2=(if dr∈r then i+jcc r dr else l)
 | [],i,f,l,_,_=>by simp[df1]
 | c::r,i,f,l,hi,h=>by
  rw[df1]at h ⊢;have hlr:=last_mem (l:=r) (c:=dr);cases hc:c==dr with
  | true=>
   have hc':c=dr:=eq_of_beq hc;rw[hc,cond_true]at h;rw[cond_true];obtain⟨q1,q2⟩:=jnd s dr r _ _ _ (by omega) h;rw[q1,q2,hc'];have h1:¬(if f<0 then i else f)<0:=by split<;>omega
   rw[Kc h1,Kd (Kh ..),Kd (Kh ..),idxZ,Kd rfl,jcc];refine⟨by split<;>omega,?_⟩;by_cases hm:dr∈r
   ·rw[Kd hm,Kc (fun q=>hlr.1 q hm)];omega
   ·rw[Kc hm,Kd (hlr.2 hm),Kd rfl];omega
  | false=>
   have hc':¬c=dr:=by simpa using hc
   rw[hc,cond_false]at h;rw[cond_false];cases hf:(hasZ [36,83,43,45] c&&decide (2≤cntZ s c))with
   | true=>rw[hf]at h;cases h
   | false=>
    rw[hf,cond_false]at h;rw[cond_false];obtain⟨q1,q2⟩:=jnd s dr r _ _ _ (by omega) h
    have hmm:dr∈c::r↔dr∈r:=by
     rw[Kg];exact⟨fun q=>q.resolve_left fun e=>hc' e.symm,.inr⟩
    rw[q1,q2];simp only[hmm,idxZ,jcc,Kc hc'];by_cases hm:dr∈r
    ·have i1:=jf8 dr hm;rw[Kd hm,Kd hm,Kd hm,Kd hm,Kc (show¬idxZ r dr= -1 by omega),Kc (fun q=>hlr.1 q hm)];exact⟨by split<;>omega,by omega⟩
    ·rw[Kc hm,Kc hm,Kc hm,Kc hm];exact⟨rfl,rfl⟩
theorem d2_app(dr f:Int):∀(x y:O)(i:Int),d2Go dr f (x++y) i=(d2Go dr f x i&&d2Go dr f y (i+x.length))
 | [],y,i=>by simp[d2Go]
 | c::x,y,i=>by
  rw[List.cons_append,d2Go,d2Go,d2_app dr f x y,List.length_cons,Bool.and_assoc,Bool.and_assoc];congr 4;omega
theorem d2_before(dr f:Int):∀(r:O)(i:Int),i+r.length≤f→d2Go dr f r i= !hasZ r 86
 | [],_,_=>rfl
 | c::r,i,h=>by
  rw[List.length_cons]at h;rw[d2Go,d2_before dr f r (i+1) (by omega),jaa (show i<f by omega),jad (show¬i>f by omega)];simp only[hasZ,List.any_cons,Bool.true_and,Bool.false_and,Bool.not_false,Bool.not_or]
theorem d2_after(dr f:Int):∀(r:O)(i:Int),f<i→d2Go dr f r i=drP dr r
 | [],_,_=>rfl
 | c::r,i,h=>by
  rw[d2Go,d2_after dr f r (i+1) (by omega),jad (show¬i<f by omega),jaa (show i>f by omega)];simp only[drP,List.all_cons,Bool.true_and,Bool.false_and,Bool.not_false,Bool.not_and,Bool.not_not,bne];rfl
theorem take_split(b:O){f l:Nat}(h:f≤l):b.take l=b.take f++(b.take l).drop f:=by
 have:=KC f (b.take l);rw[List.take_take,Nat.min_eq_left h]at this;exact this.symm
theorem drop_take_cons(b:O){f l:Nat}(h:f<l)(hb:f<b.length):(b.take l).drop f=b.getD f 0::(b.take l).drop (f+1):=by
 rw[jet (b.take l) f (by rw[Kp];omega)];congr 1;simp only[List.getD_eq_getElem?_getD,List.getElem?_take];rw[Kd h]
theorem idx_get(c:Int):∀{l:O},c∈l→l.getD (idxZ l c).toNat 0=c
 | b::l,h=>by
  simp only[idxZ];by_cases hb:b=c
  ·rw[Kd hb];simpa using hb
  ·rw[Kc hb];have hm:c∈l:=by rcases Kg.1 h with q | q;exact absurd q.symm hb;exact q
   have:=jf8 c hm;rw[Kc (by omega),show(idxZ l c+1).toNat=(idxZ l c).toNat+1 by omega,List.getD_cons_succ];exact idx_get c hm
theorem last_get(c:Int){l:O}(h:c∈l):l.getD (jcc l c).toNat 0=c:=by
 rcases jes c l with⟨e,_⟩ | ⟨i,hi,e,hc,_⟩
 ·exact absurd h (last_mem.1 e)
 ·rw[e];exact hc
theorem take_snoc(b:O){l:Nat}(h:l<b.length):b.take (l+1)=b.take l++ [b.getD l 0]:=by
 rw[List.take_add_one,List.getD_eq_getElem?_getD,Kx h];rfl
theorem d2_drC{b:O}{c:Int}(h:c∈b):d2Go c (idxZ b c) (b.take (jcc b c).toNat) 0=drC b c:=by
 have i1:=jf8 c h;have i2:=jju c h;have i3:=jjq b c;have g1:=idx_get c h;have g2:=last_get c h;obtain⟨f,hf⟩:∃f:Nat,idxZ b c=f:=⟨(idxZ b c).toNat,by omega⟩
 obtain⟨l,hl⟩:∃l:Nat,jcc b c=l:=⟨(jcc b c).toNat,by omega⟩
 unfold drC;rw[hf]at i1 i2 g1;rw[hl]at i2 i3 g2;rw[hf,hl];rw[Int.toNat_natCast]at g1 g2 ⊢;rw[Int.toNat_natCast];rw[show((l:Int)+1).toNat=l+1 by omega,take_snoc b (by omega),g2,List.drop_append_of_le_length (by rw[Kp];omega)];rw[take_split b (show f≤l by omega),d2_app,d2_before _ _ _ _ (by rw[Kp];omega)];congr 1
 ·rw[←take_split b (show f≤l by omega)];rw[Kp,Nat.min_eq_left (by omega)]
  have hs:drP c ((b.take l).drop f++ [c])=drP c ((b.take l).drop f):=by
   simp[drP]
  rw[hs];by_cases hfl:f<l
  ·rw[drop_take_cons b hfl (by omega),g1,d2Go,d2_after _ _ _ _ (by omega)];simp[drP]
  ·rw[KD (by rw[Kp];omega)];rfl
theorem jj4{b:O}{d f:Int}:∀{cs:O},(∀c∈cs,(cntZ b c:Int)<2)→jfc cs b d f=(true,d,f)
 | [],_=>rfl
 | c::cs,h=>by
  rw[jfc,jaa (h c (Kh ..)),cond_true];exact jj4 fun x hx=>h x (Kj _ hx)
theorem drf_many{b:O}{d f:Int}(hd:d≠0):∀{cs:O},(∃c∈cs,¬(cntZ b c:Int)<2)→(jfc cs b d f).1=false
 | c::cs,h=>by
  rw[jfc];cases hc:decide ((cntZ b c:Int)<2)with
  | true=>
   rw[cond_true];refine drf_many hd ?_;obtain⟨x,hx,hxc⟩:=h;rcases Kg.1 hx with rfl | hx
   ·exact absurd (jab hc) hxc
   ·exact⟨x,hx,hxc⟩
  | false=>
   rw[cond_false];have:(d !=0)=true:=by simpa using hd
   rw[this];rfl
 | [],⟨_,h,_⟩=>by cases h
theorem drf_two{b:O}{d f:Int}:∀{cs:O}{c1 c2:Int},(∀c∈cs,c≠0)→c1∈cs→c2∈cs→c1≠c2→ ¬(cntZ b c1:Int)<2→ ¬(cntZ b c2:Int)<2→(jfc cs b d f).1=false
 | c::cs,c1,c2,h0,m1,m2,hne,h1,h2=>by
  rw[jfc];cases hc:decide ((cntZ b c:Int)<2)with
  | true=>
   have hc:=jab hc;rw[cond_true];refine drf_two (fun x hx=>h0 x (Kj _ hx)) ?_ ?_ hne h1 h2
   ·rcases Kg.1 m1 with rfl | q
    ·exact absurd hc h1
    ·exact q
   ·rcases Kg.1 m2 with rfl | q
    ·exact absurd hc h2
    ·exact q
  | false=>
   rw[cond_false];cases d !=0 with
   | true=>rfl
   | false=>
    rw[cond_false];cases drC b c with
    | false=>rfl
    | true=>
     rw[cond_true];refine drf_many (h0 c (Kh ..)) ?_;by_cases e:c1=c
     ·rcases Kg.1 m2 with q | q
      ·exact absurd (e.trans q.symm) hne
      ·exact⟨c2,q,h2⟩
     ·rcases Kg.1 m1 with q | q
      ·exact absurd q e
      ·exact⟨c1,q,h1⟩
theorem drf_one{b:O}{f:Int}:∀{cs:O}{c:Int},cs.Nodup→c∈cs→ ¬(cntZ b c:Int)<2→(∀x∈cs,x≠c→(cntZ b x:Int)<2)→jfc cs b 0 f=bif drC b c then(true,c,idxZ b c)else(false,0,0)
 | x::cs,c,hn,hm,h1,h2=>by
  have hn':=List.nodup_cons.1 hn;rw[jfc];by_cases e:x=c
  ·subst e;rw[jad h1,cond_false];have:((0:Int) !=0)=false:=rfl;rw[this,cond_false];cases drC b x with
   | false=>rfl
   | true=>
    rw[cond_true,cond_true];exact jj4 fun y hy=>h2 y (Kj _ hy) fun q=>hn'.1 (q▸hy)
  ·rw[jaa (h2 x (Kh ..) e),cond_true];exact drf_one hn'.2 (by rcases Kg.1 hm with q | q;exact absurd q.symm e;exact q) h1 fun y hy=>h2 y (Kj _ hy)
theorem jgv(s:O):∀r:O,drGo s r=0∨(flg s (drGo s r)=true∧drGo s r∈r)
 | []=> .inl rfl
 | c::r=>by
  rw[drGo];split
  ·rename_i h;exact .inr ⟨by simp only[flg,jaf,jae];exact h,Kh ..⟩
  ·rcases jgv s r with h | ⟨h1,h2⟩
   ·exact .inl h
   ·exact .inr ⟨h1,Kj _ h2⟩
theorem jli(s:O){c:Int}(hf:flg s c=true):∀r:O,c∈r→drGo s r≠0
 | x::r,h=>by
  rw[drGo];split
  ·rename_i h;have:hasZ [36,83,43,45] x=true:=h.1;rw[has_dr]at this;omega
  ·rename_i hx;rcases Kg.1 h with rfl | h
   ·simp only[flg,jaf,jae]at hf;exact absurd hf hx
   ·exact jli s hf r h
theorem jle{s:O}{c:Int}(h:c∈ [36,83,43,45]):flg s c=true↔ ¬(cntZ s c:Int)<2:=by
 simp only[flg,jaf,jae,jbj];exact⟨fun q=>by omega,fun q=>⟨h,by omega⟩⟩
theorem jg6{s:O}{c:Int}(h:flg s c=true):c∈ [36,83,43,45]∧ ¬(cntZ s c:Int)<2:=by
 simp only[flg,jaf,jae,jbj]at h;exact⟨h.1,by omega⟩
theorem nD_law(b:O):(nD b).1=jct b∧(jct b=true→(nD b).2.1=drZ b∧(nD b).2.2=if drZ b=0 then -1 else idxZ b (drZ b)):=by
 have h4:∀c∈ [36,83,43,(45:Int)],c≠0:=by decide
 by_cases hd:drZ b=0
 ·have hn:nD b=(true,0,-1):=jj4 fun c hc=>by
   cases hq:decide ((cntZ b c:Int)<2)with
   | true=>exact jab hq
   | false=>
    have hf:=(jle hc).2 (jac hq);exact absurd hd (jli b hf b (jj9 (jg6 hf).2))
  have hz:jct b=true:=by rw[jct,hd];rfl
  rw[hn,hz,hd];exact⟨rfl,fun _=>⟨rfl,rfl⟩⟩
 ·obtain⟨hf,hm⟩:=(jgv b b).resolve_left hd;have hf:flg b (drZ b)=true:=hf;have hm:drZ b∈b:=hm;obtain⟨m1,m2⟩:=jg6 hf
  have hz:jct b=((df1 b (drZ b) b 0 (-1) (-1)).1&&d2Go (drZ b) (df1 b (drZ b) b 0 (-1) (-1)).2.1 (b.take (df1 b (drZ b) b 0 (-1) (-1)).2.2.toNat) 0):=by
   have:(drZ b==0)=false:=by simpa using hd
   rw[jct,this,Bool.false_or]
  by_cases ho:∃x∈ [36,83,43,(45:Int)],x≠drZ b∧ ¬(cntZ b x:Int)<2
  ·obtain⟨x,x1,x2,x3⟩:=ho;have e1:(nD b).1=false:=drf_two h4 x1 m1 x2 x3 m2
   have e2:(df1 b (drZ b) b 0 (-1) (-1)).1=false:=by
    rw[jiu,List.all_eq_false];refine⟨x,jj9 x3,?_⟩;rw[(jle x1).2 x3];simpa using x2
   rw[hz,e1,e2];exact⟨rfl,fun q=>by cases q⟩
  ·have ho:∀x∈ [36,83,43,(45:Int)],x≠drZ b→(cntZ b x:Int)<2:=fun x x1 x2=>by
    cases hq:decide ((cntZ b x:Int)<2)with
    | true=>exact jab hq
    | false=>exact absurd ⟨x,x1,x2,jac hq⟩ ho
   have e1:nD b=bif drC b (drZ b)then(true,drZ b,idxZ b (drZ b))else(false,0,0):=drf_one (by decide) m1 m2 ho
   have e2:(df1 b (drZ b) b 0 (-1) (-1)).1=true:=by
    rw[jiu,Kf];intro x _;by_cases q:x=drZ b
    ·rw[q];simp
    ·have:flg b x=false:=by
      cases hh:flg b x with
      | false=>rfl
      | true=>obtain⟨a1,a2⟩:=jg6 hh;exact absurd (ho x a1 q) a2
     rw[this];simp
   obtain⟨q1,q2⟩:=jnd b (drZ b) b 0 (-1) (-1) (by omega) e2;rw[Kd (by omega),Kd hm,Int.zero_add]at q1;rw[Kd hm,Int.zero_add]at q2;rw[hz,e1,e2,q1,q2,d2_drC hm,Bool.true_and];cases drC b (drZ b)with
   | false=>exact⟨rfl,fun q=>by cases q⟩
   | true=>exact⟨rfl,fun _=>⟨rfl,by rw[Kc hd];rfl⟩⟩
def rmk(r:Int):Int:=[100,99,118,105,115,109].getD r.toNat 0
theorem ro_rng(d f c i:Int):0≤roP d f c i∧roP d f c i≤5:=by
 unfold roP;cases hasZ [57,89,84,73,82] c<;>cases(c==90 || (c==42 || (c==d&&i !=f))) <;>cases c==86<;>cases c==36<;>cases(c==83 || (c==43 || c==45)) <;>simp
theorem idx_app(d:Int):∀x y:O,idxZ (x++y) d=if d∈x then idxZ x d else if d∈y then x.length+idxZ y d else -1
 | [],y=>by
  simp only[List.nil_append,List.not_mem_nil,if_false,List.length_nil];split
  ·omega
  ·rename_i h;have h:¬0≤idxZ y d:=fun q=>h ((jg5 d y).2.1 q)
   have:=(jg5 d y).1;omega
 | c::x,y=>by
  have ih:=idx_app d x y;rw[List.cons_append,idxZ,idxZ];by_cases hc:c=d
  ·rw[Kd hc,Kd hc,Kd (by rw[hc];exact Kh ..)]
  ·rw[Kc hc,Kc hc,ih]
   have hm:d∈c::x↔d∈x:=by
    rw[Kg];exact⟨fun q=>q.resolve_left fun e=>hc e.symm,.inr⟩
   simp only[hm];by_cases hx:d∈x
   ·rw[Kd hx,Kd hx]
   ·rw[Kc hx,Kc hx];by_cases hy:d∈y
    ·have:=jf8 d hy;rw[Kd hy,Kd hy,Kc (by omega)];simp only[List.length_cons];omega
    ·rw[Kc hy,Kc hy,Kd rfl]
structure DrP (b:O)(d f:Int):Prop where
 zero:∀c∈b,c≠0
 at_:d=0∧f= -1∨d≠0∧d∈b∧f=idxZ b d∧d∈ [36,83,43,(45:Int)]
theorem DrP.eq{b pre r:O}{c d f:Int}(h:DrP b d f)(hb:b=pre++c::r):(c=d∧(pre.length:Int)≠f↔c=d∧d≠0∧d∈pre)∧((pre.length:Int)=f↔c=d∧d∉pre):=by
 have hc0:=h.zero c (by rw[hb];simp);rcases h.at_ with⟨rfl,rfl⟩ | ⟨h1,h2,h3,_⟩
 ·exact⟨⟨fun q=>absurd q.1 hc0,fun q=>absurd q.1 hc0⟩,⟨fun q=>by omega,fun q=>absurd q.1 hc0⟩⟩
 ·rw[hb,idx_app]at h3;by_cases hp:d∈pre
  ·rw[Kd hp]at h3;have:=jf8 d hp;exact⟨⟨fun q=>⟨q.1,h1,hp⟩,fun q=>⟨q.1,by omega⟩⟩,⟨fun q=>by omega,fun q=>absurd hp q.2⟩⟩
  ·rw[Kc hp]at h3;rw[hb]at h2;have hd:d∈c::r:=by rcases Kq.1 h2 with q | q;exact absurd q hp;exact q
   rw[Kd hd,idxZ]at h3;by_cases hc:c=d
   ·rw[Kd hc]at h3;exact⟨⟨fun q=>absurd h3 (by omega),fun q=>absurd q.2.2 hp⟩,⟨fun _=>⟨hc,hp⟩,fun _=>by omega⟩⟩
   ·rw[Kc hc]at h3;have hr:d∈r:=by rcases Kg.1 hd with q | q;exact absurd q.symm hc;exact q
    have:=jf8 d hr;rw[Kc (by omega)]at h3;exact⟨⟨fun q=>absurd q.1 hc,fun q=>absurd q.1 hc⟩,⟨fun q=>by omega,fun q=>absurd q.1 hc⟩⟩
theorem mk_ro{b pre r:O}{c d f:Int}(h:DrP b d f)(hb:b=pre++c::r):rmk (roP d f c pre.length)=mk1 d (d !=0&&decide (d∈pre)) c:=by
 have e:(c==90 || (c==42 || (c==d&& (pre.length:Int) !=f)))=(hasZ [90,42] c || (d !=0&& (c==d&& (d !=0&&decide (d∈pre))))):=by
  have:=(h.eq hb).1;rw[Kl];simp only[Ko,jaf,K4,KM,jae,jbj,Kg,List.not_mem_nil,or_false];rw[this];constructor
  ·rintro (q | q | ⟨q1,q2,q3⟩)
   ·exact .inl (.inl q)
   ·exact .inl (.inr q)
   ·exact .inr ⟨q2,q1,q2,q3⟩
  ·rintro ((q | q) | ⟨q2,q1,_,q3⟩)
   ·exact .inl q
   ·exact .inr (.inl q)
   ·exact .inr (.inr ⟨q1,q2,q3⟩)
 have e2:(c==83 || (c==43 || c==45))=hasZ [83,43,45] c:=by
  rw[Kl];simp only[Ko,K4,jbj,Kg,List.not_mem_nil,or_false]
 unfold roP mk1;rw[e,e2];cases hasZ [57,89,84,73,82] c<;>cases(hasZ [90,42] c || (d !=0&& (c==d&& (d !=0&&decide (d∈pre))))) <;>cases c==86<;>cases c==36<;>cases hasZ [83,43,45] c<;>rfl
theorem roles_marks{b:O}{d f:Int}(h:DrP b d f):∀r pre:O,b=pre++r→(jbl d f r pre.length).map rmk=mkGo d (d !=0&&decide (d∈pre)) r
 | [],_,_=>rfl
 | c::r,pre,hb=>by
  rw[jbl,List.map_cons,mkGo,mk_ro h hb];congr 1;have ih:=roles_marks h r (pre++ [c]) (by rw[hb];simp);have e:((pre++ [c]).length:Int)=pre.length+1:=by simp
  have e2:(d !=0&&decide (d∈pre++ [c]))=(d !=0&&decide (d∈pre) || (d !=0&&c==d)):=by
   rw[Kl];simp only[Ko,jaf,K4,KM,jae,Kq,Kg,List.not_mem_nil,or_false];constructor
   ·rintro ⟨q,q2 | q2⟩
    ·exact .inl ⟨q,q2⟩
    ·exact .inr ⟨q,q2.symm⟩
   ·rintro (⟨q,q2⟩ | ⟨q,q2⟩)
    ·exact⟨q,.inl q2⟩
    ·exact⟨q,.inr q2.symm⟩
  rw[e,e2]at ih;exact ih
def okR(rs:O):Prop:=∀r∈rs,0≤r∧r≤5
theorem roles_ok(d f:Int):∀(l:O)(i:Int),okR (jbl d f l i)
 | [],_=>fun r h=>by cases h
 | c::l,i=>fun r h=>by
  rw[jbl]at h;rcases Kg.1 h with rfl | h
  ·exact ro_rng _ _ _ _
  ·exact roles_ok d f l _ r h
theorem jc8{r:Int}(h:0≤r∧r≤5):r=0∨r=1∨r=2∨r=3∨r=4∨r=5:=by omega
def qgo:O→Int→Int
 | [],_=>0
 | m::r,p=>bif m==118 then qgo r (p+1)else(bif isP m then p else 0)+qgo r p
theorem jmv:∀(rs:O)(a:PlS),okR rs→0≤a.pts→0≤a.fm→
  (plGo rs a).1=(ldGo (rs.map rmk) (decide (a.fm>0)) a.bh (decide (a.pts>0)) a.dg).1∧
  ((plGo rs a).1 = true → (plGo rs a).2.dg = (ldGo (rs.map rmk) (decide (a.fm>0)) a.bh (decide (a.pts>0)) a.dg).2.2.2 ∧ (plGo rs a).2.bh = (ldGo (rs.map rmk) (decide (a.fm>0)) a.bh (decide (a.pts>0)) a.dg).2.2.1 ∧
   decide ((plGo rs a).2.fm>0)=(ldGo (rs.map rmk) (decide (a.fm>0)) a.bh (decide (a.pts>0)) a.dg).2.1∧(plGo rs a).2.pts=a.pts+cntZ (rs.map rmk) 118∧(plGo rs a).2.w=a.w+nv (rs.map rmk)∧
   (plGo rs a).2.q=a.q+qgo (rs.map rmk) a.pts∧(plGo rs a).2.fm=a.fm+cntZ (rs.map rmk) 100)
 | [],a,_,_,_=>by simp[plGo,ldGo,cntZ,nv,qgo]
 | r::rs,a,hok,hp,hf=>by
  have hr:=hok r (Kh ..);have hrs:okR rs:=fun x hx=>hok x (Kj _ hx)
  have i1:=jmv rs ⟨a.pts+1,a.bh,a.w,a.dg,a.q,a.fm⟩ hrs (by simp only;omega) hf;have i2:=jmv rs ⟨a.pts,a.bh,a.w+1,a.dg+1,a.q+a.pts,a.fm+1⟩ hrs hp (by simp only;omega);have i3:=jmv rs ⟨a.pts,a.bh || decide (a.pts>0),a.w+1,a.dg+1,a.q+a.pts,a.fm⟩ hrs hp hf;have i4:=jmv rs ⟨a.pts,a.bh,a.w+1,a.dg,a.q,a.fm⟩ hrs hp hf
  have cc:∀(m x:Int),(cntZ (m::rs.map rmk) x:Int)=(if m=x then 1 else 0)+cntZ (rs.map rmk) x:=fun m x=>by
   unfold cntZ;rw[List.filter_cons];by_cases h:m=x
   ·rw[Kd (by simpa using h),Kd h,List.length_cons];omega
   ·rw[Kc (by simpa using h),Kc h];omega
  have cn:∀m:Int,(nv (m::rs.map rmk):Int)=(if m=118 then 0 else 1)+nv (rs.map rmk):=fun m=>by
   rw[je1];split<;>omega
  rw[List.map_cons,cc,cc,cn];rcases jc8 hr with rfl | rfl | rfl | rfl | rfl | rfl
  ·have e:rmk 0=100:=rfl;rw[e];simp only[jaa (show a.fm+1>0 by omega)]at i2;refine⟨i2.1,fun h=> ?_⟩;obtain⟨q1,q2,q3,q4,q5,q6,q7⟩:=i2.2 h;refine⟨q1,q2,q3,?_,?_,?_,?_⟩
   ·exact q4.trans (by simp)
   ·exact q5.trans (by simp;omega)
   ·refine q6.trans ?_;show a.q+a.pts+qgo (rs.map rmk) a.pts=a.q+(a.pts+qgo (rs.map rmk) a.pts)
    omega
   ·exact q7.trans (by simp;omega)
  ·have e:rmk 1=99:=rfl;rw[e];have e1:plGo (1::rs) a=bif decide (a.fm>0)then(false,a)else plGo rs ⟨a.pts,a.bh || decide (a.pts>0),a.w+1,a.dg+1,a.q+a.pts,a.fm⟩:=rfl;have e2:ldGo (99::rs.map rmk) (decide (a.fm>0)) a.bh (decide (a.pts>0)) a.dg=bif decide (a.fm>0)then(false,false,false,0)else ldGo (rs.map rmk) (decide (a.fm>0)) (a.bh || decide (a.pts>0)) (decide (a.pts>0)) (a.dg+1):=rfl;rw[e1,e2];cases hd:decide (a.fm>0)with
   | true=>exact⟨rfl,fun h=>by cases h⟩
   | false=>
    simp only[hd]at i3;refine⟨i3.1,fun h=> ?_⟩;obtain⟨q1,q2,q3,q4,q5,q6,q7⟩:=i3.2 h;refine⟨q1,q2,q3,?_,?_,?_,?_⟩
    ·exact q4.trans (by simp)
    ·exact q5.trans (by simp;omega)
    ·refine q6.trans ?_;show a.q+a.pts+qgo (rs.map rmk) a.pts=a.q+(a.pts+qgo (rs.map rmk) a.pts)
     omega
    ·exact q7.trans (by simp)
  ·have e:rmk 2=118:=rfl;rw[e];simp only[jaa (show a.pts+1>0 by omega)]at i1;refine⟨i1.1,fun h=> ?_⟩;obtain⟨q1,q2,q3,q4,q5,q6,q7⟩:=i1.2 h;refine⟨q1,q2,q3,?_,?_,q6,?_⟩
   ·exact q4.trans (by simp;omega)
   ·exact q5.trans (by simp)
   ·exact q7.trans (by simp)
  all_goals
   refine⟨i4.1,fun h=> ?_⟩;obtain⟨q1,q2,q3,q4,q5,q6,q7⟩:=i4.2 h;refine⟨q1,q2,q3,?_,?_,?_,?_⟩
   ·exact q4.trans (by simp[rmk])
   ·exact q5.trans (by simp[rmk];omega)
   ·refine q6.trans ?_;show a.q+qgo (rs.map rmk) a.pts=a.q+(0+qgo (rs.map rmk) a.pts)
    omega
   ·exact q7.trans (by simp[rmk])
theorem ro_isJ{b pre r:O}{c d f:Int}(h:DrP b d f)(hb:b=pre++c::r):(rmk (roP d f c pre.length)==100 || (rmk (roP d f c pre.length)==99 || c==d))=(roP d f c pre.length==0 || (roP d f c pre.length==1 || (pre.length:Int)==f)):=by
 obtain⟨h1,h2⟩:=h.eq hb;have hr:=ro_rng d f c pre.length
 have e100:(rmk (roP d f c pre.length)==100)=(roP d f c pre.length==0):=by
  rcases jc8 hr with q | q | q | q | q | q<;>rw[q] <;>rfl
 have e99:(rmk (roP d f c pre.length)==99)=(roP d f c pre.length==1):=by
  rcases jc8 hr with q | q | q | q | q | q<;>rw[q] <;>rfl
 rw[e100,e99];by_cases hf:(pre.length:Int)=f
 ·obtain⟨q1,_⟩:=h2.1 hf;have a1:((pre.length:Int)==f)=true:=by simpa using hf
  have a2:(c==d)=true:=by simpa using q1
  rw[a1,a2]
 ·have a1:((pre.length:Int)==f)=false:=by simpa using hf
  rw[a1];by_cases hc:c=d
  ·-- then a leader
   by_cases h0:(roP d f c pre.length==0)=true
   ·rw[h0];rfl
   ·have hl:roP d f c pre.length=1:=by
     have e:(c==90 || (c==42 || (c==d&& (pre.length:Int) !=f)))=true:=by
      have a3:((pre.length:Int) !=f)=true:=by simpa using hf
      have a2:(c==d)=true:=by simpa using hc
      rw[a2,a3];simp
     unfold roP at h0 ⊢;rw[e]at h0 ⊢;cases hq:hasZ [57,89,84,73,82] c with
     | true=>rw[hq]at h0;exact absurd rfl h0
     | false=>rfl
    rw[hl];simp
  ·have a2:(c==d)=false:=by simpa using hc
   rw[a2]
theorem st_in{b:O}{d f x:Int}(h:DrP b d f):∀(r pre:O)(lo hi:Int),b=pre++r→
  stIn d x r ((jbl d f r pre.length).map rmk) pre.length (decide (lo<x)) (decide (hi>x))=(decide (loGo f (jbl d f r pre.length) pre.length lo<x),decide (hiGo f (jbl d f r pre.length) pre.length hi>x))
 | [],pre,lo,hi,_=>by simp[stIn,jbl,loGo,hiGo]
 | c::r,pre,lo,hi,hb=>by
  have ih:=fun lo hi=>st_in (x:=x) h r (pre++ [c]) lo hi (by rw[hb];simp)
  have e:((pre++ [c]).length:Int)=pre.length+1:=by simp
  rw[e]at ih;rw[jbl,List.map_cons,stIn,loGo,hiGo,ro_isJ h hb];cases(roP d f c pre.length==0 || (roP d f c pre.length==1 || (pre.length:Int)==f))with
  | false=>rw[cond_false,cond_false,cond_false,ih]
  | true=>
   rw[cond_true,cond_true,cond_true,←ih]
   have e1:(decide (lo<x) || decide ((pre.length:Int)<x))=decide (imin lo pre.length<x):=by
    rw[Kl];simp only[Ko,jae];unfold imin;split<;>omega
   have e2:(decide (hi>x) || decide ((pre.length:Int)>x))=decide (imax hi pre.length>x):=by
    rw[Kl];simp only[Ko,jae];unfold imax;split<;>omega
   rw[e1,e2]
theorem ro_still{b pre r:O}{c d f:Int}(h:DrP b d f)(hb:b=pre++c::r):((roP d f c pre.length==4 || roP d f c pre.length==5) && (pre.length:Int) !=f)=(hasZ [36,83,43,45] c&& !(c==d)):=by
 obtain⟨h1,h2⟩:=h.eq hb;by_cases hc:c=d
 ·have a2:(c==d)=true:=by simpa using hc
  rw[a2,Bool.not_true,Bool.and_false];by_cases hf:(pre.length:Int)=f
  ·have a1:((pre.length:Int) !=f)=false:=by simpa using hf
   rw[a1,Bool.and_false]
  ·have a3:((pre.length:Int) !=f)=true:=by simpa using hf
   have e:(c==90 || (c==42 || (c==d&& (pre.length:Int) !=f)))=true:=by rw[a2,a3];simp
   unfold roP;rw[e];cases hasZ [57,89,84,73,82] c<;>rfl
 ·have a2:(c==d)=false:=by simpa using hc
  have hf:¬(pre.length:Int)=f:=fun q=>hc (h2.1 q).1
  have a3:((pre.length:Int) !=f)=true:=by simpa using hf
  rw[a2,a3,Bool.and_true,Bool.not_false,Bool.and_true];have e:(c==90 || (c==42 || (c==d&& (pre.length:Int) !=f)))=(c==90 || c==42):=by rw[a2];simp
  unfold roP;rw[e];by_cases m:c∈ [36,83,43,(45:Int)]
  ·have:c=36∨c=83∨c=43∨c=45:=by simpa using m
   rcases this with rfl | rfl | rfl | rfl<;>rfl
  ·have hm:hasZ [36,83,43,45] c=false:=by
    cases q:hasZ [36,83,43,45] c with
    | false=>rfl
    | true=>exact absurd (jbj.1 q) m
   rw[hm];simp only[Kg,List.not_mem_nil,or_false,not_or]at m;have b1:(c==36)=false:=by simpa using m.1
   have b2:(c==83 || (c==43 || c==45))=false:=by simp[m.2.1,m.2.2.1,m.2.2.2]
   rw[b1,b2];cases hasZ [57,89,84,73,82] c<;>cases(c==90 || c==42) <;>cases c==86<;>rfl
theorem st_law{b ms:O}{d f lo hi:Int}(h:DrP b d f)(hin:∀x:Int,0≤x→x≤b.length→stIn d x b ms 0 false false=(decide (lo<x),decide (hi>x))):∀(r pre:O),b=pre++r→
  stP f lo hi (jbl d f r pre.length) pre.length=stGo d b ms r pre.length
 | [],_,_=>rfl
 | c::r,pre,hb=>by
  have ih:=st_law h hin r (pre++ [c]) (by rw[hb];simp);have e:((pre++ [c]).length:Int)=pre.length+1:=by simp
  rw[e]at ih;have hl:(b.length:Int)=pre.length+1+r.length:=by rw[hb];simp;omega
  rw[jbl,stP,stGo,ih,hin _ (by omega) (by omega)];congr 1;have s:=ro_still h hb
  have e3:((roP d f c pre.length==4 || roP d f c pre.length==5) && ((pre.length:Int) !=f&& (decide ((pre.length:Int)>lo) &&decide ((pre.length:Int)<hi))))=(((roP d f c pre.length==4 || roP d f c pre.length==5) && (pre.length:Int) !=f) && (decide (lo<(pre.length:Int)) &&decide (hi>(pre.length:Int)))):=by
   rw[Bool.and_assoc]
  rw[e3,s];cases hasZ [36,83,43,45] c<;>cases(c==d) <;>rfl
theorem jdn(c x:Int)(l:O):(cntZ (c::l) x:Int)=(if c=x then 1 else 0)+cntZ l x:=by
 unfold cntZ;rw[List.filter_cons];by_cases h:c=x
 ·rw[Kd (by simpa using h),Kd h,List.length_cons];omega
 ·rw[Kc (by simpa using h),Kc h];omega
theorem jhs(c x:Int)(l:O):hasZ (c::l) x=(c==x || hasZ l x):=rfl
def sgX(d x:Int)(pre r:O):Int:=if x=d then(if d∈pre then 0 else b2i (hasZ r x))else cntZ r x
theorem jjj{d x c:Int}{pre r:O}:sgX d x pre (c::r)=(if c=x∧ ¬(x=d∧d∈pre)then 1 else 0)+sgX d x (pre++ [c]) r:=by
 unfold sgX;by_cases hx:x=d
 ·rw[Kd hx,Kd hx];by_cases hp:d∈pre
  ·have hp2:d∈pre++ [c]:=Kq.2 (.inl hp);rw[Kd hp,Kd hp2,Kc (fun q=>q.2 ⟨hx,hp⟩)];rfl
  ·rw[Kc hp,jhs];by_cases hc:c=x
   ·have hp2:d∈pre++ [c]:=Kq.2 (.inr (by rw[hc,hx];exact List.mem_singleton.2 rfl));rw[Kd ⟨hc,fun q=>hp q.2⟩,Kd hp2];have:(c==x)=true:=by simpa using hc
    rw[this];rfl
   ·have:(c==x)=false:=by simpa using hc
    have hp2:d∉pre++ [c]:=fun q=>by
     rcases Kq.1 q with q | q
     ·exact hp q
     ·exact hc (by rw[hx];exact(List.mem_singleton.1 q).symm)
    rw[Kc (fun q=>hc q.1),Kc hp2,this,Bool.false_or];omega
 ·rw[Kc hx,Kc hx,jdn];by_cases hc:c=x
  ·rw[Kd hc,Kd ⟨hc,fun q=>hx q.1⟩]
  ·rw[Kc hc,Kc (fun q=>hc q.1)]
theorem si_law{b:O}{d f:Int}(h:DrP b d f):∀(r pre:O),b=pre++r→
  siGo r (jbl d f r pre.length)=sgX d 83 pre r+sgX d 43 pre r+sgX d 45 pre r+cntZ r 84+cntZ r 73+cntZ r 82
 | [],pre,_=>by
  have:∀x,sgX d x pre []=0:=fun x=>by unfold sgX;split<;>(try split) <;>rfl
  rw[this,this,this];rfl
 | c::r,pre,hb=>by
  have ih:=si_law h r (pre++ [c]) (by rw[hb];simp);have e:((pre++ [c]).length:Int)=pre.length+1:=by simp
  rw[e]at ih;rw[jbl,siGo,ih,jjj,jjj,jjj,jdn,jdn,jdn]
  have key:(bif roP d f c pre.length==4 || hasZ [84,73,82] c then(1:Int)else 0)=(if c=83∧ ¬((83:Int)=d∧d∈pre)then 1 else 0)+(if c=43∧ ¬((43:Int)=d∧d∈pre)then 1 else 0)+(if c=45∧ ¬((45:Int)=d∧d∈pre)then 1 else 0)+(if c=84 then 1 else 0)+(if c=73 then 1 else 0)+(if c=82 then 1 else 0):=by
   obtain⟨h1,h2⟩:=h.eq hb;by_cases m:c=83∨c=43∨c=45
   ·-- a sign
    have hc0:c≠0:=by omega
    have hl:(c=d∧(pre.length:Int)≠f)↔(c=d∧d∈pre):=by
     rw[h1];exact⟨fun q=>⟨q.1,q.2.2⟩,fun q=>⟨q.1,by rw[←q.1];exact hc0,q.2⟩⟩
    by_cases hs:c=d∧d∈pre
    ·have hq:=hl.2 hs;have e1:(c==d&& (pre.length:Int) !=f)=true:=by simpa using hq
     have hr:roP d f c pre.length=1:=by
      unfold roP;rw[e1];rcases m with rfl | rfl | rfl<;>simp<;>rfl
     rw[hr];rcases m with rfl | rfl | rfl
     ·rw[Kc (fun q=>q.2 hs)];rfl
     ·rw[Kc (fun q=>by omega),Kc (fun q=>q.2 hs)];rfl
     ·rw[Kc (fun q=>by omega),Kc (fun q=>by omega),Kc (fun q=>q.2 hs)];rfl
    ·have hq:¬(c=d∧(pre.length:Int)≠f):=fun q=>hs (hl.1 q)
     have e1:(c==d&& (pre.length:Int) !=f)=false:=by
      cases q:(c==d&& (pre.length:Int) !=f)with
      | false=>rfl
      | true=>exact absurd (by simpa using q) hq
     have hr:roP d f c pre.length=4:=by
      unfold roP;rw[e1];rcases m with rfl | rfl | rfl<;>rfl
     rw[hr];rcases m with rfl | rfl | rfl
     ·rw[Kd ⟨rfl,hs⟩];rfl
     ·rw[Kc (fun q=>by omega),Kd ⟨rfl,hs⟩];rfl
     ·rw[Kc (fun q=>by omega),Kc (fun q=>by omega),Kd ⟨rfl,hs⟩];rfl
   ·have hr:(roP d f c pre.length==4)=false:=by
     have e2:(c==83 || (c==43 || c==45))=false:=by simp;omega
     unfold roP;rw[e2];cases hasZ [57,89,84,73,82] c<;>cases(c==90 || (c==42 || (c==d&& (pre.length:Int) !=f))) <;>cases c==86<;>cases c==36<;>rfl
    rw[hr,Bool.false_or,Kc (fun q=>by omega),Kc (fun q=>by omega),Kc (fun q=>by omega)];by_cases k:c=84∨c=73∨c=82
    ·rcases k with rfl | rfl | rfl<;>rfl
    ·have:hasZ [84,73,82] c=false:=by
      cases q:hasZ [84,73,82] c with
      | false=>rfl
      | true=>rw[jbj]at q;simp at q;omega
     rw[this,Kc (by omega),Kc (by omega),Kc (by omega)];rfl
  rw[key];omega
theorem cnt_app'(a b:O)(c:Int):(cntZ (a++b) c:Int)=cntZ a c+cntZ b c:=by rw[jln];omega
theorem mk_118{dr:Int}(hd:dr=0∨hasZ [36,83,43,45] dr=true):∀(l:O)(seen:Bool),(cntZ (mkGo dr seen l) 118:Int)=cntZ l 86
 | [],_=>rfl
 | c::r,seen=>by
  have hm:=jl3 hd seen c;rw[mkGo,jdn,jdn,mk_118 hd r];by_cases h:c=86
  ·rw[Kd h,Kd (hm.2 h)]
  ·rw[Kc h,Kc fun e=>h (hm.1 e)]
theorem has_cnt{l:O}{c:Int}(h:(cntZ l c:Int)≤1):(cntZ l c:Int)=b2i (hasZ l c):=by
 induction l with
 | nil=>rfl
 | cons x l ih=>
  rw[jdn]at h ⊢;rw[jhs];by_cases hx:x=c
  ·have:(x==c)=true:=by simpa using hx
   rw[Kd hx]at h ⊢;rw[this,Bool.true_or];have:(cntZ l c:Int)=0:=by omega
   rw[this];rfl
  ·have:(x==c)=false:=by simpa using hx
   rw[Kc hx]at h ⊢;rw[this,Bool.false_or,Int.zero_add];exact ih (by omega)
theorem q_law{dr:Int}(hd:dr=0∨hasZ [36,83,43,45] dr=true){l t:O}:∀(r pre:O)(seen:Bool),l=pre++r++t→(cntZ (pre++r) 86:Int)≤1→
  qgo (mkGo dr seen r) (cntZ pre 86)=pqGo l (mkGo dr seen r) pre.length
 | [],_,_,_,_=>rfl
 | c::r,pre,seen,hl,hc=>by
  have ih:=q_law hd (l:=l) (t:=t) r (pre++ [c]) (seen || (dr !=0&&c==dr)) (by rw[hl];simp) (by simpa using hc);have hm:=jl3 hd seen c;have e:((pre++ [c]).length:Int)=pre.length+1:=by simp
  have hk:(cntZ pre 86:Int)≤1:=by
   rw[cnt_app']at hc;omega
  have ht:l.take (pre.length:Int).toNat=pre:=by
   rw[hl,Int.toNat_natCast,Kz];simp
  rw[cnt_app',e]at ih
  have e1:(cntZ [c] 86:Int)=if c=86 then 1 else 0:=by
   have:=jdn c 86 [];rw[this];have:(cntZ [] 86:Int)=0:=rfl;omega
  rw[e1]at ih;rw[mkGo,qgo,pqGo,ht,←ih];by_cases h:c=86
  ·have hm2:=hm.2 h;rw[hm2];have:isP 118=false:=rfl;rw[this,Kd h];show qgo _ _=0+qgo _ _;rw[Int.zero_add]
  ·have hn:(mk1 dr seen c==118)=false:=by
    cases q:(mk1 dr seen c==118)with
    | false=>rfl
    | true=>exact absurd (hm.1 (eq_of_beq q)) h
   rw[hn,cond_false,Kc h,Int.add_zero,has_cnt hk];cases isP (mk1 dr seen c) <;>cases hasZ pre 86<;>rfl
theorem pq_app(s:O):∀(a b:O)(i:Int),pqGo s (a++b) i=pqGo s a i+pqGo s b (i+a.length)
 | [],b,i=>by simp[pqGo]
 | m::a,b,i=>by
  rw[List.cons_append,pqGo,pqGo,pq_app s a b,List.length_cons];have:i+1+(a.length:Int)=i+((a.length+1:Nat):Int):=by omega
  rw[this];omega
theorem char_any{l:O}(h:(jam l).any (hasZ [65,88,67,68])=false):jfd l=false:=by
 cases hc:jfd l with
 | false=>rfl
 | true=>
  exfalso;simp only[jfd,jaf,Kf,Ko]at hc;obtain⟨h1,h2⟩:=hc
  have hcr:crZ l=false:=by
   cases q:crZ l with
   | false=>rfl
   | true=>
    exfalso;simp only[crZ,jaf,Ko,jae]at q;rcases q.2 with q | q
    ·have hm:(67:Int)∈l.drop (l.length-2):=by rw[q];simp
     exact absurd (h1 _ (List.mem_of_mem_drop hm)) (by decide)
    ·have hm:(68:Int)∈l.drop (l.length-2):=by rw[q];simp
     exact absurd (h1 _ (List.mem_of_mem_drop hm)) (by decide)
  have hb:jam l=l:=by rw[jiw hcr];rfl
  rw[hb,List.any_eq_false]at h;rcases h2 with q | q
  ·exact h 65 (jbj.1 q) (by decide)
  ·exact h 88 (jbj.1 q) (by decide)
structure NumL (l:O):Prop where
 drP:DrP (jam l) (drZ (jam l)) (nD (jam l)).2.2
 d:(nD (jam l)).2.1=drZ (jam l)
 roles:(nR (jam l)).map rmk=mkGo (drZ (jam l)) false (jam l)
 ok:okR (nR (jam l))
 w:(nP (jam l)).2.w+(bif crZ l then 2 else 0)=l.length-cntZ l 86
 dg:(nP (jam l)).2.dg=pdGo (jaq l)
 q:(nP (jam l)).2.q=pqGo l (jaq l) 0
 g:nG (jam l) (crZ l)=jdq l
 fm:(nP (jam l)).2.fm=cntZ (mkGo (drZ (jam l)) false (jam l)) 100
theorem num_law{l:O}(hz:∀c∈jam l,c≠0):numQ (jam l) (crZ l)=numV l∧(numV l=true→NumL l):=by
 cases hA:anyZ (jam l) [65,88,67,68]with
 | true=>
  have hA':(jam l).any (hasZ [65,88,67,68])=true:=hA;have e1:numQ (jam l) (crZ l)=false:=by rw[numQ,hA];rfl
  have e2:numV l=false:=by rw[numV,hA'];cases jfd l<;>rfl
  rw[e1,e2];exact⟨rfl,fun h=>by cases h⟩
 | false=>
  have hA':(jam l).any (hasZ [65,88,67,68])=false:=hA;have hch:=char_any hA';obtain⟨d1,d2⟩:=nD_law (jam l);cases hD:jct (jam l)with
  | false=>
   have e1:numQ (jam l) (crZ l)=false:=by rw[numQ,d1,hD];simp
   have e2:numV l=false:=by rw[numV,hD];simp
   rw[e1,e2];exact⟨rfl,fun h=>by cases h⟩
  | true=>
   obtain⟨d2,d3⟩:=d2 hD
   have hP:DrP (jam l) (drZ (jam l)) (nD (jam l)).2.2:=by
    refine⟨hz,?_⟩;by_cases h0:drZ (jam l)=0
    ·rw[Kd h0]at d3;exact .inl ⟨h0,d3⟩
    ·rw[Kc h0]at d3;obtain⟨f1,f2⟩:=(jgv (jam l) (jam l)).resolve_left h0;exact .inr ⟨h0,f2,d3,(jg6 f1).1⟩
   have hd:drZ (jam l)=0∨hasZ [36,83,43,45] (drZ (jam l))=true:=(jir _ _).imp id And.left;have eR:nR (jam l)=jbl (drZ (jam l)) (nD (jam l)).2.2 (jam l) 0:=by rw[nR,d2]
   have hroles:(nR (jam l)).map rmk=mkGo (drZ (jam l)) false (jam l):=by
    have:=roles_marks hP (jam l) [] rfl;rw[eR];simpa using this
   have hok:okR (nR (jam l)):=by rw[eR];exact roles_ok _ _ _ _
   obtain⟨p1,p2⟩:=jmv (nR (jam l)) ⟨0,false,0,0,0,0⟩ hok (by simp only;omega) (by simp only;omega);simp only[hroles]at p1 p2;have z0:decide ((0:Int)>0)=false:=rfl;rw[z0]at p1 p2;rw[mk_118 hd]at p2;have p1:(nP (jam l)).1=(ldGo (mkGo (drZ (jam l)) false (jam l)) false false false 0).1:=p1
   have eSt:nSt (jam l)=(hasZ (jam l) 90&&hasZ (jam l) 42 || (hasZ (jam l) 90 || hasZ (jam l) 42) &&drZ (jam l) !=0):=by
    rw[nSt,d2];cases hasZ (jam l) 42<;>cases hasZ (jam l) 90<;>rfl
   have eS:nS (jam l)=jf7 (jam l) (mkGo (drZ (jam l)) false (jam l)):=by
    have hin:∀x:Int,0≤x→x≤(jam l).length→stIn (drZ (jam l)) x (jam l) (mkGo (drZ (jam l)) false (jam l)) 0 false false=
      (decide (loGo (nD (jam l)).2.2 (nR (jam l)) 0 (jam l).length<x),decide (hiGo (nD (jam l)).2.2 (nR (jam l)) 0 (-1)>x)):=fun x h0 h1=>by
     have:=st_in (x:=x) hP (jam l) [] (jam l).length (-1) rfl;rw[jad (show¬((jam l).length:Int)<x by omega),jad (show¬(-1:Int)>x by omega)]at this;rw[←hroles,eR];exact this
    rw[nS,jf7];have:=st_law hP hin (jam l) [] rfl;rw[eR];rw[eR]at this;exact this
   have eG:nG (jam l) (crZ l)=jdq l:=by
    have hs:=si_law hP (jam l) [] rfl
    have one:∀x∈ [36,83,43,(45:Int)],x≠drZ (jam l)→(cntZ (jam l) x:Int)≤1:=fun x hx hne=>by
     cases hq:decide ((cntZ (jam l) x:Int)<2)with
     | true=>have:=jab hq;omega
     | false=>
      have hf:=(jle hx).2 (jac hq);have hm:=jj9 (jg6 hf).2;have h0:drZ (jam l)≠0:=jli (jam l) hf (jam l) hm;have h0':(drZ (jam l)==0)=false:=by simpa using h0
      rw[jct,h0',Bool.false_or,jaf,jiu,Kf]at hD;have:=hD.1 x hm;rw[hf]at this;simp only[Bool.not_true,Bool.or_false,K4]at this;exact absurd this hne
    have sx:∀x∈ [36,83,43,(45:Int)],sgX (drZ (jam l)) x [] (jam l)=b2i (hasZ (jam l) x):=fun x hx=>by
     unfold sgX;split
     ·simp
     ·rename_i hne;exact has_cnt (one x hx hne)
    rw[sx 83 (by simp),sx 43 (by simp),sx 45 (by simp)]at hs;rw[nG,jdq,eR];have hs':siGo (jam l) (jbl (drZ (jam l)) (nD (jam l)).2.2 (jam l) 0)=_:=hs;rw[hs'];cases crZ l<;>simp[b2i] <;>omega
   have eQ:numQ (jam l) (crZ l)=numV l:=by
    rw[numQ,numV,hA,hA',hch,d1,hD,eG,eS,eSt,jg2 hA',jdw,nPok,p1];cases hl:(ldGo (mkGo (drZ (jam l)) false (jam l)) false false false 0).1 with
    | false=>cases hasZ (jam l) 90<;>cases hasZ (jam l) 42<;>cases drZ (jam l) !=0<;>simp
    | true=>
     obtain⟨g1,g2,g3,g4,g5,g6,g7⟩:=p2 (p1.trans hl);have g1:(nP (jam l)).2.dg=_:=g1;have g2:(nP (jam l)).2.bh=_:=g2;have g3:decide ((nP (jam l)).2.fm>0)=_:=g3;have g4:(nP (jam l)).2.pts=_:=g4;rw[g1,g2,g3,g4];simp only[Int.zero_add];generalize (ldGo (mkGo (drZ (jam l)) false (jam l)) false false false 0).2.2.2=dg;generalize (ldGo (mkGo (drZ (jam l)) false (jam l)) false false false 0).2.2.1=bh;generalize (ldGo (mkGo (drZ (jam l)) false (jam l)) false false false 0).2.1=fm;cases hasZ (jam l) 90<;>cases hasZ (jam l) 42<;>cases drZ (jam l) !=0<;>cases decide ((cntZ (jam l) 86:Int)≤1) <;>cases decide (dg≥1) <;>cases decide (dg≤9) <;>cases bh<;>cases fm<;>cases decide (jdq l≤1) <;>cases jf7 (jam l) (mkGo (drZ (jam l)) false (jam l)) <;>rfl
   refine⟨eQ,fun hV=> ?_⟩;have hN:=numV_iff.1 hV
   have hl:(ldGo (mkGo (drZ (jam l)) false (jam l)) false false false 0).1=true:=by
    have:=hN.ld;unfold jdw at this;cases h1:(hasZ (jam l) 90&&hasZ (jam l) 42)with
    | true=>rw[h1]at this;cases this
    | false=>
     rw[h1,cond_false]at this;cases h2:((hasZ (jam l) 90 || hasZ (jam l) 42) &&drZ (jam l) !=0)with
     | true=>rw[h2]at this;cases this
     | false=>
      rw[h2,cond_false]at this;simp only[jaf]at this;exact this.1
   obtain⟨g1,g2,g3,g4,g5,g6,g7⟩:=p2 (p1.trans hl);simp only[Int.zero_add]at g5 g6 g7;have eM:jaq l=mkGo (drZ (jam l)) false (jam l)++(if crZ l=true then [115,115]else []):=rfl;refine⟨hP,d2,hroles,hok,?_,?_,?_,eG,g7⟩
   ·have:=jhp l;rw[eM,nv_app]at this;have h5:(nP (jam l)).2.w=_:=g5;rw[h5];cases hc:crZ l with
    | false=>rw[hc]at this;have e0:nv (if(false:Bool)=true then [115,115]else [])=0:=rfl;rw[e0]at this;simp only[cond_false];omega
    | true=>rw[hc]at this;have e0:nv (if(true:Bool)=true then [115,115]else [])=2:=rfl;rw[e0]at this;simp only[cond_true];omega
   ·have h1:(nP (jam l)).2.dg=_:=g1;rw[h1,ji7 _ _ _ _ _ hl,eM,jmx];cases crZ l<;>simp[pdGo,isP]
   ·have h6:(nP (jam l)).2.q=_:=g6;rw[h6,eM,pq_app];obtain⟨t,h,ht⟩:=je9 l;have:=q_law hd (l:=l) (t:=t) (jam l) [] false (by simpa using h) (by simpa using hN.one);have e0:((cntZ [] 86:Nat):Int)=0:=rfl;rw[e0]at this;have e1:(([]:O).length:Int)=0:=rfl;rw[e1]at this;rw[this];cases crZ l with
    | false=>simp[pqGo]
    | true=>simp[pqGo,isP]
end Go.Px
end
noncomputable section
namespace Go.Px
open Go Go.Ab Go.Proofs Go.Shelf
section
variable {P : Program} {G : Env} {L : Nat → Option jcb} {f : FuncId} {fn : Func}
theorem jjw{h:J→Lk→Nat→(Value→Lk→Nat→Prop)→Prop}(hG:ja3 P G)(hm:P.follows .mixedOrders=true)(hf:Fn1 P f fn)(hL:LOKf P L fn)
  (H : ∀ args m n K, h args m n K → ∃ (args' : J) (m0 : Lk) (n0 : Nat) (ρ : Nat → Nat) (R : Value → Ya → Prop), SubM m ρ m0 n0 ∧ (∀ ι : Nm, args'.map (ren fun j => ι (ρ j)) = args.map (ren ι)) ∧ args'.length ≤ fn.ntmps ∧ (∀ v ∈ args', ∀ j ∈ ids v, j<n0) ∧
   jel P G L fn args' m0 n0 (fun v' m' _=>R v' (look m' v'))∧
   ∀v' m',R v' (look m' v')→ ∃v mm nn σ,((∀k b,m k=some b→k<n)→NewM m n m' mm nn σ)∧(∀i∈ids v,n≤i∧i<nn)∧(∀ι' ι'':Nm,(∀i,n≤i→ι'' i=ι' (σ i))→ren ι'' v=ren ι' v')∧K v mm nn):jcw P f h:=by
 obtain⟨h1,h2,h3,h4⟩:=hf;cases hb:fn.body with
 | none=>rw[hb]at h2;cases h2
 | some c=>
  simp only[hb]at h4;simp only[LOKf,hb]at hL;refine⟨⟨fn,h1,h3,by rw[hb];rfl⟩,fun args m n K hh N w0 ι w hrel hwf hargs=> ?_⟩;obtain⟨args',m0,n0,ρ,R,hs,ha,hlen,hids,hd,hR⟩:=H _ _ _ _ hh;rw[jel]at hd;rw[←ha ι];refine(jee (N:=w.heap.size) (w0:=w) (ι:=fun j=>ι (ρ j)) hG hm h1 hb h4 hL hlen hd (hs.rel hrel) hs.lt hids).mono fun e w' ⟨v',m',n',ι',he,hv',_,_,hm',_,_⟩=> ?_
  obtain⟨v,mm,nn,σ,hn,hvi,hvr,hk⟩:=hR v' m' hv';have hn:=hn fun k b hk=>(hwf k b hk).1
  obtain⟨q1,q2⟩:=hn.rel hrel hwf hm';refine⟨v,mm,nn,_,?_,hk,hn.le,fun k hk=>nmJ_old hk,q1,q2,fun j hj=>(hvi j hj).2⟩;rw[he,hvr ι' _ fun i hi=>nmJ_new hi]
end
theorem jji(m:Lk)(ρ:Nat→Nat)(n:Nat):SubM m ρ (fun _=>none) n:=⟨fun _ _ h=>(by cases h),fun _ _ h=>(by cases h)⟩
theorem new_none{m:Lk}{n:Nat}(hwf:∀k b,m k=some b→k<n)(m':Lk)(σ:Nat→Nat):NewM m n m' m n σ:=
 ⟨Kv _,fun _ _=>rfl,fun j b h hj=>by have:=hwf j b hj;omega,fun j j' b b' h _ hj=>by have:=hwf j b hj;omega⟩
theorem new_one{m:Lk}{n:Nat}(hwf:∀k b,m k=some b→k<n){m':Lk}{a:Nat}{c:J}{ty:TypeId}(ha:m' a=some ⟨c,ty,true⟩)(hc:ja1 c=true)(hit:Nat.ble itTy ty=false):
  NewM m n m' (m.upd n ⟨c,ty,true⟩) (n+1) (fun _=>a):=by
 have hget:∀j b,n≤j→m.upd n ⟨c,ty,true⟩ j=some b→j=n∧b=⟨c,ty,true⟩:=fun j b hj h=>by
  by_cases e:j=n
  ·subst e;rw[Lk.upd_same]at h;cases h;exact⟨rfl,rfl⟩
  ·rw[Lk.upd_other _ _ e]at h;have:=hwf j b h;omega
 refine⟨by omega,fun j hj=>Lk.upd_other _ _ (by omega),fun j b hj h=> ?_,fun j j' b b' hj hj' h h' hne=> ?_⟩
 ·obtain⟨rfl,rfl⟩:=hget j b hj h;exact⟨by omega,fun i hi=>(by rw[jao hc]at hi;cases hi),rfl,hit,⟨c,ty,true⟩,ha,rfl,rfl,fun ι' ι'' _=>renMap_congr fun k hk=>by rw[jao hc]at hk;cases hk⟩
 ·have e1:=(hget j b hj h).1;have e2:=(hget j' b' hj' h').1;omega
theorem new_form{m:Lk}{n:Nat}(hwf:∀k b,m k=some b→k<n){m':Lk}{a x k cap:Nat}{A B d:J}{ty ty2:TypeId}(ha:m' a=some ⟨A++ .slice (some ⟨x,0,some 1⟩) k cap::B,ty,true⟩)
  (hx:m' x=some ⟨d,ty2,true⟩) (hA:ja1 A=true) (hB:ja1 B=true) (hd:ja1 d=true) (hit:Nat.ble itTy ty=false) (hit2:Nat.ble itTy ty2=false) (hne:a≠x):
  NewM m n m' ((m.upd n ⟨A++ .slice (some ⟨n+1,0,some 1⟩) k cap::B,ty,true⟩).upd (n+1) ⟨d,ty2,true⟩) (n+2) (fun j=>if j=n then a else x):=by
 have hget:∀j b,n≤j→((m.upd n ⟨A++ .slice (some ⟨n+1,0,some 1⟩) k cap::B,ty,true⟩).upd (n+1) ⟨d,ty2,true⟩) j=some b→
   (j=n∧b=⟨A++ .slice (some ⟨n+1,0,some 1⟩) k cap::B,ty,true⟩)∨(j=n+1∧b=⟨d,ty2,true⟩):=fun j b hj h=>by
  by_cases e:j=n+1
  ·subst e;rw[Lk.upd_same]at h;cases h;exact .inr ⟨rfl,rfl⟩
  ·rw[Lk.upd_other _ _ e]at h;by_cases e2:j=n
   ·subst e2;rw[Lk.upd_same]at h;cases h;exact .inl ⟨rfl,rfl⟩
   ·rw[Lk.upd_other _ _ e2]at h;have:=hwf j b h;omega
 have hids:∀y i,i∈idsL (A++Value.slice (some ⟨y,0,some 1⟩) k cap::B)→i=y:=fun y i hi=>by
  obtain⟨v,hv,hi⟩:=jay.1 hi;rcases Kq.1 hv with hv | hv
  ·rw[jbm (ja7.1 hA v hv)]at hi;cases hi
  ·rcases Kg.1 hv with rfl | hv
   ·simpa[ids]using hi
   ·rw[jbm (ja7.1 hB v hv)]at hi;cases hi
 refine⟨by omega,fun j hj=>by rw[Lk.upd_other _ _ (by omega),Lk.upd_other _ _ (by omega)],fun j b hj h=> ?_,fun j j' b b' hj hj' h h' hn=> ?_⟩
 ·rcases hget j b hj h with⟨rfl,rfl⟩ | ⟨rfl,rfl⟩
  ·refine⟨by omega,fun i hi=>by have:=hids _ i hi;omega,rfl,hit,⟨A++ .slice (some ⟨x,0,some 1⟩) k cap::B,ty,true⟩,by rw[Kd rfl];exact ha,rfl,rfl,fun ι' ι'' hι=> ?_⟩;rw[List.map_append,List.map_append,List.map_cons,List.map_cons];have e1:A.map (ren ι'')=A.map (ren ι'):=renMap_congr fun k hk=>by rw[jao hA]at hk;cases hk
   have e2:B.map (ren ι'')=B.map (ren ι'):=renMap_congr fun k hk=>by rw[jao hB]at hk;cases hk
   have e3:ι'' (j+1)=ι' x:=by rw[hι (j+1) (by omega),Kc (by omega)]
   rw[e1,e2];simp[ren,ren1,e3]
  ·refine⟨by omega,fun i hi=>(by rw[jao hd]at hi;cases hi),rfl,hit2,⟨d,ty2,true⟩,(by rw[Kc (by omega)];exact hx),rfl,rfl,fun ι' ι'' _=>renMap_congr fun k hk=>by rw[jao hd]at hk;cases hk⟩
 ·rcases hget j b hj h with⟨rfl,rfl⟩ | ⟨rfl,rfl⟩ <;>rcases hget j' b' hj' h' with⟨rfl,rfl⟩ | ⟨rfl,rfl⟩
  ·exact absurd rfl hn
  ·rw[Kd rfl,Kc (by omega)];exact hne
  ·rw[Kc (by omega),Kd rfl];exact hne.symm
  ·exact absurd rfl hn
theorem look_form{m:Lk}{a x k cap:Nat}{c d:J}{ty ty2:TypeId}(hc:c[6]?=some (.slice (some ⟨x,0,some 1⟩) k cap))
  (h:look m (.tuple ⟨[.pointer (some ⟨a,0,some 0⟩),.bool true]⟩)=[some ⟨c,ty,true⟩,some ⟨d,ty2,true⟩]):m a=some ⟨c,ty,true⟩∧m x=some ⟨d,ty2,true⟩:=by
 simp only[look]at h;cases ha:m a with
 | none=>rw[ha]at h;cases h
 | some b=>
  rw[ha]at h;simp only at h;split at h
  ·rename_i a' l' c' hc';simp only[List.cons.injEq,and_true]at h;obtain⟨h1,h2⟩:=h;cases h1;rw[hc]at hc';cases hc';exact⟨rfl,h2⟩
  ·cases h
def frm(l:O)(x k cap:Nat):J:=[.string (sz l),.bool true,.int .i64 (l.length-cntZ l 86),.int .i64 (pdGo (jaq l)),.int .i64 (pqGo l (jaq l) 0),.bool (jdq l==1)]++
 .slice (some ⟨x,0,some 1⟩) k cap::[.int .u8 (drZ (jam l)),.int .i64 (nD (jam l)).2.2,.bool (crZ l),.int .u8 (fdFl l),.int .i64 (cntZ (mkGo (drZ (jam l)) false (jam l)) 100)]
def rolF(l:O):O:=nR (jam l)++(bif crZ l then [4,4]else [])
def allK(l:O):Bool:=l.all (hasZ kL)
theorem ji0{l:O}(h:allK l=true):asc l=true∧ ∀c∈l,c≠0:=by
 simp only[allK,Kf]at h;refine⟨?_,fun c hc=> ?_⟩
 ·simp only[asc,Kf,jae];exact fun c hc=>(jm0 (h c hc)).2
 ·rintro rfl;exact absurd (h 0 hc) (by decide)
theorem body_sub{l:O}{c:Int}(h:c∈jam l):c∈l:=by
 unfold jam at h;split at h
 ·exact List.mem_of_mem_take h
 ·exact h
theorem star_body(l:O):hasZ (jam l) 42=hasZ l 42:=by
 obtain⟨t,h,ht⟩:=je9 l
 have e:hasZ l 42=(hasZ (jam l) 42 || hasZ t 42):=by
  conv=>lhs;rw[h]
  simp[hasZ]
 rw[e];rcases ht with⟨rfl,_⟩ | ⟨rfl | rfl,_⟩
 ·simp[hasZ]
 ·have:hasZ [67,82] 42=false:=by decide
  rw[this,Bool.or_false]
 ·have:hasZ [68,66] 42=false:=by decide
  rw[this,Bool.or_false]
theorem form_frm{s:Y}(h:NumL (bz s))(x k cap:Nat):jkr s (crZ (bz s)) x k cap=frm (bz s) x k cap:=by
 have e:(bif hasZ (jam (bz s)) 42 then(42:Int)else 32)=fdFl (bz s):=by
  rw[star_body,fdFl];cases hasZ (bz s) 42<;>rfl
 rw[jkr,h.w,h.dg,h.q,h.g,h.d,h.fm,e,frm,jh2];rfl
def h103:J→Lk→Nat→(Value→Lk→Nat→Prop)→Prop:=fun args m n K=>match args with
 | [.string s]=>match cnd (decide (s.size≤32) &&allK (bz s))with
  | true=>bif numV (bz s)then∀(k cap:Nat)(d:J),jbv d k cap=true→zc d k=rolF (bz s)→K (.tuple ⟨[.pointer (some ⟨n,0,some 0⟩),.bool true]⟩) ((m.upd n ⟨frm (bz s) (n+1) k cap,132,true⟩).upd (n+1) ⟨d,221,true⟩) (n+2)
   else K (.tuple ⟨[.pointer none,.bool false]⟩) m n
  | false=>False
 | _=>False
def R103(s:Y)(v:Value)(bs:Ya):Prop:=(numV (bz s)=false∧v= .tuple ⟨[.pointer none,.bool false]⟩)∨(numV (bz s)=true∧v= .tuple ⟨[.pointer (some ⟨3,0,some 0⟩),.bool true]⟩∧ ∃x k cap d,RowI d k cap∧zc d k=rolF (bz s)∧bs=[some ⟨frm (bz s) x k cap,132,true⟩,some ⟨d,221,true⟩])
theorem w103'(s:Y)(hs:s.size≤32)(hk:allK (bz s)=true):jel Tryz.prog G25 noL Tryz.f129 [.string s] (fun _=>none) 0 (fun v m _=>R103 s v (look m v)):=by
 obtain⟨ha,h0⟩:=ji0 hk;obtain⟨q1,q2⟩:=num_law (l:=bz s) fun c hm=>h0 c (body_sub hm)
 have A1:numQ (jam (bz s)) (crZ (bz s))=false→R103 s (.tuple ⟨[.pointer none,.bool false]⟩) []:=fun hn=> .inl ⟨by rw[←q1];exact hn,rfl⟩
 have A2:numQ (jam (bz s)) (crZ (bz s))=true→ ∀(x m cap:Nat)(d:J),RowI d m cap→zc d m=jl1 s (crZ (bz s))→
   R103 s (.tuple ⟨[.pointer (some ⟨3,0,some 0⟩),.bool true]⟩) [some ⟨jkr s (crZ (bz s)) x m cap,132,true⟩,some ⟨d,221,true⟩]:=fun hy x k cap d r1 r2=>by
  rw[q1]at hy;rw[form_frm (q2 hy)];exact .inr ⟨hy,rfl,x,k,cap,d,r1,r2,rfl⟩
 exact w103 s hs ha (R103 s) A1 A2
theorem h103_ok:jcw Tryz.prog 129 h103:=by
 refine jjw ok_G25 hmix (.m Tryz.func129) jal fun args m n K h=> ?_
 unfold h103 at h;split at h
 case h_2=>exact h.elim
 rename_i s;split at h
 case h_2=>exact h.elim
 rename_i hc;simp only[cnd,jaf,jae]at hc;refine⟨[.string s],fun _=>none,0,id,R103 s,jji _ _ _,fun ι=>by simp[ren],jag,fun v hv j hj=> ?_,w103' s hc.1 hc.2,fun v' m' hR=> ?_⟩
 ·simp at hv;subst hv;simp[ids]at hj
 ·rcases hR with⟨hv,rfl⟩ | ⟨hv,rfl,x,k,cap,d,r1,r2,hbs⟩
  ·rw[hv]at h;exact⟨_,m,n,id,fun hwf=>new_none hwf _ _,by simp[ids,idsL],fun _ _ _=>by simp[ren,renL],h⟩
  ·rw[hv]at h;obtain⟨a1,a2⟩:=look_form (x:=x) (k:=k) (cap:=cap) rfl hbs;refine⟨_,_,_,fun j=>if j=n then 3 else x,fun hwf=>new_form hwf a1 a2 rfl rfl r1.plain rfl rfl ?_,?_,fun ι' ι'' hι=> ?_,h k cap d (jat.2 r1) r2⟩
   ·rintro rfl;rw[a1]at a2;cases a2
   ·intro i hi;have:i=n:=by simpa[ids,idsL]using hi
    omega
   ·have e:=hι n (Kv _);simp only[if_true]at e;simp[ren,renL,ren1,e]
def G26:Env:=(((Env.nil.add 128 (sp2 s102)).add 124 (sp2 s89)).add 127 (sp1 s80)).addG 129 h103
theorem ok_G26:ja3 Tryz.prog G26:=jau (jaj (jaj (jaj jav ok102) ok89) ok80) h103_ok
theorem jip{p:Int→Bool}:∀{l:O},l.dropWhile p=[]↔ ∀c∈l,p c=true
 | []=>by simp
 | c::l=>by
  rw[List.dropWhile_cons];cases h:p c with
  | true=>simp only[if_true];rw[jip (l:=l)];simp[h]
  | false=>simp[h]
theorem jjf{l cs:O}:jcm l cs=[]↔ ∀c∈l,hasZ cs c=true:=by
 unfold jcm;rw[jip];constructor
 ·intro h c hc;cases hq:hasZ cs c with
  | true=>rfl
  | false=>
   exfalso
   -- c stays in what is left
   have:∀r:O,c∈r→c∈r.dropWhile (hasZ cs):=by
    intro r
    induction r with
    | nil=>exact fun h=>by cases h
    | cons x r ih=>
     intro hx;rw[List.dropWhile_cons];cases hh:hasZ cs x with
     | false=>simpa using hx
     | true=>
      rw[Kd rfl];rcases Kg.1 hx with rfl | hx
      ·rw[hq]at hh;cases hh
      ·exact ih hx
   have hm:=this l.reverse (by simpa using hc);have:=h c (by simpa using hm);rw[hq]at this;cases this
 ·intro h c hc;have:c∈l.reverse.dropWhile (hasZ cs):=by simpa using hc
  exact h c (by simpa using Kt _ |>.subset this)
theorem jmm:∀(l:O)(st n:Int)(out:O),allK out=true→allK (xpGo l st n out).1=true
 | [],_,_,_,h=>h
 | c::r,st,n,out,h=>by
  rw[xpGo];generalize (if st=2 then n else 1)=k;split
  ·split
   all_goals
    split
    ·exact jmm r _ _ _ h
    ·rfl
  ·split
   ·rfl
   ·split
    ·exact jmm r _ _ _ h
    ·split
     ·rename_i hq;refine jmm r _ _ _ ?_;simp only[allK,List.all_append,jaf];refine⟨h,?_⟩;rw[Kf];intro x hx;rw[Ky hx];exact hq.1
     ·rfl
theorem joc(l:O):allK (exZ l)=true:=by
 unfold exZ;split
 ·exact jmm l 0 0 [] rfl
 ·rfl
def frmP(l:O)(x k cap:Nat):J:=[.string (sz (pS l)),.bool true,.int .i64 (pW l),.int .i64 (pD l),.int .i64 (pQ l),.bool (pG l)]++
 .slice (some ⟨x,0,some 1⟩) k cap::[.int .u8 (drZ (jam (pS l))),.int .i64 (nD (jam (pS l))).2.2,.bool (crZ (pS l)),.int .u8 (fdFl (pS l)),.int .i64 (cntZ (mkGo (drZ (jam (pS l))) false (jam (pS l))) 100)]
def chrP(l:O):J:=[.string (sz (pS l)),.bool false,.int .i64 (pW l),.int .i64 0,.int .i64 0,.bool false,.slice none 0 0,.int .u8 0,.int .i64 0,.bool false,.int .u8 0,.int .i64 0]
theorem frm_P{l:O}(h:pN l=true)(x k cap:Nat):frm (exZ l) x k cap=frmP l x k cap:=by
 have hv:=jdg h;have hc:=(jh9 h).nch;unfold frm frmP;rw[pS,Kd hv,pW,Kd hv,Kc (by rw[hc];simp),pD,Kd h,pQ,Kd h,pG,h,Bool.true_and]
def h70:J→Lk→Nat→(Value→Lk→Nat→Prop)→Prop:=fun args m n K=>match args with
 | [.string s]=>match cnd (decide (s.size≤9223372036854775807))with
  | true => bif vOK (bz s) then (bif pN (bz s) then ∀ (k cap : Nat) (d : J), jbv d k cap = true → zc d k = rolF (pS (bz s)) → K (.tuple ⟨[.pointer (some ⟨n, 0, some 0⟩), .bool true]⟩) ((m.upd n ⟨frmP (bz s) (n + 1) k cap, 132, true⟩).upd (n + 1) ⟨d, 221, true⟩) (n + 2)
    else K (.tuple ⟨[.pointer (some ⟨n,0,some 0⟩),.bool true]⟩) (m.upd n ⟨chrP (bz s),132,true⟩) (n+1))
   else K (.tuple ⟨[.pointer none,.bool false]⟩) m n
  | false=>False
 | _=>False
def h62:J→Lk→Nat→(Value→Lk→Nat→Prop)→Prop:=fun args m n K=>match args with
 | [.string s]=>match cnd (decide (s.size≤9223372036854775807))with
  | true=>bif pN (bz s)then∀(k cap:Nat)(d:J),jbv d k cap=true→zc d k=rolF (pS (bz s))→K (.tuple ⟨[.pointer (some ⟨n,0,some 0⟩),.bool true]⟩) ((m.upd n ⟨frmP (bz s) (n+1) k cap,132,true⟩).upd (n+1) ⟨d,221,true⟩) (n+2)
   else K (.tuple ⟨[.pointer none,.bool false]⟩) m n
  | false=>False
 | _=>False
def Rfm(c:Bool)(s:Y)(v:Value)(bs:Ya):Prop:=
 (pN (bz s)=true∧ ∃a x k cap d,v= .tuple ⟨[.pointer (some ⟨a,0,some 0⟩),.bool true]⟩∧RowI d k cap∧zc d k=rolF (pS (bz s))∧bs=[some ⟨frmP (bz s) x k cap,132,true⟩,some ⟨d,221,true⟩])∨
 (c=true∧vOK (bz s)=true∧pN (bz s)=false∧ ∃a,v= .tuple ⟨[.pointer (some ⟨a,0,some 0⟩),.bool true]⟩∧bs=[some ⟨chrP (bz s),132,true⟩])∨
 (pN (bz s)=false∧(c=true→vOK (bz s)=false)∧v= .tuple ⟨[.pointer none,.bool false]⟩)
theorem rfm_new{c:Bool}{s:Y}{v':Value}{m m':Lk}{n:Nat}{K:Value→Lk→Nat→Prop}(hR:Rfm c s v' (look m' v'))
  (h1:pN (bz s)=true→ ∀(k cap:Nat)(d:J),jbv d k cap=true→zc d k=rolF (pS (bz s))→K (.tuple ⟨[.pointer (some ⟨n,0,some 0⟩),.bool true]⟩) ((m.upd n ⟨frmP (bz s) (n+1) k cap,132,true⟩).upd (n+1) ⟨d,221,true⟩) (n+2))
  (h2:c=true→vOK (bz s)=true→pN (bz s)=false→K (.tuple ⟨[.pointer (some ⟨n,0,some 0⟩),.bool true]⟩) (m.upd n ⟨chrP (bz s),132,true⟩) (n+1))
  (h3:pN (bz s)=false→(c=true→vOK (bz s)=false)→K (.tuple ⟨[.pointer none,.bool false]⟩) m n):
  ∃v mm nn σ,((∀k b,m k=some b→k<n)→NewM m n m' mm nn σ)∧(∀i∈ids v,n≤i∧i<nn)∧(∀ι' ι'':Nm,(∀i,n≤i→ι'' i=ι' (σ i))→ren ι'' v=ren ι' v')∧K v mm nn:=by
 rcases hR with⟨hv,a,x,k,cap,d,rfl,r1,r2,hbs⟩ | ⟨hc,hv,hp,a,rfl,hbs⟩ | ⟨hv,hc,rfl⟩
 ·obtain⟨a1,a2⟩:=look_form (x:=x) (k:=k) (cap:=cap) rfl hbs;refine⟨_,_,_,fun j=>if j=n then a else x,fun hwf=>new_form hwf a1 a2 rfl rfl r1.plain rfl rfl ?_,?_,fun ι' ι'' hι=> ?_,h1 hv k cap d (jat.2 r1) r2⟩
  ·rintro rfl;rw[a1]at a2;cases a2
  ·intro i hi;have:i=n:=by simpa[ids,idsL]using hi
   omega
  ·have e:=hι n (Kv _);simp only[if_true]at e;simp[ren,renL,ren1,e]
 ·have ha:m' a=some ⟨chrP (bz s),132,true⟩:=by
   simp only[look]at hbs;cases ha:m' a with
   | none=>rw[ha]at hbs;cases hbs
   | some b=>
    rw[ha]at hbs;simp only at hbs;split at hbs
    ·cases hbs
    ·cases hbs;rfl
  refine⟨_,_,_,fun j=>a,fun hwf=>new_one hwf ha rfl rfl,?_,fun ι' ι'' hι=> ?_,h2 hc hv hp⟩
  ·intro i hi;have:i=n:=by simpa[ids,idsL]using hi
   omega
  ·have e:=hι n (Kv _);simp[ren,renL,ren1,e]
 ·exact⟨_,m,n,id,fun hwf=>new_none hwf _ _,by simp[ids,idsL],fun _ _ _=>by simp[ren,renL],h3 hv hc⟩
def pl(d h:Bool)(i j k:Int)(e:O)(g l:Nat)(f:Value→Ya→Prop):Prop:=bif d then∀a:Nat,∀b:Nat,∀c:J,jbv c a b=true→zc c a=rolF e→f (aq fv (ar g)) [ie true h (crZ e) (sz e) i j k (drZ (jam e)) (nD (jam e)).snd.snd (fdFl e) (cntZ (mkGo (drZ (jam e)) false (jam e)) 100:Int) a b (some (.mk l 0 (some 1))),some (.mk c 221 true)]else j0 f
def i7(a:Y):Y:=sz (xpGo (bz a) 0 0 []).fst
def j2(a:O):Bool:=(szO a).toList==ay.toList
def jn(a:Y)(c:Yc)(b:UInt8):Bool:=j2 (jcm (bz a) (bz ⟨(b::c).toArray⟩))
def ky(b:Yc)(a:UInt8):Bool:=fy ⟨(a::b).toArray⟩ &&asc (bz ⟨(a::b).toArray⟩)
theorem v70(s:Y)(R:Value→Ya→Prop):(jax Tryz.prog G26 noL Tryz.f79 [S s] (fun _=>none) 0 (fun v m _=>R v (look m v)))=(fq (!exOK (bz s)) s (j0 R) (i6 (fy (i7 s) &&ky [88,57] 65) (bv (jn (i7 s) [88,57] 65) (fy (i7 s) && (fy ⟨#[65,88]⟩ && (asc (bz (i7 s)) &&asc (bz ⟨#[65,88]⟩))) &&true) true) (jn (i7 s) [88,57] 65&&anyZ (bz (i7 s)) (bz ⟨#[65,88]⟩)) (R (aq fv (ar 23)) [ie false false false (i7 s) (fk (i7 s)) 0 0 0 0 0 0 0 0 none]) (bif decide ((i7 s).size≤32) &&allK (bz (i7 s))then pl (Px.numV (bz (i7 s))) (jdq (bz (i7 s))==1) (((bz (i7 s)).length:Int)-(cntZ (bz (i7 s)) 86:Int)) (pdGo (jaq (bz (i7 s)))) (pqGo (bz (i7 s)) (jaq (bz (i7 s))) 0) (bz (i7 s)) 20 21 R else False))):=by kernel_rfl
theorem w70(s:Y)(hs:s.size≤9223372036854775807):jel Tryz.prog G26 noL Tryz.f79 [.string s] (fun _=>none) 0 (fun v m _=>Rfm true s v (look m v)):=by
 rw[jel,v70];delta av co fq i6 aq d8 j0 ak am ie ar fv pl i7 fk ay j2 jn bv fy ky;have hN:pN (bz s)=false→vOK (bz s)=false→Rfm true s (.tuple ⟨[.pointer none,.bool false]⟩) []:=fun h1 h2=> .inr (.inr ⟨h1,fun _=>h2,rfl⟩)
 refine c_t (jaa hs) (Ka (fun h=> ?_) (fun h=> ?_))
 ·have h:exOK (bz s)=false:=by simpa using h
  exact hN (by rw[pN,h];rfl) (by rw[vOK,h];rfl)
 have h:exOK (bz s)=true:=by simpa using h
 have e:(xpGo (bz s) 0 0 []).1=exZ (bz s):=by rw[exZ,Kd h]
 obtain⟨x1,x2⟩:=jl9 s;have k1:bz ⟨#[65,88,57]⟩=[65,88,57]:=rfl;have k2:bz ⟨#[65,88]⟩=[65,88]:=rfl;rw[e,jc7 x1,jco,k1,k2,jcx,jcv,jc7 (l:=jcm (exZ (bz s)) [65,88,57])]
 rotate_left
 ·intro c hc;refine x1 c ?_;unfold jcm at hc;have:=Kt _ |>.subset hc
  have:c∈(exZ (bz s)).reverse.dropWhile (hasZ [65,88,57]):=by simpa using this
  simpa using Kt _ |>.subset this
 have hk:=ji0 (joc (bz s));have k3:bz ⟨#[]⟩=[]:=rfl;rw[k3]
 have eC:(decide (jcm (exZ (bz s)) [65,88,57]=[]) &&anyZ (exZ (bz s)) [65,88])=jfd (exZ (bz s)):=by
  rw[jfd,Kl];simp only[jaf,jae,jjf,Kf,anyZ,List.any_eq_true,Ko,jbj];refine and_congr Iff.rfl ⟨?_,?_⟩
  ·rintro ⟨c,h1,h2⟩;simp at h2;rcases h2 with rfl | rfl
   ·exact .inl h1
   ·exact .inr h1
  ·rintro (h1 | h1)
   ·exact⟨65,h1,by simp⟩
   ·exact⟨88,h1,by simp⟩
 rw[eC];refine c_t ?_ (Ka (fun hc=> ?_) (fun hc=>c_t ?_ (Ka (fun hn k cap d r1 r2=> ?_) (fun hn=> ?_))))
 ·have a1:decide ((exZ (bz s)).length≤1000)=true:=jaa (by omega);rw[a1,hk.1];cases decide (jcm (exZ (bz s)) [65,88,57]=[]) <;>rfl
 ·have hv:vOK (bz s)=true:=by rw[vOK,h,hc];rfl
  have hp:pN (bz s)=false:=by rw[pN,h,numV,hc];rfl
  refine .inr (.inl ⟨rfl,hv,hp,23,rfl,?_⟩);have e1:pS (bz s)=exZ (bz s):=by rw[pS,Kd hv]
  have e2:pW (bz s)=(exZ (bz s)).length:=by rw[pW,Kd hv,Kd hc]
  rw[chrP,e1,e2]
 ·rw[jaa (show(exZ (bz s)).length≤32 by omega),joc];rfl
 ·have hp:pN (bz s)=true:=by rw[pN,h,hn];rfl
  have e1:pS (bz s)=exZ (bz s):=by rw[pS,Kd (jdg hp)]
  refine .inl ⟨hp,20,21,k,cap,d,rfl,jat.1 r1,by rw[e1];exact r2,?_⟩;rw[←frm_P hp];rfl
 ·exact hN (by rw[pN,h,hn];rfl) (by rw[vOK,h,hc,hn];rfl)
theorem jm4:jcw Tryz.prog 79 h70:=by
 refine jjw ok_G26 hmix (.m Tryz.func79) jal fun args m n K h=> ?_
 unfold h70 at h;split at h
 case h_2=>exact h.elim
 rename_i s;split at h
 case h_2=>exact h.elim
 rename_i hc;have hc:s.size≤9223372036854775807:=jab hc;refine⟨[.string s],fun _=>none,0,id,Rfm true s,jji _ _ _,fun ι=>by simp[ren],jag,fun v hv j hj=> ?_,w70 s hc,fun v' m' hR=> ?_⟩
 ·simp at hv;subst hv;simp[ids]at hj
 ·refine rfm_new hR (fun hp=> ?_) (fun _ hv hp=> ?_) (fun hp hv=> ?_)
  ·rw[jdg hp,hp]at h;exact h
  ·rw[hv,hp]at h;exact h
  ·rw[hv rfl]at h;exact h
def G27:Env:=Env.nil.addG 79 h70
theorem ok_G27:ja3 Tryz.prog G27:=jau jav jm4
theorem v62(s:Y)(R:Value→Ya→Prop):(jax Tryz.prog G27 noL Tryz.f181 [S s] (fun _=>none) 0 (fun v m _=>R v (look m v)))=(fq (vOK (bz s)) s (pl (pN (bz s)) (pG (bz s)) (pW (bz s)) (pD (bz s)) (pQ (bz s)) (pS (bz s)) 4 5 R) (j0 R)):=by kernel_rfl
theorem w62(s:Y)(hs:s.size≤9223372036854775807):jel Tryz.prog G27 noL Tryz.f181 [.string s] (fun _=>none) 0 (fun v m _=>Rfm false s v (look m v)):=by
 rw[jel,v62];delta av co fq aq d8 j0 ak am ie ar fv pl;refine c_t (jaa hs) (Ka (fun h=>Ka (fun hn k cap d r1 r2=> ?_) (fun hn=> ?_)) (fun h=> ?_))
 ·exact .inl ⟨hn,4,5,k,cap,d,rfl,jat.1 r1,r2,rfl⟩
 ·exact .inr (.inr ⟨hn,fun q=>(by cases q),rfl⟩)
 ·refine .inr (.inr ⟨?_,fun q=>(by cases q),rfl⟩);cases hp:pN (bz s)with
  | false=>rfl
  | true=>rw[jdg hp]at h;cases h
theorem jm6:jcw Tryz.prog 181 h62:=by
 refine jjw ok_G27 hmix (.m Tryz.func181) jal fun args m n K h=> ?_
 unfold h62 at h;split at h
 case h_2=>exact h.elim
 rename_i s;split at h
 case h_2=>exact h.elim
 rename_i hc;have hc:s.size≤9223372036854775807:=jab hc;refine⟨[.string s],fun _=>none,0,id,Rfm false s,jji _ _ _,fun ι=>by simp[ren],jag,fun v hv j hj=> ?_,w62 s hc,fun v' m' hR=> ?_⟩
 ·simp at hv;subst hv;simp[ids]at hj
 ·refine rfm_new hR (fun hp=> ?_) (fun q _ _=>by cases q) (fun hp _=> ?_)
  all_goals
   rw[hp]at h;exact h
def G28:Env:=(Env.nil.addG 79 h70).addG 181 h62
theorem ok_G28:ja3 Tryz.prog G28:=jau (jau jav jm4) jm6
def s35(s:Y):Bool×Value:=(decide (s.size≤9223372036854775807),.tuple ⟨[picV (bz s),.int .i64 (pE (bz s))]⟩)
def pm(d:Y)(f g:Value)(e:Value→Prop):Prop:=bif pN (bz d)then∀a:Nat,∀b:Nat,∀c:J,jbv c a b=true→zc c a=rolF (pS (bz d))→e f else e g
theorem v35(s:Y)(R:Value→Prop):jax Tryz.prog G28 noL Tryz.f26 [Enc.enc s] (fun _=>none) 0 (fun v _ _=>R v)=(fq (vOK (bz s)) s (pm s (aq [ak 0] (cu [S (ic s),B true,I (pW (bz s)),I (pD (bz s)),I (pQ (bz s)),B (pG (bz s))])) (aq [ak 0] (cu (S (ic s)::B false::I (pW (bz s))::ak 0::ak 0::d8))) R) (R (aq [ak 30] o0))):=by kernel_rfl
theorem ok35:jan Tryz.prog 26 (sp1 s35):=by
 refine jb6 ok_G28 hmix (.m Tryz.func26) jal jag fun s hc=> ?_
 rw[ja4,v35];delta av co fq aq d8 ak ay cv o0 pm cu ic;have hc:(s.size≤9223372036854775807):=jab hc
 try dsimp only[s35]
 refine c_t (jaa hc) (Ka (fun hv=>Ka (fun hn k cap d _ _=> ?_) (fun hn=> ?_)) (fun hv=> ?_))
 ·simp[picV,pE,hv,hn]
 ·simp[picV,pE,hv,hn,pD,pQ,pG]
 ·have hn:pN (bz s)=false:=by
   cases q:pN (bz s)with
   | false=>rfl
   | true=>rw[jdg q]at hv;cases hv
  have a1:pS (bz s)=[]:=by rw[pS,Kc (by rw[hv];simp)]
  have a2:pW (bz s)=0:=by rw[pW,Kc (by rw[hv];simp)]
  have a3:pD (bz s)=0:=by rw[pD,Kc (by rw[hn];simp)]
  have a4:pQ (bz s)=0:=by rw[pQ,Kc (by rw[hn];simp)]
  have a5:pG (bz s)=false:=by rw[pG,hn];rfl
  have a6:pE (bz s)=30:=by rw[pE,Kc (by rw[hv];simp)]
  rw[picV,a1,a2,a3,a4,a5,a6,hn,ji4]
def s31(s:Y):Bool×Value:=(decide (s.size≤9223372036854775807),.bool (pN (bz s)))
theorem v31(s:Y)(R:Value→Prop):jax Tryz.prog G28 noL Tryz.f170 [Enc.enc s] (fun _=>none) 0 (fun v _ _=>R v)=(bif co s then pm s (B true) (B false) R else False):=by kernel_rfl
theorem ok31:jan Tryz.prog 170 (sp1 s31):=by
 refine jb6 ok_G28 hmix (.m Tryz.func170) jal jag fun s hc=> ?_
 rw[ja4,v31];delta pm co;have hc:(s.size≤9223372036854775807):=jab hc
 try dsimp only[s31]
 refine c_t (jaa hc) (Ka (fun h k cap d _ _=> ?_) (fun h=> ?_))
 ·rw[h]
 ·rw[h]
def G29:Env:=Env.nil.add 26 (sp1 s35)
theorem ok_G29:ja3 Tryz.prog G29:=jaj jav ok35
def s33(s:Y):Bool×Value:=(decide (s.size≤9223372036854775807),.int .i64 (pE (bz s)))
theorem v33(s:Y)(R:Value→Prop):jax Tryz.prog G29 noL Tryz.f122 [Enc.enc s] (fun _=>none) 0 (fun v _ _=>R v)=(bif decide (s.size≤9223372036854775807)then R (I (pE (bz s)))else False):=by kernel_rfl
theorem ok33:jan Tryz.prog 122 (sp1 s33):=by
 refine jb6 ok_G29 hmix (.m Tryz.func122) jal jag fun s hc=> ?_
 rw[ja4,v33];have hc:(s.size≤9223372036854775807):=jab hc
 try dsimp only[s33]
 exact c_t (jaa hc) rfl
def s46(s:Y):Bool×Value:=(decide (s.size≤9223372036854775807),.tuple ⟨[tyV (bz s),.int .i64 (pE (bz s))]⟩)
theorem v46(s:Y)(R:Value→Prop):jax Tryz.prog G29 noL Tryz.f172 [Enc.enc s] (fun _=>none) 0 (fun v _ _=>R v)=(pb s R):=by kernel_rfl
theorem ok46:jan Tryz.prog 172 (sp1 s46):=by
 refine jb6 ok_G29 hmix (.m Tryz.func172) jal jag fun s hc=> ?_
 rw[ja4,v46];delta aq cu ay cv ak co pb;have hc:(s.size≤9223372036854775807):=jab hc
 try dsimp only[s46]
 rw[jn1];refine c_t (jaa hc) (Ka (fun h=> ?_) (fun h=> ?_))
 ·have h:vOK (bz s)=false:=by simpa using h
  have hn:pN (bz s)=false:=by
   cases q:pN (bz s)with
   | false=>rfl
   | true=>rw[jdg q]at h;cases h
  simp[tyV,tyK,tyP,pQ,h,hn]
 ·have h:vOK (bz s)=true:=by simpa using h
  apply Ka<;>intro hn
  ·simp[tyV,tyK,tyP,pE,h,hn]
  ·simp[tyV,tyK,tyP,pE,pQ,h,hn]
theorem jgk{l:O}(h:pN l=true):NumL (pS l)∧okR (rolF (pS l))∧(rolF (pS l)).map rmk=jaq (pS l):=by
 have hv:=jdg h;have e:pS l=exZ l:=by rw[pS,Kd hv]
 simp only[pN,jaf]at h;rw[e];have hL:=(num_law (l:=exZ l) fun c hm=>(ji0 (joc l)).2 c (body_sub hm)).2 h.2
 have hm:(rolF (exZ l)).map rmk=jaq (exZ l):=by
  rw[rolF,List.map_append,hL.roles,jaq];congr 1;cases crZ (exZ l) <;>rfl
 refine⟨hL,?_,hm⟩;intro r hr;rcases Kq.1 hr with hr | hr
 ·exact hL.ok r hr
 ·cases hc:crZ (exZ l)with
  | false=>rw[hc]at hr;cases hr
  | true=>
   rw[hc]at hr;have:r=4∨r=4:=by simpa using hr
   omega
theorem rol_len{l:O}(h:pN l=true):(rolF (pS l)).length=(pS l).length:=by
 have:=congrArg List.length (jgk h).2.2;rw[K9,jer]at this;exact this
end Go.Px
end
noncomputable section
namespace Go.Px
open Go Go.Ab Go.Proofs Go.Shelf Go.RowKit Go.Sort Go.Lib
theorem laysM284:LaysM.n284 Tryz.prog Tryz.lays172_ren:={Tryz.lays172 with
 i0:=by kernel_rfl
 i3:=by kernel_rfl
 i4:=by kernel_rfl
 i5:=by kernel_rfl
 i9:=by kernel_rfl
 i46:=by kernel_rfl
 i53:=by kernel_rfl
 i212:=by kernel_rfl
 m17:=by kernel_rfl}
theorem tab_pow {w : World} (h : TabsIn w.heap.size w) : Lib.TabIs Tryz.prog w "internal/strconv.uint64pow10" .u64 Lib.pow10Tab := by
 obtain⟨_,ty,fr,h2⟩:=h 2 _ rfl;unfold Lib.TabIs World.var?
 have e : Tryz.prog.globalNamed "internal/strconv.uint64pow10" = some 2 := by kernel_rfl
 rw[e];simp only[Option.bind_some,h2];rfl
theorem fmt_small(u:Nat)(hu:u<100)(w:World):Calls Tryz.prog 131 #[.int .u64 u,.int .i64 10] w fun e w'=>e= .returned (.string ⟨(Lib.decDigits u).toArray⟩)∧w'=w:=by
 have mixed:=Tryz.lays172.mixed;have e142:∀args w,(callFunc 194 args).run Tryz.prog w= .ok (.enter 194 args) w:=enters_of Tryz.func194 (by kernel_rfl) rfl;have hw:IntKind.i64.wrap (u:Int)=(u:Int):=by rw[IntKind.wrap_i64];omega
 go_enter Tryz.func131,Tryz.ntmps131
 go_wp2_with (go_at_fn 194;refine(Any.internal_strconv_small (ρ:=Tryz.lays172_ren) {Tryz.lays172 with} u hu _).mono ?_;rintro e w' ⟨rfl,rfl⟩)
 go_ret
 exact⟨rfl,rfl⟩
set_option maxHeartbeats 6400000 in
set_option maxRecDepth 100000 in
theorem fmt_big (u : Nat) (hu : 100 ≤ u) (hu64 : u < 18446744073709551616) (w : World) (htab : Lib.TabIs Tryz.prog w "internal/strconv.uint64pow10" .u64 Lib.pow10Tab) :
  Calls Tryz.prog 131 #[.int .u64 u,.int .i64 10] w fun e w'=>e= .returned (.string ⟨(Lib.decDigits u).toArray⟩)∧ ∃k os,w'=grow (w.drewN k) os:=by
 have mixed:=Tryz.lays172.mixed;have e143:∀args w,(callFunc 195 args).run Tryz.prog w= .ok (.enter 195 args) w:=enters_of Tryz.func195 (by kernel_rfl) rfl;have e144:∀args w,(callFunc 196 args).run Tryz.prog w= .ok (.enter 196 args) w:=enters_of Tryz.func196 (by kernel_rfl) rfl;have hu1:1≤u:=by omega
 have hnd20:Lib.nDigits u≤20:=by have:=Lib.numDigits_eq u hu1 hu64;split at this<;>omega
 have iu:(100:Int)≤(u:Int):=by omega
 have t148:=Tryz.underlying222;have hal:Tryz.prog.arrayLen 222=24:=by simp[Program.arrayLen,Tryz.underlying222]
 have hsl:∀W,(Instr.sliceAt 222 (.pointer (some ⟨w.heap.size,0,none⟩)) none (some (.int .i64 (Lib.nDigits u:Int))) none).run Tryz.prog W= .ok (.slice (some ⟨w.heap.size,0,none⟩) (Lib.nDigits u) 24) W:=fun W=>by
  rw[run_sliceAt_array_h W 222 ⟨w.heap.size,0,none⟩ (by simp[Program.arrayLen,Program.elem,Tryz.underlying222]) .i64 (Lib.nDigits u:Int) (by omega) (by rw[hal];omega)]
  go_simp
 have hH0:=Lib.holds_zero0 w 222 (Lib.nDigits u) (by omega);have hfmt:=Any.internal_strconv_formatBase10 (ρ:=Tryz.lays172_ren) {Tryz.lays172 with} w.heap.size 0 24 u (Array.replicate (Lib.nDigits u) 0) (w.alloc (.cells Lib.zeros24 222)) hH0 (by rw[Array.size_replicate];exact Lib.lt_pow_nDigits u) hu64 (by rw[Array.size_replicate];omega);rw[Array.size_replicate]at hfmt;have HH0:=Lib.hid hH0;clear hH0 hal
 go_enter Tryz.func131,Tryz.ntmps131
 go_wp2_with (first
  | (go_at_fn 195;refine(Any.internal_strconv_numDigits (ρ:=Tryz.lays172_ren) laysM284 u hu1 hu64 _ (Lib.tabIs_alloc htab _)).mono ?_;rintro e w' ⟨rfl,rfl⟩))
 go_at_fn 196
 refine hfmt.mono ?_;rintro e w' ⟨rfl,k,v',dk,rfl,hF⟩
 have hcv:(convert 77 9 (.slice (some ⟨w.heap.size,0,none⟩) (Lib.nDigits u) 24)).run Tryz.prog ((putRow (fun(b:UInt8)=>Value.int .u8 (b.toNat:Int)) (w.alloc (.cells Lib.zeros24 222)) w.heap.size 0 dk).drewN k)= .ok (.string ⟨(Lib.decDigits u).toArray⟩) ((putRow (fun(b:UInt8)=>Value.int .u8 (b.toNat:Int)) (w.alloc (.cells Lib.zeros24 222)) w.heap.size 0 dk).drewN k):=by
  have h:=run_convert_bytes_back (P:=Tryz.prog) ((putRow (fun(b:UInt8)=>Value.int .u8 (b.toNat:Int)) (w.alloc (.cells Lib.zeros24 222)) w.heap.size 0 dk).drewN k) 77 9 5 ⟨w.heap.size,0,none⟩ 24 (Lib.decDigits u) Tryz.underlying77 Tryz.underlying5 Tryz.underlying9 (fun j hj=>by
   rw[Lib.row_is_numeral hF j hj,Lib.add_plain,World.cell?_drewN];exact cell?_putRow (fun(b:UInt8)=>Value.int .u8 (b.toNat:Int)) _ w.heap.size 0 _ dk HH0.out (by rw[hF.size,Array.size_replicate]) j (by rw[hF.size];rw[Lib.decDigits_length]at hj;exact hj))
  rw[Lib.decDigits_length]at h;exact h
 go_wp2
 go_ret
 obtain⟨os,eo⟩:=Lib.fin_at w (.cells Lib.zeros24 222) dk k 0;exact⟨rfl,k,os,eo⟩
def decZ(n:Int):O:=zl (Lib.decDigits n.toNat)
theorem c87:jbt Tryz.prog 84:=cal Tryz.func84 (by kernel_rfl) (by kernel_rfl)
theorem fmt_all(u:Nat)(hu64:u<18446744073709551616)(w:World)(ht:TabsIn w.heap.size w):
  Calls Tryz.prog 131 #[.int .u64 u,.int .i64 10] w fun e w'=>e= .returned (.string ⟨(Lib.decDigits u).toArray⟩)∧RowKit.Below w.heap.size w w':=by
 by_cases hu:u<100
 ·exact(fmt_small u hu w).mono fun e w' ⟨h1,h2⟩=>⟨h1,jci h2⟩
 ·exact(fmt_big u (by omega) hu64 w (tab_pow ht)).mono fun e w' ⟨h1,k,os,h2⟩=>⟨h1,by rw[h2];exact Lib.below_grow _ _ (Kv _) _ _⟩
theorem fmt87(u:Nat)(hu64:u<18446744073709551616)(w:World)(ht:TabsIn w.heap.size w):
  Calls Tryz.prog 84 #[.int .u64 u,.int .i64 10] w fun e w'=>e= .returned (.string ⟨(Lib.decDigits u).toArray⟩)∧RowKit.Below w.heap.size w w':=by
 have mixed:=Tryz.lays172.mixed;have e115:∀args w,(callFunc 131 args).run Tryz.prog w= .ok (.enter 131 args) w:=enters_of Tryz.func131 (by kernel_rfl) rfl
 go_enter Tryz.func84,Tryz.ntmps84
 go_wp2_with (go_at_fn 131;refine(fmt_all u hu64 _ ht).mono ?_;rintro e w' ⟨rfl,hb⟩)
 go_ret
 exact⟨rfl,hb⟩
def jm2(b:Int):Bool:=b==10
def s87(n:U64)(b:Int):Bool×Value:=(decide (0≤n.n∧n.n<18446744073709551616) &&jm2 b,.string (sz (decZ n.n)))
theorem ok87:jan Tryz.prog 84 (sp2 s87):=jdf c87 fun n b hc w ht=>by
 simp only[s87,jm2,jaf,jae,K4]at hc;obtain⟨⟨h0,h1⟩,rfl⟩:=hc
 have e:Enc.enc n=Value.int .u64 (n.n.toNat:Int):=by
  show Value.int .u64 n.n=_;rw[Int.toNat_of_nonneg h0]
 rw[e];refine(fmt87 n.n.toNat (by omega) w ht).mono fun e w' ⟨h4,h5⟩=>⟨?_,h5⟩
 rw[h4,jhk];rfl
end Go.Px
end
section
namespace Go.Px
open Go Go.Ab Go.Proofs
def dval(l:O):Int:=numZ l 0
theorem jjo:∀(l:O)(a:Int),numZ l a=a*tenZ l.length+numZ l 0
 | [],a=>by simp[numZ,tenZ]
 | c::r,a=>by
  rw[numZ,jjo r,numZ,jjo r (0*10+(c-48)),List.length_cons,tenZ_succ,Int.add_mul,Int.add_mul,Int.mul_assoc,Int.mul_comm 10 (tenZ r.length)];omega
theorem jei(a b:O):dval (a++b)=dval a*tenZ b.length+dval b:=by
 have:∀(l:O)(x:Int),numZ (l++b) x=numZ b (numZ l x):=by
  intro l
  induction l with
  | nil=>exact fun _=>rfl
  | cons c r ih=>exact fun x=>ih _
 rw[dval,this,jjo b];rfl
theorem jio(l:O)(c:Int):dval (l++ [c])=dval l*10+(c-48):=by
 rw[jei];simp[dval,numZ,tenZ]
theorem jit{a b:O}:dgL (a++b)=true↔dgL a=true∧dgL b=true:=by simp[dgL]
theorem jhu{c:Int}{l:O}:dgL (c::l)=true↔(48≤c∧c≤57)∧dgL l=true:=by simp[dgL]
theorem jc9(n:Nat):0<tenZ n:=by unfold tenZ;exact Int.pow_pos (by decide)
theorem jdz:∀l:O,dgL l=true→0≤dval l∧dval l<tenZ l.length
 | [],_=>by simp[dval,numZ,tenZ]
 | c::r,h=>by
  obtain⟨h1,h2⟩:=jhu.1 h;have ih:=jdz r h2
  have e:dval (c::r)=(c-48)*tenZ r.length+dval r:=by
   have:=jei [c] r;simpa[dval,numZ]using this
  have hp:=jc9 r.length;rw[e,List.length_cons,tenZ_succ];have h3:(c-48)*tenZ r.length≤9*tenZ r.length:=Int.mul_le_mul_of_nonneg_right (by omega) (by omega);have h4:0≤(c-48)*tenZ r.length:=Int.mul_nonneg (by omega) (by omega);omega
theorem dval_head{c:Int}{r:O}(h:dgL (c::r)=true)(hc:c≠48):tenZ r.length≤dval (c::r):=by
 obtain⟨h1,h2⟩:=jhu.1 h;have ih:=jdz r h2
 have e:dval (c::r)=(c-48)*tenZ r.length+dval r:=by
  have:=jei [c] r;simpa[dval,numZ]using this
 have hp:=jc9 r.length;have h3:1*tenZ r.length≤(c-48)*tenZ r.length:=Int.mul_le_mul_of_nonneg_right (by omega) (by omega);rw[e];omega
theorem dec_spec(u:Nat):dgL (zl (Lib.decDigits u))=true∧dval (zl (Lib.decDigits u))=u:=by
 induction u using Nat.strongRecOn with
 | _ u ih=>
  rw[Lib.decDigits];split
  ·rename_i h
   have e:(((UInt8.ofNat (48+u)).toNat:Nat):Int)=48+u:=by
    simp only[UInt8.toNat_ofNat'];omega
   simp only[zl,List.map_cons,List.map_nil,e];exact⟨by simp[dgL];omega,by simp[dval,numZ];omega⟩
  ·rename_i h;obtain⟨h1,h2⟩:=ih (u/10) (by omega)
   have e:(((UInt8.ofNat (48+u%10)).toNat:Nat):Int)=48+(u%10:Nat):=by
    simp only[UInt8.toNat_ofNat'];omega
   have es:zl (Lib.decDigits (u/10)++ [UInt8.ofNat (48+u%10)])=zl (Lib.decDigits (u/10))++ [48+((u%10:Nat):Int)]:=by
    simp only[zl,List.map_append,List.map_cons,List.map_nil,e]
   rw[es];refine⟨jit.2 ⟨h1,by simp[dgL];omega⟩,?_⟩;rw[jio,h2];omega
theorem jis:∀(n:Nat)(l:O),l.length=n→dgL l=true→digZ (dval l) n=l
 | 0,l,hl,_=>by rw[KF.1 hl];rfl
 | n+1,l,hl,h=>by
  rcases List.eq_nil_or_concat l with rfl | ⟨a,c,rfl⟩
  ·cases hl
  ·rw[List.concat_eq_append]at h hl ⊢;obtain⟨h1,h2⟩:=jit.1 h;have h2:=(jhu.1 h2).1;rw[digZ,jio];have e1:(dval a*10+(c-48))/10=dval a:=by omega
   have e2:48+(dval a*10+(c-48))%10=c:=by omega
   rw[e1,e2,jis n a (by simpa using hl) h1]
theorem digZ_val(l:O)(h:dgL l=true):digZ (dval l) l.length=l:=jis _ l rfl h
theorem digZ_drop:∀(d k:Nat)(v:Int),d≤k→(digZ v k).drop (k-d)=digZ v d
 | 0,k,v,_=>by
  rw[Nat.sub_zero];exact KD (by rw[jd0];exact Kv _)
 | d+1,0,v,h=>by omega
 | d+1,k+1,v,h=>by
  rw[digZ,digZ,List.drop_append_of_le_length (by rw[jd0];omega),show k+1-(d+1)=k-d by omega,digZ_drop d k _ (by omega)]
theorem digZ_last{l:O}(h:dgL l=true){d:Nat}(hd:d≤l.length):l.drop (l.length-d)=digZ (dval l) d:=by
 have:=digZ_drop d l.length (dval l) hd;rwa [digZ_val l h]at this
theorem jj5:∀(d:Nat)(v:Int),0≤v→digZ (v%tenZ d) d=digZ v d
 | 0,_,_=>rfl
 | d+1,v,h=>by
  obtain⟨n,rfl⟩:∃n:Nat,v=n:=⟨v.toNat,by omega⟩
  have et:tenZ (d+1)=((10*10^d:Nat):Int):=by
   unfold tenZ;rw[Nat.mul_comm,←Nat.pow_succ];simp
  have ed:tenZ d=((10^d:Nat):Int):=by unfold tenZ;simp
  have e1:((n:Int)%tenZ (d+1))/10=((n:Int)/10)%tenZ d:=by
   rw[et,ed];have:=Nat.mod_mul_right_div_self n 10 (10^d)
   exact_mod_cast this
  have e2:((n:Int)%tenZ (d+1))%10=(n:Int)%10:=by
   rw[et];have:=Nat.mod_mul_right_mod n 10 (10^d)
   exact_mod_cast this
  rw[digZ,digZ,e1,e2,jj5 d _ (by omega)]
theorem dval_take{l:O}(h:dgL l=true)(k:Nat):dval (l.take (l.length-k))=dval l/tenZ k:=by
 by_cases hk:k≤l.length
 ·have e:=KC (l.length-k) l;have hh:dgL (l.take (l.length-k)++l.drop (l.length-k))=true:=by rw[e];exact h
  have h2:=(jit.1 hh).2;have r:=jdz _ h2;have el:(l.drop (l.length-k)).length=k:=by rw[KE];omega
  have ev:=jei (l.take (l.length-k)) (l.drop (l.length-k));rw[e,el]at ev;rw[el]at r;have hp:=jc9 k;rw[ev,Int.add_comm,Int.add_mul_ediv_right _ _ (by omega),Int.ediv_eq_zero_of_lt r.1 r.2,Int.zero_add]
 ·have:l.length-k=0:=by omega
  rw[this,List.take_zero];have r:=jdz l h
  have hle:tenZ l.length≤tenZ k:=by
   unfold tenZ;have:(10:Nat) ^l.length≤10^k:=Nat.pow_le_pow_right (by decide) (by omega)
   exact_mod_cast this
  rw[Int.ediv_eq_zero_of_lt r.1 (by omega)];rfl
theorem jj2(k:Nat):dval (rep1 48 k)=0∧dgL (rep1 48 k)=true:=by
 induction k with
 | zero=>exact⟨rfl,rfl⟩
 | succ k ih=>
  have e:rep1 48 (k+1)=48::rep1 48 k:=rfl;rw[e];refine⟨?_,jhu.2 ⟨by omega,ih.2⟩⟩;have:=jei [48] (rep1 48 k);rw[ih.1]at this;rw[List.singleton_append]at this;rw[this];simp[dval,numZ]
theorem jfx:∀l:O,dval (l.dropWhile (· ==48))=dval l
 | []=>rfl
 | c::r=>by
  rw[List.dropWhile_cons];cases h:c==48 with
  | false=>simp
  | true=>
   rw[Kd rfl,jfx r];have:=jei [c] r;rw[eq_of_beq h]at this ⊢;simp[dval,numZ]
theorem dgL_strip{l:O}(h:dgL l=true):dgL (l.dropWhile (· ==48))=true:=by
 simp only[dgL,Kf]at h ⊢;exact fun c hc=>h c ((Kt _).subset hc)
theorem strip_head:∀l:O,l.dropWhile (· ==48)=[]∨ ∃c r,l.dropWhile (· ==48)=c::r∧c≠48
 | []=> .inl rfl
 | c::r=>by
  rw[List.dropWhile_cons];cases h:c==48 with
  | true=>rw[Kd rfl];exact strip_head r
  | false=>exact .inr ⟨c,r,by simp,by simpa using h⟩
theorem tenZ_mono{a b:Nat}(h:a≤b):tenZ a≤tenZ b:=by
 unfold tenZ;have:(10:Nat) ^a≤10^b:=Nat.pow_le_pow_right (by decide) h
 exact_mod_cast this
theorem strip_len{l:O}(h:dgL l=true)(d:Nat):(l.dropWhile (· ==48)).length≤d↔dval l<tenZ d:=by
 have hs:=dgL_strip h;have r:=jdz _ hs;rw[jfx]at r;constructor
 ·intro hl;have:=tenZ_mono hl;omega
 ·intro hv;rcases strip_head l with e | ⟨c,t,e,hc⟩
  ·rw[e];exact Nat.zero_le _
  ·have:=dval_head (e▸hs) hc;rw[←e,jfx]at this;rw[e,List.length_cons];have hlt:¬d≤t.length:=fun q=>by have:=tenZ_mono q;omega
   omega
theorem strip_nil{l:O}(h:dgL l=true):l.dropWhile (· ==48)=[]↔dval l=0:=by
 have r:=strip_len h 0;have hv:=(jdz l h).1;have e:tenZ 0=1:=rfl;rw[e,Nat.le_zero,KF]at r;rw[r];omega
theorem jj3:∀(d:Nat)(v:Int),0≤v→dval (digZ v d)=v%tenZ d
 | 0,v,_=>by simp[digZ,dval,numZ,tenZ]
 | d+1,v,h=>by
  have e:=jj5 (d+1) v h;have r:=jdz (digZ v (d+1)) (jfm _ _);rw[digZ,jio,jj3 d _ (by omega)];obtain⟨n,rfl⟩:∃n:Nat,v=n:=⟨v.toNat,by omega⟩
  have et:tenZ (d+1)=((10*10^d:Nat):Int):=by
   unfold tenZ;rw[Nat.mul_comm,←Nat.pow_succ];simp
  have ed:tenZ d=((10^d:Nat):Int):=by unfold tenZ;simp
  have e1:((n:Int)%tenZ (d+1))/10=((n:Int)/10)%tenZ d:=by
   rw[et,ed];have:=Nat.mod_mul_right_div_self n 10 (10^d)
   exact_mod_cast this
  have e2:((n:Int)%tenZ (d+1))%10=(n:Int)%10:=by
   rw[et];have:=Nat.mod_mul_right_mod n 10 (10^d)
   exact_mod_cast this
  omega
end Go.Px
end
noncomputable section
namespace Go.Px
open Go Go.Ab Go.Proofs Go.Shelf
def fmL(s:Y)(nb:Bool)(w d sc:Int)(sg:Bool)(x k cap:Nat)(dr f:Int)(cr:Bool)(fl fm:Int):J:=
 [.string s,.bool nb,.int .i64 w,.int .i64 d,.int .i64 sc,.bool sg,.slice (some ⟨x,0,some 1⟩) k cap,.int .u8 dr,.int .i64 f,.bool cr,.int .u8 fl,.int .i64 fm]
def vwF(c:J):Lk:=fun j=>match Nat.beq j 0 with | true=>some ⟨c,132,false⟩ | false=>none
def vwF2(c d:J):Lk:=fun j=>match Nat.beq j 0 with | true=>some ⟨c,132,false⟩ | false=>match Nat.beq j 1 with | true=>some ⟨d,221,false⟩ | false=>none
def rho2(a x:Nat):Nat→Nat:=fun j=>match j with | 0=>a | _=>x
theorem sub_F{m:Lk}{a x k cap:Nat}{s:Y}{nb:Bool}{w d sc:Int}{sg:Bool}{dr f:Int}{cr:Bool}{fl fm:Int}{own:Bool}(ha:m a=some ⟨fmL s nb w d sc sg x k cap dr f cr fl fm,132,own⟩):
  SubM m (rho2 a x) (vwF (fmL s nb w d sc sg 1 k cap dr f cr fl fm)) 2:=by
 have hget:∀j b,vwF (fmL s nb w d sc sg 1 k cap dr f cr fl fm) j=some b→j=0∧b=⟨fmL s nb w d sc sg 1 k cap dr f cr fl fm,132,false⟩:=fun j b h=>by
  simp only[vwF]at h;split at h
  ·rename_i h0;cases h;exact⟨jah h0,rfl⟩
  ·cases h
 refine⟨fun j b h=> ?_,fun j b h=> ?_⟩
 ·obtain⟨rfl,rfl⟩:=hget j b h;refine⟨by omega,fun i hi=> ?_⟩;have:i=1:=by simpa[fmL,idsL,ids]using hi
  omega
 ·obtain⟨rfl,rfl⟩:=hget j b h;refine⟨rfl,⟨fmL s nb w d sc sg x k cap dr f cr fl fm,132,own⟩,?_,fun ι=> ?_⟩
  ·show noIt (m a)=_;rw[ha];simp only[noIt];have:(own&&Nat.beq 132 itTy)=false:=by cases own<;>rfl
   rw[this]
  ·simp[fmL,ren,ren1,rho2]
theorem sub_F2{m:Lk}{a x k cap:Nat}{s:Y}{nb:Bool}{w d sc:Int}{sg:Bool}{dr f:Int}{cr:Bool}{fl fm:Int}{own own2:Bool}{r:J}(hr:ja1 r=true)
  (ha:m a=some ⟨fmL s nb w d sc sg x k cap dr f cr fl fm,132,own⟩) (hx:m x=some ⟨r,221,own2⟩):
  SubM m (rho2 a x) (vwF2 (fmL s nb w d sc sg 1 k cap dr f cr fl fm) r) 2:=by
 have hget:∀j b,vwF2 (fmL s nb w d sc sg 1 k cap dr f cr fl fm) r j=some b→(j=0∧b=⟨fmL s nb w d sc sg 1 k cap dr f cr fl fm,132,false⟩)∨(j=1∧b=⟨r,221,false⟩):=fun j b h=>by
  simp only[vwF2]at h;split at h
  ·rename_i h0;cases h;exact .inl ⟨jah h0,rfl⟩
  ·split at h
   ·rename_i h0;cases h;exact .inr ⟨jah h0,rfl⟩
   ·cases h
 refine⟨fun j b h=> ?_,fun j b h=> ?_⟩
 ·rcases hget j b h with⟨rfl,rfl⟩ | ⟨rfl,rfl⟩
  ·refine⟨by omega,fun i hi=> ?_⟩;have:i=1:=by simpa[fmL,idsL,ids]using hi
   omega
  ·exact⟨by omega,fun i hi=>by rw[jao hr]at hi;cases hi⟩
 ·rcases hget j b h with⟨rfl,rfl⟩ | ⟨rfl,rfl⟩
  ·refine⟨rfl,⟨fmL s nb w d sc sg x k cap dr f cr fl fm,132,own⟩,?_,fun ι=> ?_⟩
   ·show noIt (m a)=_;rw[ha];simp only[noIt];have:(own&&Nat.beq 132 itTy)=false:=by cases own<;>rfl
    rw[this]
   ·simp[fmL,ren,ren1,rho2]
  ·refine⟨rfl,⟨r,221,own2⟩,?_,fun ι=>renMap_congr fun k hk=>by rw[jao hr]at hk;cases hk⟩;show noIt (m x)=_;rw[hx];simp only[noIt];have:(own2&&Nat.beq 221 itTy)=false:=by cases own2<;>rfl
   rw[this]
def hideS(sp:Ab.Spec):J→Lk→Nat→(Value→Lk→Nat→Prop)→Prop:=fun args m n K=>match sp args (args.map (blkOf m))with
 | some (c,.string e)=>match cnd c with
  | true=>∀s':Y,e=s'→K (.string s') m n
  | false=>False
 | _=>False
theorem jjx{P:Program}{f:FuncId}{sp:Ab.Spec}(h:jan P f sp):jcw P f (hideS sp):=by
 obtain⟨hc,hp⟩:=h;refine⟨hc,fun args m n K hh N w0 ι w hrel hwf hargs=> ?_⟩;unfold hideS at hh;split at hh
 case h_2=>exact hh.elim
 rename_i c e hs;split at hh
 case h_2=>exact hh.elim
 rename_i hcc;have hcc:c=true:=hcc;subst hcc;refine(hp args (.string e) N w0 m ι w hrel hs rfl).mono fun e' w' ⟨h1,h2⟩=> ?_
 exact⟨.string e,m,n,ι,by rw[h1];rfl,hh e rfl,Kv _,fun _ _=>rfl,hrel.grow h2,hwf,by simp[ids]⟩
def G31:Env:=(((Env.nil.add 124 (sp2 s89)).addG 84 (hideS (sp2 s87))).addG 110 (hideS (sp2 s88))).addG 114 (hideS (sp2 s78))
theorem ok_G31:ja3 Tryz.prog G31:=jau (jau (jau (jaj jav ok89) (jjx ok87)) (jjx ok88)) (jjx ok78)
def jx(a b:Y):Int:=((a++b).size:Int)
def mq(a b:Y)(c:Int):Y:=(a++b).extract (fx (jx a b-c)) (a++b).size
def qm(d:Bool)(a:Y)(b c:Int):Bool:=decide (al a≤b) && (decide (c≥0) || (d || ez a ay))
def f9:Y:=⟨#[48]⟩
def sa(a g:Bool)(d:Y)(e f:Int)(h:Value→Prop):Prop:=bif a then∀b:Y,sz ((bz d).dropWhile (fun c:Int=>c==jy 48))=b→go (decide (al b≤e)) (decide (f≥0) || (g || true)) true (ig f9 (imax 0 (cm e (al b))) 1000 1000) (∀c:Y,sz (repZ (bz f9) (imax 0 (cm e (al b))).toNat)=c→(bif f8 c b then jb (c7 0 (cm (jx c b) e) (jx c b) (jx c b) (jx c b)) (bv (dw f) (bif g then fy (mq c b e) &&ky [] 48&&true else true) true) (aq [.bool (dw f&& (g&& !jn (mq c b e) [] 48)),.bool (bv (dw f) (bif g then qm g b e f else qm g b e f) (qm g b e f))] (.string (bif dw f then bif g then mq c b e else mq c b e else mq c b e))) h else False)) False else False
def rf(f:Bool)(c d e g h:Int)(i:Value→Prop):Prop:=bif cl (IntKind.u64.wrap c) 18446744073709551616&&true then∀a:Y,sz (decZ (IntKind.u64.wrap c))=a→(bif decide (d≥e)then bif ig f9 (dt d e) 1000 1000 then∀b:Y,sz (repZ (bz f9) (dt d e).toNat)=b→sa (f8 a b) f (a++b) g h i else False else sa (c7 0 0 (imax 0 (cm (al a) (dt e d))) (imax 0 (cm (al a) (dt e d))) (al a)) f (a.extract 0 (imax 0 (cm (al a) (dt e d))).toNat) g h i)else False
theorem v63(s:Y)(nb:Bool)(w:Int)(d:Int)(sc:Int)(sg:Bool)(k:Nat)(cap:Nat)(dr:Int)(f:Int)(cr:Bool)(fl:Int)(fm:Int)(n:Int)(q:Int)(R:Value→Prop):(jax Tryz.prog G31 noL Tryz.f282 [.pointer (some ⟨0,0,some 0⟩),I n,I q] (vwF (fmL s nb w d sc sg 1 k cap dr f cr fl fm)) 2 (fun v _ _=>R v))=(bif dw n then rf sg (0-IntKind.u64.wrap n) sc q d n R else rf sg n sc q d n R):=by kernel_rfl
theorem jmt:∀k:Nat,repZ [48] k=rep1 48 k
 | 0=>rfl
 | k+1=>by rw[repZ,jmt k];rfl
theorem all48{l:O}(h:dgL l=true):(∀c∈l,hasZ [48] c=true)↔dval l=0:=by
 rw[←strip_nil h,jip];constructor
 ·intro q c hc;have:=q c hc;rw[jbj]at this;simpa using this
 ·intro q c hc;rw[jbj];simpa using q c hc
theorem jgy(s:Y):(s.toList==ByteArray.toList (ByteArray.mk #[]))=(bz s).isEmpty:=by
 rw[jcv];have:bz ⟨#[]⟩=[]:=rfl;rw[this];cases bz s<;>rfl
theorem trim_isB{l cs:O}(h:IsB l):IsB (jcm l cs):=by
 intro c hc;refine h c ?_;unfold jcm at hc;have:=Kt _ |>.subset hc
 have:c∈l.reverse.dropWhile (hasZ cs):=by simpa using this
 simpa using Kt _ |>.subset this
theorem jhw{n d M:Int}{sg:Bool}{l1:O}{s1:Y}(hs1:bz s1=l1)(hdg:dgL l1=true)(hv:dval l1=M)(hlen:l1.length≤100)(hd:0≤d∧d≤9){R:Value→Prop}
  (hR:R (.tuple ⟨[.string (sz (digZ (M%tenZ d.toNat) d.toNat)),.bool (decide (n<0) && (sg&& !(M%tenZ d.toNat==0))),.bool (decide (M<tenZ d.toNat) && (decide (n≥0) || (sg || M%tenZ d.toNat==0)))]⟩)):
  ∀(s2:Y),sz (List.dropWhile (fun x=>x==List.getD (bz (ByteArray.mk #[48])) 0 0) (bz s1))=s2→
   bif bif decide ((↑(ByteArray.size s2):Int)≤d)then decide (n≥0) || (sg || true)else true then
    bif decide (0≤imax 0 (IntKind.wrap IntKind.i64 (d-(↑(ByteArray.size s2):Int)))∧imax 0 (IntKind.wrap IntKind.i64 (d-(↑(ByteArray.size s2):Int)))≤1000∧ByteArray.size (ByteArray.mk #[48])≤1000)then
     ∀(s':Y),sz (repZ (bz (ByteArray.mk #[48])) (Int.toNat (imax 0 (IntKind.wrap IntKind.i64 (d-(↑(ByteArray.size s2):Int))))))=s'→
      bif jbf (ByteArray.size s'+ByteArray.size s2)then
       bif decide (0≤IntKind.wrap IntKind.i64 ((↑(ByteArray.size (s'++s2)):Int)-d)∧IntKind.wrap IntKind.i64 ((↑(ByteArray.size (s'++s2)):Int)-d)≤(↑(ByteArray.size (s'++s2)):Int)∧(↑(ByteArray.size (s'++s2)):Int)≤(↑(ByteArray.size (s'++s2)):Int))then
        bif bif decide (n<0)then bif sg then decide (ByteArray.size (ByteArray.extract (s'++s2) (Int.toNat (IntKind.wrap IntKind.i64 ((↑(ByteArray.size (s'++s2)):Int)-d))) (ByteArray.size (s'++s2)))≤1000) && (decide (ByteArray.size (ByteArray.mk #[48])≤1000) &&asc (bz (ByteArray.mk #[48]))) &&true else true else true then
         R (Value.tuple (Array.mk [Value.string (bif decide (n<0)then bif sg then ByteArray.extract (s'++s2) (Int.toNat (IntKind.wrap IntKind.i64 ((↑(ByteArray.size (s'++s2)):Int)-d))) (ByteArray.size (s'++s2))else ByteArray.extract (s'++s2) (Int.toNat (IntKind.wrap IntKind.i64 ((↑(ByteArray.size (s'++s2)):Int)-d))) (ByteArray.size (s'++s2))else ByteArray.extract (s'++s2) (Int.toNat (IntKind.wrap IntKind.i64 ((↑(ByteArray.size (s'++s2)):Int)-d))) (ByteArray.size (s'++s2))),
          Value.bool (decide (n<0) && (sg&& !ByteArray.toList (szO (jcm (bz (ByteArray.extract (s'++s2) (Int.toNat (IntKind.wrap IntKind.i64 ((↑(ByteArray.size (s'++s2)):Int)-d))) (ByteArray.size (s'++s2)))) (bz (ByteArray.mk #[48]))))==ByteArray.toList (ByteArray.mk #[]))),
          Value.bool (bif decide (n<0)then bif sg then decide ((↑(ByteArray.size s2):Int)≤d) && (decide (n≥0) || (sg || ByteArray.toList s2==ByteArray.toList (ByteArray.mk #[])))else decide ((↑(ByteArray.size s2):Int)≤d) && (decide (n≥0) || (sg || ByteArray.toList s2==ByteArray.toList (ByteArray.mk #[])))else decide ((↑(ByteArray.size s2):Int)≤d) && (decide (n≥0) || (sg || ByteArray.toList s2==ByteArray.toList (ByteArray.mk #[]))))]))
        else False
       else False
      else False
    else False
   else False:=by
 intro s2 h2;have k0:(bz ⟨#[48]⟩).getD 0 0=48:=rfl;have k1:bz ⟨#[48]⟩=[48]:=rfl;rw[k0,hs1]at h2;have hB:∀{l:O},dgL l=true→IsB l:=jhi;have h2d:=dgL_strip hdg;have b2:bz s2=l1.dropWhile (· ==48):=by rw[←h2,jc7 (hB h2d)]
 have hl2:(l1.dropWhile (· ==48)).length≤100:=KG (Kt _).length_le hlen;have z2:s2.size=(l1.dropWhile (· ==48)).length:=by rw[←jak,b2]
 rw[z2,w64 (n:=d-((l1.dropWhile (· ==48)).length:Int)) (by omega),k1];have hv2:dval (l1.dropWhile (· ==48))=M:=by rw[jfx,hv]
 have hlt:=strip_len hdg d.toNat;have hnl:=strip_nil hdg;rw[hv]at hlt hnl;generalize l1.dropWhile (· ==48)=l2 at*;have hk:0≤imax 0 (d-(l2.length:Int))∧imax 0 (d-(l2.length:Int))≤9∧d≤imax 0 (d-(l2.length:Int))+l2.length:=by unfold imax;split<;>omega
 generalize imax 0 (d-(l2.length:Int))=k at*;refine c_t (by cases decide ((l2.length:Int)≤d) <;>simp) (c_t (jaa ⟨hk.1,by omega,by decide⟩) fun s3 h3=> ?_);obtain⟨r1,r2⟩:=jj2 k.toNat;have b3:bz s3=rep1 48 k.toNat:=by rw[←h3,jmt,jc7 (hB r2)]
 have z3:s3.size=k.toNat:=by rw[←jak,b3];simp[rep1]
 have bE:bz (s3++s2)=rep1 48 k.toNat++l2:=by rw[jb0,b3,b2]
 have zE:(s3++s2).size=k.toNat+l2.length:=by rw[←jak,bE,Kk];simp[rep1]
 rw[zE,w64 (n:=((k.toNat+l2.length:Nat):Int)-d) (by omega)];refine c_t (by simp only[jbf,Nat.ble_eq];omega) (c_t (jaa (by omega)) ?_);have d3:dgL (rep1 48 k.toNat++l2)=true:=jit.2 ⟨r2,h2d⟩;have v3:dval (rep1 48 k.toNat++l2)=M:=by rw[jei,r1,hv2];omega
 have l3:(rep1 48 k.toNat++l2).length=k.toNat+l2.length:=by rw[Kk];simp[rep1]
 have hM:0≤M:=by have:=(jdz _ d3).1;omega
 have bx:bz ((s3++s2).extract (((k.toNat+l2.length:Nat):Int)-d).toNat (k.toNat+l2.length))=digZ (M%tenZ d.toNat) d.toNat:=by
  rw[jb5,bE,Kw (by rw[l3];exact Kv _)];have:=digZ_last d3 (d:=d.toNat) (by rw[l3];omega);rw[v3,l3]at this;rw[jj5 _ _ hM,←this];congr 1;omega
 have ex:(s3++s2).extract (((k.toNat+l2.length:Nat):Int)-d).toNat (k.toNat+l2.length)=sz (digZ (M%tenZ d.toNat) d.toNat):=by rw[←bx,jh2]
 have hdd:=jfm d.toNat (M%tenZ d.toNat);rw[ex,jc7 (hB hdd),jcx,jgy,jc7 (trim_isB (hB hdd)),jgy,b2]
 have e1:(jcm (digZ (M%tenZ d.toNat) d.toNat) [48]).isEmpty=(M%tenZ d.toNat==0):=by
  have hm:=Int.emod_nonneg M (b:=tenZ d.toNat) (by have:=jc9 d.toNat;omega);have hm2:=Int.emod_lt_of_pos M (jc9 d.toNat);have hz:dval (digZ (M%tenZ d.toNat) d.toNat)=M%tenZ d.toNat:=by rw[jj3 _ _ hm,Int.emod_eq_of_lt hm hm2]
  rw[Kl,List.isEmpty_iff,jjf,all48 hdd,hz,K4]
 have e2:(decide ((l2.length:Int)≤d) && (decide (n≥0) || (sg || l2.isEmpty)))=(decide (M<tenZ d.toNat) && (decide (n≥0) || (sg || M%tenZ d.toNat==0))):=by
  by_cases hq:M<tenZ d.toNat
  ·have h5:(l2.length:Int)≤d:=by have:=hlt.2 hq;omega
   have h6:l2.isEmpty=(M%tenZ d.toNat==0):=by
    rw[Int.emod_eq_of_lt hM hq,Kl,List.isEmpty_iff,hnl,K4]
   rw[jaa hq,jaa h5,h6]
  ·have h5:¬(l2.length:Int)≤d:=fun q=>hq (hlt.1 (by omega))
   rw[jad hq,jad h5];rfl
 rw[e1,e2,jco,jd0];have a1:decide (d.toNat≤1000)=true:=jaa (by omega);rw[a1];refine c_t (by cases decide (n<0) <;>cases sg<;>rfl) ?_;cases hn:decide (n<0) <;>cases sg<;>simpa[hn]using hR
def cutV(n q sc d:Int)(sg:Bool):Value:= .tuple ⟨[.string (sz (digZ ((cuN n q sc d sg).natAbs:Int) d.toNat)),.bool (decide (cuN n q sc d sg<0)),.bool (cuF n q sc d sg)]⟩
theorem cutV_eq{n q sc d:Int}{sg:Bool}(hM:0≤cuM n q sc):cutV n q sc d sg= .tuple ⟨[.string (sz (digZ (cuM n q sc%tenZ d.toNat) d.toNat)),.bool (decide (n<0) && (sg&& !(cuM n q sc%tenZ d.toNat==0))),.bool (decide (cuM n q sc<tenZ d.toNat) && (decide (n≥0) || (sg || cuM n q sc%tenZ d.toNat==0)))]⟩:=by
 have hm:=Int.emod_nonneg (cuM n q sc) (b:=tenZ d.toNat) (by have:=jc9 d.toNat;omega)
 have e1:((cuN n q sc d sg).natAbs:Int)=cuM n q sc%tenZ d.toNat:=by
  unfold cuN cuV;split<;>omega
 have e2:decide (cuN n q sc d sg<0)=(decide (n<0) && (sg&& !(cuM n q sc%tenZ d.toNat==0))):=by
  unfold cuN cuV;rw[Kl];simp only[jae,jaf,Ks,beq_eq_false_iff_ne];split
  ·rename_i h;constructor
   ·exact fun q=>⟨h.1,h.2,by omega⟩
   ·exact fun q=>by omega
  ·rename_i h;constructor
   ·exact fun q=>by omega
   ·exact fun q=>absurd ⟨q.1,q.2.1⟩ h
 rw[cutV,e1,e2];rfl
theorem w63(s:Y)(nb:Bool)(w:Int)(d:Int)(sc:Int)(sg:Bool)(k:Nat)(cap:Nat)(dr:Int)(f:Int)(cr:Bool)(fl:Int)(fm:Int)(n q:Int)(hn: -9223372036854775808≤n∧n≤9223372036854775807)(hq:0≤q∧q≤9)(hsc:0≤sc∧sc≤9)(hd:0≤d∧d≤9){R:Value→Prop}(hR:R (cutV n q sc d sg)):
  jel Tryz.prog G31 noL Tryz.f282 [.pointer (some ⟨0,0,some 0⟩),.int .i64 n,.int .i64 q] (vwF (fmL s nb w d sc sg 1 k cap dr f cr fl fm)) 2 (fun v _ _=>R v):=by
 rw[jel,v63];delta av go br jb aq fx jx mq dw bv ez ay al qm j2 jn fy ky c7 cm f8 f9 ig jy sa dt cl rf;obtain⟨u,hu⟩:∃u:Nat,n.natAbs=u:=⟨_,rfl⟩
 obtain⟨U,hU⟩:∃U:Int,U=u:=⟨_,rfl⟩
 obtain⟨g1,g2⟩:=dec_spec u
 have gl:(zl (Lib.decDigits u)).length≤20:=by
  rw[zl,K9,Lib.decDigits_length];exact Lib.nDigits_le20 u (by omega)
 have eD:decZ U=zl (Lib.decDigits u):=by rw[hU,decZ,Int.toNat_natCast]
 have eM1:sc≥q→cuM n q sc=u*tenZ (sc-q).toNat:=fun h=>by
  unfold cuM;split
  ·have:sc=q:=by omega
   rw[this,hu,Int.sub_self];simp[tenZ]
  ·rw[hu]
 have eM2:¬sc≥q→cuM n q sc=u/tenZ (q-sc).toNat:=fun h=>by
  unfold cuM;rw[Kd (by omega),hu]
 have hM:0≤cuM n q sc:=by
  by_cases h:sc≥q
  ·rw[eM1 h];exact Int.mul_nonneg (by omega) (by have:=jc9 (sc-q).toNat;omega)
  ·rw[eM2 h];exact Int.ediv_nonneg (by omega) (by have:=jc9 (q-sc).toNat;omega)
 have k1:bz ⟨#[48]⟩=[48]:=rfl
 have tail1:∀(s1 s2:Y),sz (decZ U)=s1→sc≥q→sz (repZ (bz (ByteArray.mk #[48])) (Int.toNat (sc-q)))=s2→jbf (s1.size+s2.size)=true∧bz (s1++s2)=zl (Lib.decDigits u)++rep1 48 (sc-q).toNat:=fun s1 s2 h1 h2 h3=>by
  have r:=jj2 (sc-q).toNat;have b1:bz s1=zl (Lib.decDigits u):=by rw[←h1,eD,jc7 (jhi g1)]
  have b2:bz s2=rep1 48 (sc-q).toNat:=by rw[←h3,k1,jmt,jc7 (jhi r.2)]
  have z1:s1.size≤20:=by rw[←jak,b1];exact gl
  have z2:s2.size≤9:=by rw[←jak,b2];simp[rep1];omega
  exact⟨by simp only[jbf,Nat.ble_eq];omega,by rw[jb0,b1,b2]⟩
 have tv1:∀h:sc≥q,dgL (zl (Lib.decDigits u)++rep1 48 (sc-q).toNat)=true∧dval (zl (Lib.decDigits u)++rep1 48 (sc-q).toNat)=cuM n q sc∧(zl (Lib.decDigits u)++rep1 48 (sc-q).toNat).length≤100:=fun h=>by
  have r:=jj2 (sc-q).toNat;refine⟨jit.2 ⟨g1,r.2⟩,?_,?_⟩
  ·rw[jei,g2,r.1,eM1 h];simp[rep1]
  ·rw[Kk];simp only[rep1,Km];omega
 have tail2:∀(s1:Y),sz (decZ U)=s1→ ¬sc≥q→(0≤imax 0 ((s1.size:Int)-(q-sc))∧imax 0 ((s1.size:Int)-(q-sc))≤s1.size)∧s1.size≤20∧bz (s1.extract 0 (Int.toNat (imax 0 ((s1.size:Int)-(q-sc)))))=(zl (Lib.decDigits u)).take ((zl (Lib.decDigits u)).length-(q-sc).toNat):=fun s1 h1 h2=>by
  have b1:bz s1=zl (Lib.decDigits u):=by rw[←h1,eD,jc7 (jhi g1)]
  have z1:s1.size=(zl (Lib.decDigits u)).length:=by rw[←jak,b1]
  refine⟨by unfold imax;split<;>omega,by omega,?_⟩;rw[jb5,b1,List.drop_zero];congr 1;unfold imax;split<;>omega
 have tv2:∀h:¬sc≥q,dgL ((zl (Lib.decDigits u)).take ((zl (Lib.decDigits u)).length-(q-sc).toNat))=true∧dval ((zl (Lib.decDigits u)).take ((zl (Lib.decDigits u)).length-(q-sc).toNat))=cuM n q sc∧((zl (Lib.decDigits u)).take ((zl (Lib.decDigits u)).length-(q-sc).toNat)).length≤100:=fun h=>by
  refine⟨?_,?_,?_⟩
  ·simp only[dgL,Kf]at g1 ⊢;exact fun c hc=>g1 c (List.mem_of_mem_take hc)
  ·rw[dval_take g1,g2,eM2 h]
  ·rw[Kp];omega
 rw[cutV_eq hM]at hR;apply Ka<;>intro hneg
 ·have hneg':=jab hneg;have e:IntKind.wrap .u64 (0-IntKind.wrap .u64 n)=U:=by rw[jnj,jnj];omega
  rw[e,w64 (n:=sc-q) (by omega),w64 (n:=q-sc) (by omega)];refine c_t (by rw[jaa (show(0:Int)≤U∧U<18446744073709551616 by omega)];rfl) fun s1 h1=>Ka (fun h=> ?_) (fun h=> ?_)
  ·have h:=jab h;refine c_t (jaa ⟨by omega,by omega,by decide⟩) fun s2 h2=> ?_
   obtain⟨a1,a2⟩:=tail1 s1 s2 h1 h h2;obtain⟨t1,t2,t3⟩:=tv1 h;exact c_t a1 (jhw a2 t1 t2 t3 hd hR)
  ·have h:=jac h;obtain⟨a1,a2,a3⟩:=tail2 s1 h1 h;obtain⟨t1,t2,t3⟩:=tv2 h;rw[w64 (n:=(s1.size:Int)-(q-sc)) (by omega)];have b1:decide ((0:Int)≤0∧0≤imax 0 ((s1.size:Int)-(q-sc))∧imax 0 ((s1.size:Int)-(q-sc))≤(s1.size:Int))=true:=jaa ⟨by decide,a1.1,a1.2⟩;exact c_t b1 (jhw a3 t1 t2 t3 hd hR)
 ·have hneg':=jac hneg;have e:IntKind.wrap .u64 n=U:=by rw[jnj];omega
  rw[e,w64 (n:=sc-q) (by omega),w64 (n:=q-sc) (by omega)];refine c_t (by rw[jaa (show(0:Int)≤U∧U<18446744073709551616 by omega)];rfl) fun s1 h1=>Ka (fun h=> ?_) (fun h=> ?_)
  ·have h:=jab h;refine c_t (jaa ⟨by omega,by omega,by decide⟩) fun s2 h2=> ?_
   obtain⟨a1,a2⟩:=tail1 s1 s2 h1 h h2;obtain⟨t1,t2,t3⟩:=tv1 h;exact c_t a1 (jhw a2 t1 t2 t3 hd hR)
  ·have h:=jac h;obtain⟨a1,a2,a3⟩:=tail2 s1 h1 h;obtain⟨t1,t2,t3⟩:=tv2 h;rw[w64 (n:=(s1.size:Int)-(q-sc)) (by omega)];have b1:decide ((0:Int)≤0∧0≤imax 0 ((s1.size:Int)-(q-sc))∧imax 0 ((s1.size:Int)-(q-sc))≤(s1.size:Int))=true:=jaa ⟨by decide,a1.1,a1.2⟩;exact c_t b1 (jhw a3 t1 t2 t3 hd hR)
def i64B(n:Int):Bool:=decide (-9223372036854775808≤n∧n≤9223372036854775807)
def h63:J→Lk→Nat→(Value→Lk→Nat→Prop)→Prop:=fun args m n K=>match args with
 | [.pointer (some ⟨a,0,some 0⟩),.int .i64 x,.int .i64 q]=>match m a with
  | some ⟨[.string s,.bool nb,.int .i64 w,.int .i64 d,.int .i64 sc,.bool sg,.slice (some ⟨y,0,some 1⟩) k cap,.int .u8 dr,.int .i64 f,.bool cr,.int .u8 fl,.int .i64 fm],132,own⟩=>
   match cnd (i64B x&& (decide (0≤q∧q≤9) && (decide (0≤sc∧sc≤9) &&decide (0≤d∧d≤9))))with
   | true=>K (cutV x q sc d sg) m n
   | false=>False
  | _=>False
 | _=>False
theorem h63_ok:jcw Tryz.prog 282 h63:=by
 refine jii ok_G31 hmix (.m Tryz.func282) jal fun args m n K h=> ?_
 unfold h63 at h;split at h
 case h_2=>exact h.elim
 rename_i a x q;split at h
 case h_2=>exact h.elim
 rename_i s nb w d sc sg y k cap dr f cr fl fm own hm;split at h
 case h_2=>exact h.elim
 rename_i hc;simp only[cnd,i64B,jaf,jae]at hc;obtain⟨h1,h2,h3,h4⟩:=hc;refine⟨[.pointer (some ⟨0,0,some 0⟩),.int .i64 x,.int .i64 q],_,2,rho2 a y,cutV x q sc d sg,sub_F hm,fun ι=>by simp[ren,ren1,rho2],jag,fun v hv j hj=> ?_,rfl,w63 s nb w d sc sg k cap dr f cr fl fm x q h1 h2 h3 h4 (R:=fun v=>v=cutV x q sc d sg) rfl,h⟩;simp at hv;rcases hv with rfl | rfl | rfl
 ·have:j=0:=by simpa[ids]using hj
  omega
 ·simp[ids]at hj
 ·simp[ids]at hj
def G32:Env:=Env.nil.add 124 (sp2 s89)
theorem ok_G32:ja3 Tryz.prog G32:=jaj jav ok89
def enOn:O→Bool
 | []=>false
 | r::rs=>bif r==0 || r==1 then r==1 else enOn rs
def enGo(ze:Bool)(fm:Int):O→O→Int→Int
 | [],_,_=> -1
 | r::rs,ds,at_=>bif r==0 then at_ else bif r==1 then(bif ds.headD 0 !=48 then at_ else enGo ze fm rs ds.tail (at_+1))
  else bif r==2 then(bif decide (fm>0) || !ze then at_ else enGo ze fm rs ds at_)else enGo ze fm rs ds (at_+1)
def cn1:O→Int
 | []=>0
 | r::rs=>(bif r==1 then 1 else 0)+cn1 rs
theorem jmd:∀l,0≤cn1 l
 | []=>by simp[cn1]
 | r::rs=>by have:=jmd rs;rw[cn1];cases r==1<;>simp<;>omega
def V90_0:Int×Int×Int×Bool×Bool×Nat×Nat×Int×Int×Y×Bool×Int×Int×Int×Bool×Nat×Nat×Int×Int×Bool×Int×Int×Y×Bool×Int×Int×Int×J→J:=fun(r2,r3,r4,ze,on,k2,cap2,L,i,s,nb,w,dg,sc,sg,k,cap,dr,f,cr,fl,fm,nu,mi,us,at0,ld,d)=> [.pointer (some ⟨0,0,some 0⟩),I r2,I r3,I r4,B ze,B on,.slice (some ⟨2,0,some 1⟩) k2 cap2,I L,I i]
def B90_0:Int×Int×Int×Bool×Bool×Nat×Nat×Int×Int×Y×Bool×Int×Int×Int×Bool×Nat×Nat×Int×Int×Bool×Int×Int×Y×Bool×Int×Int×Int×J→Ya:=fun(r2,r3,r4,ze,on,k2,cap2,L,i,s,nb,w,dg,sc,sg,k,cap,dr,f,cr,fl,fm,nu,mi,us,at0,ld,d)=> [some ⟨[.pointer (some ⟨1,0,some 0⟩),.string nu,.bool mi,.int .i64 us,.int .i64 at0,.int .i64 ld],280,false⟩,some ⟨[.string s,.bool nb,.int .i64 w,.int .i64 dg,.int .i64 sc,.bool sg,.slice (some ⟨2,0,some 1⟩) k cap,.int .u8 dr,.int .i64 f,.bool cr,.int .u8 fl,.int .i64 fm],132,false⟩,some ⟨d,221,false⟩]
def S90_0:LSpecA (Int×Int×Int×Bool×Bool×Nat×Nat×Int×Int×Y×Bool×Int×Int×Int×Bool×Nat×Nat×Int×Int×Bool×Int×Int×Y×Bool×Int×Int×Int×J) where
 live:=[0,2,3,4,5,6,23,24,25]
 mid:=[0,1,2]
 n:=100
 ap:=[]
 dec vs bs:=match vs,bs with | [.pointer (some ⟨0,0,some 0⟩),.int .i64 r2,.int .i64 r3,.int .i64 r4,.bool ze,.bool on,.slice (some ⟨2,0,some 1⟩) k2 cap2,.int .i64 L,.int .i64 i],[some ⟨[.pointer (some ⟨1,0,some 0⟩),.string nu,.bool mi,.int .i64 us,.int .i64 at0,.int .i64 ld],280,false⟩,some ⟨[.string s,.bool nb,.int .i64 w,.int .i64 dg,.int .i64 sc,.bool sg,.slice (some ⟨2,0,some 1⟩) k cap,.int .u8 dr,.int .i64 f,.bool cr,.int .u8 fl,.int .i64 fm],132,false⟩,some ⟨d,221,false⟩]=>some (r2,r3,r4,ze,on,k2,cap2,L,i,s,nb,w,dg,sc,sg,k,cap,dr,f,cr,fl,fm,nu,mi,us,at0,ld,d) | _,_=>none
 pre:=fun(r2,r3,r4,ze,on,k2,cap2,L,i,s,nb,w,dg,sc,sg,k,cap,dr,f,cr,fl,fm,nu,mi,us,at0,ld,d)=>jbv d k2 cap2&&decide (0≤i∧i≤k2∧k2≤1000∧L=k2∧on=false)
 fin:=fun(r2,r3,r4,ze,on,k2,cap2,L,i,s,nb,w,dg,sc,sg,k,cap,dr,f,cr,fl,fm,nu,mi,us,at0,ld,d) Z=>∀i',Z (.exit 0) [.pointer (some ⟨0,0,some 0⟩),I r2,I r3,I r4,B ze,B (enOn ((zc d k2).drop i.toNat)),.slice (some ⟨2,0,some 1⟩) k2 cap2,I L,I i'] [some ⟨[.pointer (some ⟨1,0,some 0⟩),.string nu,.bool mi,.int .i64 us,.int .i64 at0,.int .i64 ld],280,false⟩,some ⟨[.string s,.bool nb,.int .i64 w,.int .i64 dg,.int .i64 sc,.bool sg,.slice (some ⟨2,0,some 1⟩) k cap,.int .u8 dr,.int .i64 f,.bool cr,.int .u8 fl,.int .i64 fm],132,false⟩,some ⟨d,221,false⟩]
def je(a:J):Option Blk:=some (.mk (rlbL [] a) 221 false)
def jo(b f l:Bool)(a:Y)(c d e j k m n:Int)(g h i:Nat):Option Blk:=some (.mk [.string a,.bool b,ak c,ak d,ak e,.bool f,cq g 0 h i,am j,ak k,.bool l,am m,ak n] 132 false)
def lb(b:Bool)(a:Y)(c d e:Int):Option Blk:=some (.mk (ar 1:: .string a:: .bool b::ak c::bp d e) 280 false)
theorem r90_0(r2:Int)(r3:Int)(r4:Int)(ze:Bool)(on:Bool)(k2:Nat)(cap2:Nat)(L:Int)(i:Int)(s:Y)(nb:Bool)(w:Int)(dg:Int)(sc:Int)(sg:Bool)(k:Nat)(cap:Nat)(dr:Int)(f:Int)(cr:Bool)(fl:Int)(fm:Int)(nu:Y)(mi:Bool)(us:Int)(at0:Int)(ld:Int)(d:J)(jk:Tmps)(R:Exit→J→Ya→Prop):(jbn Tryz.prog G32 noL Tryz.f246.ntmps (ja2 Tryz.f246 0) (tl S90_0.live (V90_0 (r2,r3,r4,ze,on,k2,cap2,L,i,s,nb,w,dg,sc,sg,k,cap,dr,f,cr,fl,fm,nu,mi,us,at0,ld,d)) jk) (ml S90_0.mid (B90_0 (r2,r3,r4,ze,on,k2,cap2,L,i,s,nb,w,dg,sc,sg,k,cap,dr,f,cr,fl,fm,nu,mi,us,at0,ld,d))) S90_0.n fun e t' m' _=>S90_0.out R e t' m')=(kw R i L [je d] d (ar 0::ak r2::ak r3::ak r4::B ze::B on::du L i 2 k2 cap2) k2 0 (lb mi nu us at0 ld) (jo nb sg cr s w dg sc dr f fl fm 2 k cap) (bq (dq i 0 d) true (dq i 0 d || dq i 1 d) (bif il d then R (.exit 0) (ar 0::ak r2::ak r3::ak r4::B ze::B (dq i 1 d)::du L i 2 k2 cap2) [lb mi nu us at0 ld,jo nb sg cr s w dg sc dr f fl fm 2 k cap,je d]else False) (bm (il d) R [lb mi nu us at0 ld,jo nb sg cr s w dg sc dr f fl fm 2 k cap,je d] (ar 0::ak r2::ak r3::ak r4::B ze::B on::dp L i 2 k2 cap2)))):=by kernel_rfl
theorem l90_0:∀t m n K,S90_0.hA t m n K→Ab.Sem Tryz.prog Tryz.f246.ntmps (.loop (ja2 Tryz.f246 0)) t m n K:=by
 refine jbo ok_G32 hmix (by kernel_rfl) (ja0 _) S90_0 V90_0 B90_0 (fun(r2,r3,r4,ze,on,k2,cap2,L,i,s,nb,w,dg,sc,sg,k,cap,dr,f,cr,fl,fm,nu,mi,us,at0,ld,d)=>(k2-i).toNat) ?_ ?_ ?_
 ·intro vs bs s h;simp only[S90_0]at h;split at h
  all_goals first | (cases h;exact⟨rfl,rfl⟩) | cases h | (split at h<;>first | (rename_i hq;cases h;have hq:=jah hq;subst hq;exact⟨rfl,rfl⟩) | cases h)
 ·exact fun⟨r2,r3,r4,ze,on,k2,cap2,L,i,s,nb,w,dg,sc,sg,k,cap,dr,f,cr,fl,fm,nu,mi,us,at0,ld,d⟩ hp=>by
   simp only[S90_0,jaf]at hp;have hr:=jat.1 hp.1;simp[V90_0,B90_0,S90_0,jaw,jbs,idsL,ids,jao hr.plain]
 ·intro⟨r2,r3,r4,ze,on,k2,cap2,L,i,s,nb,w,dg,sc,sg,k,cap,dr,f,cr,fl,fm,nu,mi,us,at0,ld,d⟩ jk Z hp hf;rw[r90_0];delta e7 dy ew il cl bw kw av bq bm ax az ak ct cq dp ar je am jo bp lb du c9 dq;simp only[S90_0]at hp hf;simp only[jaf,jae]at hp;obtain⟨hR,hp⟩:=hp;have hr:=jat.1 hR;have hzl:=jbk hr;have e0:0+i.toNat*1=i.toNat:=by omega
  rw[e0];simp only[hr.rlb];have hg:(jas [] d&&true&&true)=true:=by rw[hr.good];rfl
  apply Ka<;>intro h
  ·have h:=jab h;obtain⟨a1,a3⟩:=hr.at hp.1 (by omega);rw[a3,enOn]at hf;rw[a1,w64 (n:=i+1) (by omega)];generalize jar d i.toNat=c at*;refine c_t (jaa (by omega)) (c_t rfl (c_t (by simp) (Ka (fun z=>c_t hg ?_) (fun z=>c_t hg ?_))))
   ·rw[z,cond_true]at hf;exact hf i
   ·rw[z,cond_false]at hf;exact⟨(r2,r3,r4,ze,on,k2,cap2,L,i+1,s,nb,w,dg,sc,sg,k,cap,dr,f,cr,fl,fm,nu,mi,us,at0,ld,d),rfl,rfl,by simp only[S90_0,jaf,jae];exact⟨hR,by omega,by omega,by omega,by omega,hp.2.2.2.2⟩,by simp only;omega,hf⟩
  ·have h:=jac h;rw[hr.end (by omega),enOn]at hf;rw[hp.2.2.2.2];exact c_t hg (hf i)
def V90_2:Int×Int×Int×Bool×Nat×Nat×Int×Int×Y×Bool×Int×Int×Int×Bool×Nat×Nat×Int×Int×Bool×Int×Int×Y×Bool×Int×Int×Int×J→J:=fun(r2,aa,kk,ze,k2,cap2,L,i,s,nb,w,dg,sc,sg,k,cap,dr,f,cr,fl,fm,nu,mi,us,at0,ld,d)=> [.pointer (some ⟨0,0,some 0⟩),I r2,I aa,I kk,B ze,.slice (some ⟨2,0,some 1⟩) k2 cap2,I L,I i]
def B90_2:Int×Int×Int×Bool×Nat×Nat×Int×Int×Y×Bool×Int×Int×Int×Bool×Nat×Nat×Int×Int×Bool×Int×Int×Y×Bool×Int×Int×Int×J→Ya:=fun(r2,aa,kk,ze,k2,cap2,L,i,s,nb,w,dg,sc,sg,k,cap,dr,f,cr,fl,fm,nu,mi,us,at0,ld,d)=> [some ⟨[.pointer (some ⟨1,0,some 0⟩),.string nu,.bool mi,.int .i64 us,.int .i64 at0,.int .i64 ld],280,false⟩,some ⟨[.string s,.bool nb,.int .i64 w,.int .i64 dg,.int .i64 sc,.bool sg,.slice (some ⟨2,0,some 1⟩) k cap,.int .u8 dr,.int .i64 f,.bool cr,.int .u8 fl,.int .i64 fm],132,false⟩,some ⟨d,221,false⟩]
def S90_2:LSpecA (Int×Int×Int×Bool×Nat×Nat×Int×Int×Y×Bool×Int×Int×Int×Bool×Nat×Nat×Int×Int×Bool×Int×Int×Y×Bool×Int×Int×Int×J) where
 live:=[0,2,3,4,5,46,47,48]
 mid:=[0,1,2]
 n:=140
 ap:=[]
 dec vs bs:=match vs,bs with | [.pointer (some ⟨0,0,some 0⟩),.int .i64 r2,.int .i64 aa,.int .i64 kk,.bool ze,.slice (some ⟨2,0,some 1⟩) k2 cap2,.int .i64 L,.int .i64 i],[some ⟨[.pointer (some ⟨1,0,some 0⟩),.string nu,.bool mi,.int .i64 us,.int .i64 at0,.int .i64 ld],280,false⟩,some ⟨[.string s,.bool nb,.int .i64 w,.int .i64 dg,.int .i64 sc,.bool sg,.slice (some ⟨2,0,some 1⟩) k cap,.int .u8 dr,.int .i64 f,.bool cr,.int .u8 fl,.int .i64 fm],132,false⟩,some ⟨d,221,false⟩]=>some (r2,aa,kk,ze,k2,cap2,L,i,s,nb,w,dg,sc,sg,k,cap,dr,f,cr,fl,fm,nu,mi,us,at0,ld,d) | _,_=>none
 pre:=fun(r2,aa,kk,ze,k2,cap2,L,i,s,nb,w,dg,sc,sg,k,cap,dr,f,cr,fl,fm,nu,mi,us,at0,ld,d)=>jbv d k2 cap2&&decide (0≤i∧i≤k2∧k2≤1000∧L=k2∧0≤kk∧kk≤i∧0≤aa∧aa≤i∧kk+cn1 ((zc d k2).drop i.toNat)≤nu.size)
 fin:=fun(r2,aa,kk,ze,k2,cap2,L,i,s,nb,w,dg,sc,sg,k,cap,dr,f,cr,fl,fm,nu,mi,us,at0,ld,d) Z=>(∀a' k' i',enGo ze fm ((zc d k2).drop i.toNat) ((bz nu).drop kk.toNat) aa=a'→0≤a'→Z .ret [.pointer (some ⟨0,0,some 0⟩),I a',I a',I k',B ze,.slice (some ⟨2,0,some 1⟩) k2 cap2,I L,I i'] [some ⟨[.pointer (some ⟨1,0,some 0⟩),.string nu,.bool mi,.int .i64 us,.int .i64 at0,.int .i64 ld],280,false⟩,some ⟨[.string s,.bool nb,.int .i64 w,.int .i64 dg,.int .i64 sc,.bool sg,.slice (some ⟨2,0,some 1⟩) k cap,.int .u8 dr,.int .i64 f,.bool cr,.int .u8 fl,.int .i64 fm],132,false⟩,some ⟨d,221,false⟩])∧(enGo ze fm ((zc d k2).drop i.toNat) ((bz nu).drop kk.toNat) aa= -1→ ∀a' k' i',Z (.exit 2) [.pointer (some ⟨0,0,some 0⟩),I r2,I a',I k',B ze,.slice (some ⟨2,0,some 1⟩) k2 cap2,I L,I i'] [some ⟨[.pointer (some ⟨1,0,some 0⟩),.string nu,.bool mi,.int .i64 us,.int .i64 at0,.int .i64 ld],280,false⟩,some ⟨[.string s,.bool nb,.int .i64 w,.int .i64 dg,.int .i64 sc,.bool sg,.slice (some ⟨2,0,some 1⟩) k cap,.int .u8 dr,.int .i64 f,.bool cr,.int .u8 fl,.int .i64 fm],132,false⟩,some ⟨d,221,false⟩])
def o4(d:Bool)(a b c e f:Int)(g h:Nat):J:=ar 0::ak a::ak b::ak c:: .bool d::du e f 2 g h
theorem r90_2(r2:Int)(aa:Int)(kk:Int)(ze:Bool)(k2:Nat)(cap2:Nat)(L:Int)(i:Int)(s:Y)(nb:Bool)(w:Int)(dg:Int)(sc:Int)(sg:Bool)(k:Nat)(cap:Nat)(dr:Int)(f:Int)(cr:Bool)(fl:Int)(fm:Int)(nu:Y)(mi:Bool)(us:Int)(at0:Int)(ld:Int)(d:J)(jk:Tmps)(R:Exit→J→Ya→Prop):(jbn Tryz.prog G32 noL Tryz.f246.ntmps (ja2 Tryz.f246 2) (tl S90_2.live (V90_2 (r2,aa,kk,ze,k2,cap2,L,i,s,nb,w,dg,sc,sg,k,cap,dr,f,cr,fl,fm,nu,mi,us,at0,ld,d)) jk) (ml S90_2.mid (B90_2 (r2,aa,kk,ze,k2,cap2,L,i,s,nb,w,dg,sc,sg,k,cap,dr,f,cr,fl,fm,nu,mi,us,at0,ld,d))) S90_2.n fun e t' m' _=>S90_2.out R e t' m')=(kw R i L [je d] d (o4 ze r2 aa kk L i k2 cap2) k2 2 (lb mi nu us at0 ld) (jo nb sg cr s w dg sc dr f fl fm 2 k cap) (bif dq i 0 d then bif il d then R .ret (o4 ze aa aa kk L i k2 cap2) [lb mi nu us at0 ld,jo nb sg cr s w dg sc dr f fl fm 2 k cap,je d]else False else bif dq i 1 d then mf (bk nu kk) (au nu kk !=48) (il d) R [jo nb sg cr s w dg sc dr f fl fm 2 k cap,je d] (o4 ze aa aa kk L i k2 cap2) (ar 0::ak r2::az aa::az kk::B ze::dp L i 2 k2 cap2) (lb mi nu us at0 ld)else bif dq i 2 d then bq (gp fm) true (gp fm || !ze) (bif il d then R .ret (o4 ze aa aa kk L i k2 cap2) [lb mi nu us at0 ld,jo nb sg cr s w dg sc dr f fl fm 2 k cap,je d]else False) (bm (il d) R [lb mi nu us at0 ld,jo nb sg cr s w dg sc dr f fl fm 2 k cap,je d] (ar 0::ak r2::ak aa::ak kk::B ze::dp L i 2 k2 cap2))else bm (il d) R [lb mi nu us at0 ld,jo nb sg cr s w dg sc dr f fl fm 2 k cap,je d] (ar 0::ak r2::az aa::ak kk::B ze::dp L i 2 k2 cap2))):=by kernel_rfl
theorem l90_2:∀t m n K,S90_2.hA t m n K→Ab.Sem Tryz.prog Tryz.f246.ntmps (.loop (ja2 Tryz.f246 2)) t m n K:=by
 refine jbo ok_G32 hmix (by kernel_rfl) (ja0 _) S90_2 V90_2 B90_2 (fun(r2,aa,kk,ze,k2,cap2,L,i,s,nb,w,dg,sc,sg,k,cap,dr,f,cr,fl,fm,nu,mi,us,at0,ld,d)=>(k2-i).toNat) ?_ ?_ ?_
 ·intro vs bs s h;simp only[S90_2]at h;split at h
  all_goals first | (cases h;exact⟨rfl,rfl⟩) | cases h | (split at h<;>first | (rename_i hq;cases h;have hq:=jah hq;subst hq;exact⟨rfl,rfl⟩) | cases h)
 ·exact fun⟨r2,aa,kk,ze,k2,cap2,L,i,s,nb,w,dg,sc,sg,k,cap,dr,f,cr,fl,fm,nu,mi,us,at0,ld,d⟩ hp=>by
   simp only[S90_2,jaf]at hp;have hr:=jat.1 hp.1;simp[V90_2,B90_2,S90_2,jaw,jbs,idsL,ids,jao hr.plain]
 ·intro⟨r2,aa,kk,ze,k2,cap2,L,i,s,nb,w,dg,sc,sg,k,cap,dr,f,cr,fl,fm,nu,mi,us,at0,ld,d⟩ jk Z hp hf;rw[r90_2];delta e7 dy ew il cl bw kw bm ax az ak ct cq dp ar je am jo bp lb av bq du o4 gp c9 dq mf au al bk;simp only[S90_2]at hp hf;simp only[jaf,jae]at hp;obtain⟨hR,hp⟩:=hp;have hr:=jat.1 hR;have hzl:=jbk hr;have e0:0+i.toNat*1=i.toNat:=by omega
  rw[e0];simp only[hr.rlb];have hg:(jas [] d&&true&&true)=true:=by rw[hr.good];rfl
  apply Ka<;>intro h
  ·have h:=jab h;obtain⟨a1,a3⟩:=hr.at hp.1 (by omega);rw[a3]at hp hf;rw[enGo]at hf;rw[cn1]at hp;rw[a1,w64 (n:=i+1) (by omega)];have hc:=jmd ((zc d k2).drop (i+1).toNat);generalize jar d i.toNat=c at*;refine c_t (jaa (by omega)) (c_t rfl (Ka (fun z=>c_t hg ?_) (fun z=> ?_)))
   ·rw[z,cond_true]at hf;exact hf.1 aa kk i rfl (by omega)
   ·rw[z,cond_false]at hf;apply Ka<;>intro z
    ·rw[z,cond_true]at hf hp;obtain⟨hp1,hp2,hp3,hp4,hp5,hp6,hp7,hp8⟩:=hp;rw[jca hp5 (by omega),List.headD_cons,List.tail_cons]at hf;refine c_t (jaa (by omega)) (Ka (fun z=>c_t hg ?_) (fun z=>c_t hg ?_))
     ·rw[z,cond_true]at hf;exact hf.1 aa kk i rfl (by omega)
     ·rw[z,cond_false]at hf;rw[w64 (n:=aa+1) (by omega),w64 (n:=kk+1) (by omega)];exact⟨(r2,aa+1,kk+1,ze,k2,cap2,L,i+1,s,nb,w,dg,sc,sg,k,cap,dr,f,cr,fl,fm,nu,mi,us,at0,ld,d),rfl,rfl,by simp only[S90_2,jaf,jae];exact⟨hR,by omega⟩,by simp only;omega,hf⟩
    ·rw[z,cond_false]at hf hp;refine Ka (fun z=>c_t (by simp) (Ka (fun z2=>c_t hg ?_) (fun z2=>c_t hg ?_))) (fun z=>c_t hg ?_)
     ·rw[z,cond_true,z2,cond_true]at hf;exact hf.1 aa kk i rfl (by omega)
     ·rw[z,cond_true,z2,cond_false]at hf;exact⟨(r2,aa,kk,ze,k2,cap2,L,i+1,s,nb,w,dg,sc,sg,k,cap,dr,f,cr,fl,fm,nu,mi,us,at0,ld,d),rfl,rfl,by simp only[S90_2,jaf,jae];exact⟨hR,by omega⟩,by simp only;omega,hf⟩
     ·rw[z,cond_false]at hf;rw[w64 (n:=aa+1) (by omega)];exact⟨(r2,aa+1,kk,ze,k2,cap2,L,i+1,s,nb,w,dg,sc,sg,k,cap,dr,f,cr,fl,fm,nu,mi,us,at0,ld,d),rfl,rfl,by simp only[S90_2,jaf,jae];exact⟨hR,by omega⟩,by simp only;omega,hf⟩
  ·have h:=jac h;rw[hr.end (by omega),enGo]at hf;exact c_t hg (hf.2 rfl aa kk i)
def pnL(x:Nat)(nu:Y)(mi:Bool)(us at0 ld:Int):J:=[.pointer (some ⟨x,0,some 0⟩),.string nu,.bool mi,.int .i64 us,.int .i64 at0,.int .i64 ld]
def vwF3(p c d:J):Lk:=fun j=>match Nat.beq j 0 with | true=>some ⟨p,280,false⟩ | false=>match Nat.beq j 1 with | true=>some ⟨c,132,false⟩ | false=>match Nat.beq j 2 with | true=>some ⟨d,221,false⟩ | false=>none
def rho3(a x y:Nat):Nat→Nat:=fun j=>match j with | 0=>a | 1=>x | _=>y
theorem sub_F3{m:Lk}{a x y k cap:Nat}{nu:Y}{mi:Bool}{us at0 ld:Int}{s:Y}{nb:Bool}{w d sc:Int}{sg:Bool}{dr f:Int}{cr:Bool}{fl fm:Int}{own own2 own3:Bool}{r:J}(hr:ja1 r=true)
  (hp:m a=some ⟨pnL x nu mi us at0 ld,280,own⟩) (ha:m x=some ⟨fmL s nb w d sc sg y k cap dr f cr fl fm,132,own2⟩) (hx:m y=some ⟨r,221,own3⟩):
  SubM m (rho3 a x y) (vwF3 (pnL 1 nu mi us at0 ld) (fmL s nb w d sc sg 2 k cap dr f cr fl fm) r) 3:=by
 have hget:∀j b,vwF3 (pnL 1 nu mi us at0 ld) (fmL s nb w d sc sg 2 k cap dr f cr fl fm) r j=some b→(j=0∧b=⟨pnL 1 nu mi us at0 ld,280,false⟩)∨(j=1∧b=⟨fmL s nb w d sc sg 2 k cap dr f cr fl fm,132,false⟩)∨(j=2∧b=⟨r,221,false⟩):=fun j b h=>by
  simp only[vwF3]at h;split at h
  ·rename_i h0;cases h;exact .inl ⟨jah h0,rfl⟩
  ·split at h
   ·rename_i h0;cases h;exact .inr (.inl ⟨jah h0,rfl⟩)
   ·split at h
    ·rename_i h0;cases h;exact .inr (.inr ⟨jah h0,rfl⟩)
    ·cases h
 refine⟨fun j b h=> ?_,fun j b h=> ?_⟩
 ·rcases hget j b h with⟨rfl,rfl⟩ | ⟨rfl,rfl⟩ | ⟨rfl,rfl⟩
  ·refine⟨by omega,fun i hi=> ?_⟩;have:i=1:=by simpa[pnL,idsL,ids]using hi
   omega
  ·refine⟨by omega,fun i hi=> ?_⟩;have:i=2:=by simpa[fmL,idsL,ids]using hi
   omega
  ·exact⟨by omega,fun i hi=>by rw[jao hr]at hi;cases hi⟩
 ·rcases hget j b h with⟨rfl,rfl⟩ | ⟨rfl,rfl⟩ | ⟨rfl,rfl⟩
  ·refine⟨rfl,⟨pnL x nu mi us at0 ld,280,own⟩,?_,fun ι=> ?_⟩
   ·show noIt (m a)=_;rw[hp];simp only[noIt];have:(own&&Nat.beq 280 itTy)=false:=by cases own<;>rfl
    rw[this]
   ·simp[pnL,ren,ren1,rho3]
  ·refine⟨rfl,⟨fmL s nb w d sc sg y k cap dr f cr fl fm,132,own2⟩,?_,fun ι=> ?_⟩
   ·show noIt (m x)=_;rw[ha];simp only[noIt];have:(own2&&Nat.beq 132 itTy)=false:=by cases own2<;>rfl
    rw[this]
   ·simp[fmL,ren,ren1,rho3]
  ·refine⟨rfl,⟨r,221,own3⟩,?_,fun ι=>renMap_congr fun k hk=>by rw[jao hr]at hk;cases hk⟩;show noIt (m y)=_;rw[hx];simp only[noIt];have:(own3&&Nat.beq 221 itTy)=false:=by cases own3<;>rfl
   rw[this]
theorem lok90:LOKf Tryz.prog (twoL 0 S90_0.hA 2 S90_2.hA) Tryz.f246:=je2 (by kernel_rfl) (by kernel_rfl) l90_0 l90_2
def enV(nu:O)(fm:Int)(ro:O):Int:=bif enOn ro then enGo (jcm nu [48]).isEmpty fm ro nu 0 else 0
def lr(a:J)(b:Nat):O:=fw 0 (zc (rlbL [] a) b)
theorem v90(s:Y)(nb:Bool)(w:Int)(dg:Int)(sc:Int)(sg:Bool)(k:Nat)(cap:Nat)(dr:Int)(f:Int)(cr:Bool)(fl:Int)(fm:Int)(nu:Y)(mi:Bool)(us:Int)(at0:Int)(ld:Int)(d:J)(R:Value→Prop):(jax Tryz.prog G32 (twoL 0 S90_0.hA 2 S90_2.hA) Tryz.f246 [.pointer (some ⟨0,0,some 0⟩)] (vwF3 (pnL 1 nu mi us at0 ld) (fmL s nb w dg sc sg 2 k cap dr f cr fl fm) d) 3 (fun v _ _=>R v))=(bif fy nu&&ky [] 48 then jt (S90_0.toLSpec.pre ((0:Int),((0:Int),((0:Int),(jn nu [] 48,(false,(k,(cap,(natO k,((0:Int),(s,(nb,(w,(dg,(sc,(sg,(k,(cap,(dr,(f,(cr,(fl,(fm,(nu,(mi,(us,(at0,(ld,rlbL [] d)))))))))))))))))))))))))))) [] d 100 (Int→jh (rlbL [] d) 100 (bif !enOn (lr d k)then R (ak 0)else bif jv [] (rlbL [] d) 140 then bif S90_2.toLSpec.pre ((0:Int),((0:Int),((0:Int),(jn nu [] 48,(k,(cap,(natO k,((0:Int),(s,(nb,(w,(dg,(sc,(sg,(k,(cap,(dr,(f,(cr,(fl,(fm,(nu,(mi,(us,(at0,(ld,lc d))))))))))))))))))))))))))then(∀a:Int,ki (enGo (jn nu [] 48) fm (lr (rlbL [] d) k) (bu nu 0) 0=a→0≤a→gy (dx (lc d) 140) (ak a) R))∧(enGo (jn nu [] 48) fm (lr (rlbL [] d) k) (bu nu 0) 0= -(1:Int)→ki (Int→gy (dx (lc d) 140) (I (-1)) R))else False else False))else False):=by kernel_rfl
theorem w90(s:Y)(nb:Bool)(w:Int)(dg:Int)(sc:Int)(sg:Bool)(k:Nat)(cap:Nat)(dr:Int)(f:Int)(cr:Bool)(fl:Int)(fm:Int)(nu:Y)(mi:Bool)(us:Int)(at0:Int)(ld:Int)(d:J)(hR:jbv d k cap=true)(hk:k≤1000)(hn:nu.size≤1000)(hc:cn1 (zc d k)≤nu.size){R:Value→Prop}(hr:R (.int .i64 (enV (bz nu) fm (zc d k)))):
  jel Tryz.prog G32 (twoL 0 S90_0.hA 2 S90_2.hA) Tryz.f246 [.pointer (some ⟨0,0,some 0⟩)] (vwF3 (pnL 1 nu mi us at0 ld) (fmL s nb w dg sc sg 2 k cap dr f cr fl fm) d) 3 (fun v _ _=>R v):=by
 rw[jel,v90];delta dx jv jt jh ki gy lc bu fw lr ay j2 jn ak fy ky;have h:=jat.1 hR;have k1:bz ⟨#[48]⟩=[48]:=rfl
 have e1:(ByteArray.toList (szO (jcm (bz nu) (bz (ByteArray.mk #[48]))))==ByteArray.toList (ByteArray.mk #[]))=(jcm (bz nu) [48]).isEmpty:=by
  rw[jcx,jgy,jc7 (trim_isB (jdh nu)),k1]
 have z0:Int.toNat 0=0:=rfl;simp only[h.rlb,e1,z0,List.drop_zero];have hg:∀n,(jas [] d&&true&&true&& (jaw n d&&true))=true:=fun n=>by rw[h.good];simp[jaw,idsL,jao h.plain]
 have hi:∀n,(jaw n d&&true)=true:=fun n=>by simp[jaw,idsL,jao h.plain]
 have c1:(decide (ByteArray.size (ByteArray.mk #[48])≤1000) &&asc (bz (ByteArray.mk #[48])))=true:=by kernel_rfl
 have c2:(decide (nu.size≤1000) && (decide (ByteArray.size (ByteArray.mk #[48])≤1000) &&asc (bz (ByteArray.mk #[48]))))=true:=by rw[c1,jaa hn];rfl
 refine c_t c2 (c_t (hg _) (c_t ?_ fun i'=>c_t (hi _) fun _=>Ka (fun ho=> ?_) (fun ho=>c_t (hg _) (c_t ?_ ⟨fun a' k' i' ha h0=>c_t (hi _) fun _=> ?_,fun ha a' k' i'=>c_t (hi _) fun _=> ?_⟩))))
 ·simp only[S90_0,jaf,jae,jby];exact⟨hR,by omega,by omega,by omega,trivial,trivial⟩
 ·rw[Ks]at ho;rw[enV,ho]at hr;exact hr
 ·simp only[S90_2,jaf,jae,jby,z0,List.drop_zero];exact⟨hR,by omega,by omega,by omega,trivial,by omega,by omega,by omega,by omega,by omega⟩
 all_goals
  rw[Bool.not_eq_false']at ho;rw[enV,ho,cond_true,ha]at hr;exact hr
def h90:J→Lk→Nat→(Value→Lk→Nat→Prop)→Prop:=fun args m n K=>match args with
 | [.pointer (some ⟨a,0,some 0⟩)]=>match m a with
  | some ⟨[.pointer (some ⟨x,0,some 0⟩),.string nu,.bool mi,.int .i64 us,.int .i64 at0,.int .i64 ld],280,own⟩=>match m x with
   | some ⟨[.string s,.bool nb,.int .i64 w,.int .i64 dg,.int .i64 sc,.bool sg,.slice (some ⟨y,0,some 1⟩) k cap,.int .u8 dr,.int .i64 f,.bool cr,.int .u8 fl,.int .i64 fm],132,own2⟩=>match m y with
    | some ⟨d,221,own3⟩=>
     match cnd (jbv d k cap&&decide (k≤1000∧nu.size≤1000∧cn1 (zc d k)≤nu.size))with
     | true=>K (.int .i64 (enV (bz nu) fm (zc d k))) m n
     | false=>False
    | _=>False
   | _=>False
  | _=>False
 | _=>False
theorem h90_ok:jcw Tryz.prog 246 h90:=by
 refine jii ok_G32 hmix (.m Tryz.func246) lok90 fun args m n K h=> ?_
 unfold h90 at h;split at h
 case h_2=>exact h.elim
 rename_i a;split at h
 case h_2=>exact h.elim
 rename_i x nu mi us at0 ld own hm;split at h
 case h_2=>exact h.elim
 rename_i s nb w dg sc sg y k cap dr f cr fl fm own2 hx;split at h
 case h_2=>exact h.elim
 rename_i d own3 hy;split at h
 case h_2=>exact h.elim
 rename_i hc;simp only[cnd,jaf,jae]at hc;obtain⟨h1,h2,h3,h4⟩:=hc;refine⟨[.pointer (some ⟨0,0,some 0⟩)],_,3,rho3 a x y,.int .i64 (enV (bz nu) fm (zc d k)),sub_F3 (jat.1 h1).plain hm hx hy,fun ι=>by simp[ren,ren1,rho3],jag,fun v hv j hj=> ?_,rfl,w90 s nb w dg sc sg k cap dr f cr fl fm nu mi us at0 ld d h1 h2 h3 h4 (R:=fun v=>v= .int .i64 (enV (bz nu) fm (zc d k))) rfl,h⟩;simp at hv;subst hv;have:j=0:=by simpa[ids]using hj
 omega
end Go.Px
end
noncomputable section
set_option maxHeartbeats 3200000
namespace Go.Px
open Go Go.Ab Go.Proofs Go.Shelf
def G33:Env:=Env.nil
def G34:Env:=(Env.nil.add 297 (sp2 s26)).addG 296 (inlQ Tryz.prog G33 noL Tryz.f296)
def G35:Env:=((((((Env.nil.add 114 (sp2 s78)).addG 246 h90).addG 247 (inlQ Tryz.prog G34 noL Tryz.f247)).addG 248 (inlQ Tryz.prog G34 noL Tryz.f248)).addG 249 (inlQ Tryz.prog G34 noL Tryz.f249)).addG 250 (inlQ Tryz.prog G34 noL Tryz.f250)).addG 251 (inlQ Tryz.prog G34 noL Tryz.f251)
theorem fn91:Fn1 Tryz.prog 247 Tryz.f247:= .m Tryz.func247
theorem fn92:Fn1 Tryz.prog 248 Tryz.f248:= .m Tryz.func248
theorem fn93:Fn1 Tryz.prog 249 Tryz.f249:= .m Tryz.func249
theorem fn94:Fn1 Tryz.prog 250 Tryz.f250:= .m Tryz.func250
theorem fn95:Fn1 Tryz.prog 251 Tryz.f251:= .m Tryz.func251
theorem fn64:Fn1 Tryz.prog 184 Tryz.f184:= .m Tryz.func184
theorem ok_G33:ja3 Tryz.prog G33:=jav
theorem ok_G34:ja3 Tryz.prog G34:=jau (jaj jav ok26) (jbh ok_G33 hmix (.m Tryz.func296) jal)
theorem ok_G35:ja3 Tryz.prog G35:=jau (jau (jau (jau (jau (jau (jaj jav ok78) h90_ok) (jbh ok_G34 hmix fn91 jal)) (jbh ok_G34 hmix fn92 jal)) (jbh ok_G34 hmix fn93 jal)) (jbh ok_G34 hmix fn94 jal)) (jbh ok_G34 hmix fn95 jal)
def wrC(f:Int)(cr:Bool)(n:Int)(mi:Bool)(ld fl:Int)(r c d i a:Int):Int:=
 bif i==f then fl else bif cr&&decide (i≥n-2)then(bif !mi then 32 else c)
 else bif decide (r=0)then fmZ c d mi else bif decide (r=1)then(bif decide (a<ld)then fl else d)
 else bif decide (r=3)then(bif c==66 then 32 else bif decide (a<ld)then fl else c)
 else bif decide (r=4)then(bif c==83&&mi then 45 else bif c==83 then 43 else bif (c==43)==mi then 32 else c)else c
def wrT(f:Int)(cr:Bool)(n:Int)(r i:Int):Bool:= !(i==f) && (!(cr&&decide (i≥n-2)) && (decide (r=0) || decide (r=1)))
def wrGo(f:Int)(cr:Bool)(n:Int)(mi:Bool)(ld fl:Int):O→O→O→Int→Int→O
 | [],_,_,_,_=> []
 | r::rs,cs,ds,i,a=>bif r==2 then wrGo f cr n mi ld fl rs cs.tail ds (i+1) a
  else wrC f cr n mi ld fl r (cs.headD 0) (ds.headD 0) i a::wrGo f cr n mi ld fl rs cs.tail (bif wrT f cr n r i then ds.tail else ds) (i+1) (a+1)
def cdg:O→Int
 | []=>0
 | r::rs=>(bif decide (r=0) || decide (r=1)then 1 else 0)+cdg rs
def roOK(l:O):Bool:=l.all fun r=>decide (0≤r∧r<6)
def jnr:J→Bool
 | [.func (.func a) ⟨[]⟩ ⟨[]⟩,.func (.func b) ⟨[]⟩ ⟨[]⟩,.nilFunc,.func (.func c) ⟨[]⟩ ⟨[]⟩,.func (.func d) ⟨[]⟩ ⟨[]⟩,.func (.func e) ⟨[]⟩ ⟨[]⟩]=>Nat.beq a 247&& (Nat.beq b 248&& (Nat.beq c 249&& (Nat.beq d 250&&Nat.beq e 251)))
 | _=>false
def how:J:=[.func (.func 247) ⟨[]⟩ ⟨[]⟩,.func (.func 248) ⟨[]⟩ ⟨[]⟩,.nilFunc,.func (.func 249) ⟨[]⟩ ⟨[]⟩,.func (.func 250) ⟨[]⟩ ⟨[]⟩,.func (.func 251) ⟨[]⟩ ⟨[]⟩]
theorem isHow_eq{l:J}(h:jnr l=true):l=how:=by
 unfold jnr at h;split at h
 ·simp only[jaf,Nat.beq_eq]at h;obtain⟨rfl,rfl,rfl,rfl,rfl⟩:=h;rfl
 ·cases h
theorem jng:∀l,0≤cdg l
 | []=>by simp[cdg]
 | r::rs=>by have:=jng rs;rw[cdg];cases decide (r=0) || decide (r=1) <;>simp<;>omega
theorem cdg_c{r:Int}{rs:O}:cdg rs≤cdg (r::rs):=by rw[cdg];cases decide (r=0) || decide (r=1) <;>simp<;>omega
theorem jnw{r:Int}{rs:O}(h:r=0∨r=1):cdg (r::rs)=1+cdg rs:=by rw[cdg];rcases h with rfl | rfl<;>rfl
theorem roOK_at{l:O}(h:roOK l=true){j:Nat}{r:Int}{rs:O}(hj:l.drop j=r::rs):0≤r∧r<6:=by
 simp only[roOK,Kf,jae]at h;exact h r (List.drop_subset j l (by rw[hj];exact Kh))
theorem jmc{s:Y}(h:dgL (bz s)=true){j:Int}(h0:0≤j)(hj:j<s.size):48≤jai s j.toNat∧jai s j.toNat≤57:=by
 simp only[dgL,Kf,jae]at h;exact h _ (List.drop_subset j.toNat (bz s) (by rw[jca h0 hj];exact Kh))
theorem fm_a{c d:Int}{m:Bool}(h:(c==89&&d==48)=true):fmZ c d m=32:=by
 have:c=89∧d=48:=by simpa using h
 rw[fmZ,Kd this]
theorem fm_b{c d:Int}{m:Bool}(h:(c==89&&d==48)=false)(q:(c==84 || bif c==73 then !m || c==82&&m else c==82&&m)=true):fmZ c d m=puZ (d-48) m:=by
 have h1:¬(c=89∧d=48):=fun e=>by rw[e.1,e.2]at h;cases h
 rw[fmZ,Kc h1,Kd];cases m<;>by_cases a:c=84<;>by_cases b:c=73<;>by_cases e:c=82<;>simp_all
theorem fm_c{c d:Int}{m:Bool}(h:(c==89&&d==48)=false)(q:(c==84 || bif c==73 then !m || c==82&&m else c==82&&m)=false):fmZ c d m=d:=by
 have h1:¬(c=89∧d=48):=fun e=>by rw[e.1,e.2]at h;cases h
 rw[fmZ,Kc h1,Kc];cases m<;>by_cases a:c=84<;>by_cases b:c=73<;>by_cases e:c=82<;>simp_all
def V64_0:Bool×Y×Int×Rw×Nat×Nat×Int×Int×Y×Bool×Int×Int×Int×Bool×Nat×Nat×Int×Int×Bool×Int×Int×Y×Bool×Int×Int×Int×J→J:=fun(m2,r6,r7,o,k2,cap2,L,i,s,nb,w,dg,sc,sg,k,cap,dr,f,cr,fl,fm,nu,mi,us,at0,ld,d)=> [.pointer (some ⟨0,0,some 0⟩),.bool m2,.string r6,.int .i64 r7,.pointer (some ⟨8,0,some 0⟩),.pointer (some ⟨22,0,some 0⟩),o.v 200,.slice (some ⟨1,0,some 1⟩) k2 cap2,.int .i64 L,.int .i64 i]
def B64_0:Bool×Y×Int×Rw×Nat×Nat×Int×Int×Y×Bool×Int×Int×Int×Bool×Nat×Nat×Int×Int×Bool×Int×Int×Y×Bool×Int×Int×Int×J→Ya:=fun(m2,r6,r7,o,k2,cap2,L,i,s,nb,w,dg,sc,sg,k,cap,dr,f,cr,fl,fm,nu,mi,us,at0,ld,d)=> [some ⟨[.string s,.bool nb,.int .i64 w,.int .i64 dg,.int .i64 sc,.bool sg,.slice (some ⟨1,0,some 1⟩) k cap,.int .u8 dr,.int .i64 f,.bool cr,.int .u8 fl,.int .i64 fm],132,false⟩,some ⟨d,221,false⟩,some ⟨[.pointer (some ⟨0,0,some 0⟩),.string nu,.bool mi,.int .i64 us,.int .i64 at0,.int .i64 ld],280,true⟩,some ⟨how,283,true⟩,o.b]
def S64_0:LSpecA (Bool×Y×Int×Rw×Nat×Nat×Int×Int×Y×Bool×Int×Int×Int×Bool×Nat×Nat×Int×Int×Bool×Int×Int×Y×Bool×Int×Int×Int×J) where
 live:=[0,2,6,7,8,9,10,49,50,51]
 mid:=[0,1,8,22,200]
 n:=210
 ap:=[(.tmp 10,200)]
 dec vs bs:=match vs,bs with | [.pointer (some ⟨0,0,some 0⟩),.bool m2,.string r6,.int .i64 r7,.pointer (some ⟨8,0,some 0⟩),.pointer (some ⟨22,0,some 0⟩),.slice none 0 0,.slice (some ⟨1,0,some 1⟩) k2 cap2,.int .i64 L,.int .i64 i],[some ⟨[.string s,.bool nb,.int .i64 w,.int .i64 dg,.int .i64 sc,.bool sg,.slice (some ⟨1,0,some 1⟩) k cap,.int .u8 dr,.int .i64 f,.bool cr,.int .u8 fl,.int .i64 fm],132,false⟩,some ⟨d,221,false⟩,some ⟨[.pointer (some ⟨0,0,some 0⟩),.string nu,.bool mi,.int .i64 us,.int .i64 at0,.int .i64 ld],280,true⟩,some ⟨hw,283,true⟩,none]=>(match jnr hw with | true=>some (m2,r6,r7,.nil,k2,cap2,L,i,s,nb,w,dg,sc,sg,k,cap,dr,f,cr,fl,fm,nu,mi,us,at0,ld,d) | false=>none) | [.pointer (some ⟨0,0,some 0⟩),.bool m2,.string r6,.int .i64 r7,.pointer (some ⟨8,0,some 0⟩),.pointer (some ⟨22,0,some 0⟩),.slice (some ⟨200,0,some 1⟩) om oc,.slice (some ⟨1,0,some 1⟩) k2 cap2,.int .i64 L,.int .i64 i],[some ⟨[.string s,.bool nb,.int .i64 w,.int .i64 dg,.int .i64 sc,.bool sg,.slice (some ⟨1,0,some 1⟩) k cap,.int .u8 dr,.int .i64 f,.bool cr,.int .u8 fl,.int .i64 fm],132,false⟩,some ⟨d,221,false⟩,some ⟨[.pointer (some ⟨0,0,some 0⟩),.string nu,.bool mi,.int .i64 us,.int .i64 at0,.int .i64 ld],280,true⟩,some ⟨hw,283,true⟩,some ⟨od,5,true⟩]=>(match jnr hw with | true=>some (m2,r6,r7,.own od om oc,k2,cap2,L,i,s,nb,w,dg,sc,sg,k,cap,dr,f,cr,fl,fm,nu,mi,us,at0,ld,d) | false=>none) | _,_=>none
 pre:=fun(m2,r6,r7,o,k2,cap2,L,i,s,nb,w,dg,sc,sg,k,cap,dr,f,cr,fl,fm,nu,mi,us,at0,ld,d)=>o.ok&& (jbv d k2 cap2&& (roOK (zc d k2) && (dgL (bz nu) &&decide (m2=mi∧0≤i∧i≤k2∧k2≤1000∧L=k2∧k2≤s.size∧s.size≤1000∧0≤us∧us≤i∧0≤at0∧at0≤i∧us+cdg ((zc d k2).drop i.toNat)≤nu.size∧o.z.length≤i))))
 fin:=fun(m2,r6,r7,o,k2,cap2,L,i,s,nb,w,dg,sc,sg,k,cap,dr,f,cr,fl,fm,nu,mi,us,at0,ld,d) Z=>(o.is=false→wrGo f cr s.size mi ld fl ((zc d k2).drop i.toNat) ((bz s).drop i.toNat) ((bz nu).drop us.toNat) i at0=[]→ ∀us' at' i',Z (.exit 0) [.pointer (some ⟨0,0,some 0⟩),.bool m2,.string r6,.int .i64 r7,.pointer (some ⟨8,0,some 0⟩),.pointer (some ⟨22,0,some 0⟩),.slice none 0 0,.slice (some ⟨1,0,some 1⟩) k2 cap2,.int .i64 L,.int .i64 i'] [some ⟨[.string s,.bool nb,.int .i64 w,.int .i64 dg,.int .i64 sc,.bool sg,.slice (some ⟨1,0,some 1⟩) k cap,.int .u8 dr,.int .i64 f,.bool cr,.int .u8 fl,.int .i64 fm],132,false⟩,some ⟨d,221,false⟩,some ⟨[.pointer (some ⟨0,0,some 0⟩),.string nu,.bool mi,.int .i64 us',.int .i64 at',.int .i64 ld],280,true⟩,some ⟨how,283,true⟩,none])∧(∀us' at' i' od' om' oc',jcp od' om' oc'=true→zc od' om'=o.z++wrGo f cr s.size mi ld fl ((zc d k2).drop i.toNat) ((bz s).drop i.toNat) ((bz nu).drop us.toNat) i at0→Z (.exit 0) [.pointer (some ⟨0,0,some 0⟩),.bool m2,.string r6,.int .i64 r7,.pointer (some ⟨8,0,some 0⟩),.pointer (some ⟨22,0,some 0⟩),.slice (some ⟨200,0,some 1⟩) om' oc',.slice (some ⟨1,0,some 1⟩) k2 cap2,.int .i64 L,.int .i64 i'] [some ⟨[.string s,.bool nb,.int .i64 w,.int .i64 dg,.int .i64 sc,.bool sg,.slice (some ⟨1,0,some 1⟩) k cap,.int .u8 dr,.int .i64 f,.bool cr,.int .u8 fl,.int .i64 fm],132,false⟩,some ⟨d,221,false⟩,some ⟨[.pointer (some ⟨0,0,some 0⟩),.string nu,.bool mi,.int .i64 us',.int .i64 at',.int .i64 ld],280,true⟩,some ⟨how,283,true⟩,some ⟨od',5,true⟩])
def e64(m2:Bool)(r6:Y)(r7:Int)(k2:Nat)(cap2:Nat)(L:Int)(i:Int)(s:Y)(nb:Bool)(w:Int)(dg:Int)(sc:Int)(sg:Bool)(k:Nat)(cap:Nat)(dr:Int)(f:Int)(cr:Bool)(fl:Int)(fm:Int)(nu:Y)(mi:Bool)(us:Int)(at0:Int)(ld:Int)(d:J)(pre:J)(ln N:Nat)(X U:Int)(R:Exit→J→Ya→Prop):Prop:=∀(cap_1:Nat)(tail:J),jbd tail cap_1 ln 1=true→bif jas [(N,200)] d&& (jas [(N,200)] (pre++ [.int .u8 X]++tail) &&true) &&true then R Exit.normal [.pointer (some (.mk 0 0 (some 0))),B m2,S r6,I r7,.pointer (some (.mk 8 0 (some 0))),.pointer (some (.mk 22 0 (some 0))),.slice (some (.mk 200 0 (some 1))) ln cap_1,.slice (some (.mk 1 0 (some 1))) k2 cap2,I L,I (IntKind.wrap .i64 (i+1))] [some (.mk [S s,B nb,I w,I dg,I sc,B sg,.slice (some (.mk 1 0 (some 1))) k cap,.int .u8 dr,I f,B cr,.int .u8 fl,I fm] 132 false),some (.mk (rlbL [(N,200)] d) 221 false),some (.mk [.pointer (some (.mk 0 0 (some 0))),S nu,B mi,I U,I (IntKind.wrap .i64 (at0+1)),I ld] 280 true),some (.mk [Value.func (Fn.func 247) ⟨[]⟩ ⟨[]⟩,Value.func (Fn.func 248) ⟨[]⟩ ⟨[]⟩,Value.nilFunc,Value.func (Fn.func 249) ⟨[]⟩ ⟨[]⟩,Value.func (Fn.func 250) ⟨[]⟩ ⟨[]⟩,Value.func (Fn.func 251) ⟨[]⟩ ⟨[]⟩] 283 true),some (.mk (rlbL [(N,200)] (pre++ [.int .u8 X]++tail)) 5 true)]else False
def ls(a c:Int)(b:J):Bool:=decide (((0+(c9 a b).toNat*1:Nat):Int)=c)
def po(i:Bool)(c:Y)(a e f:Int)(b:J)(d g h j k l m n:Prop):Prop:=bif ls a 2 b then False else bif ls a 3 b then bif aw c a 66 then d else av (bw e f) g h else bif ls a 4 b then ij (aw c a 83) true (aw c a 83&&i) j (bif aw c a 83 then k else av (aw c a 43==i) l m)else e7 (ls a 5 b) n
def l6(a:Y)(b:Int):Int:=jai a (fx (ax b-1))
def pp(f:Bool)(b c:Y)(a d:Int)(e g h:Prop):Prop:=bif cl (cm (ax a) 1) (al b)then bq (aw c d 89) true (aw c d 89&&l6 b a==48) e (ij (aw c d 84) (bv (aw c d 73) (!f || (aw c d 82 || true)) (aw c d 82 || true)) (aw c d 84 || bv (aw c d 73) (!f || aw c d 82&&f) (aw c d 82&&f)) g h)else False
def jg(a:FuncId)(b:J):Value:= .func (.func a) ⟨[]⟩ ⟨b⟩
def n9:Option Blk:=some (.mk [jg 247 [],jg 248 [],Value.nilFunc,jg 249 [],jg 250 [],jg 251 []] 283 true)
def oa(b:Bool)(a:Y)(c d e:Int):Option Blk:=some (.mk (ar 0:: .string a:: .bool b::ak c::bp d e) 280 true)
theorem r64_0n(m2:Bool)(r6:Y)(r7:Int)(k2:Nat)(cap2:Nat)(L:Int)(i:Int)(s:Y)(nb:Bool)(w:Int)(dg:Int)(sc:Int)(sg:Bool)(k:Nat)(cap:Nat)(dr:Int)(f:Int)(cr:Bool)(fl:Int)(fm:Int)(nu:Y)(mi:Bool)(us:Int)(at0:Int)(ld:Int)(d:J)(jk:Tmps)(R:Exit→J→Ya→Prop):(jbn Tryz.prog G35 noL Tryz.f184.ntmps (ja2 Tryz.f184 0) (tl S64_0.live (V64_0 (m2,r6,r7,.nil,k2,cap2,L,i,s,nb,w,dg,sc,sg,k,cap,dr,f,cr,fl,fm,nu,mi,us,at0,ld,d)) jk) (ml S64_0.mid (B64_0 (m2,r6,r7,.nil,k2,cap2,L,i,s,nb,w,dg,sc,sg,k,cap,dr,f,cr,fl,fm,nu,mi,us,at0,ld,d))) S64_0.n fun e t' m' _=>S64_0.out R e t' m')=(kw R i L [oa mi nu us at0 ld,n9,none] d (ar 0::B m2::S r6::ak r7::ar 8::ar 22::jm::du L i 1 k2 cap2) k2 0 (jo nb sg cr s w dg sc dr f fl fm 1 k cap) (je d) (gk (dq i 2 d) s i (bm (il d) R [jo nb sg cr s w dg sc dr f fl fm 1 k cap,je d,oa mi nu us at0 ld,n9,none] (ar 0::B m2::S r6::ak r7::ar 8::ar 22::jm::dp L i 1 k2 cap2)) (bif i==f then e64 m2 r6 r7 k2 cap2 L i s nb w dg sc sg k cap dr f cr fl fm nu mi us at0 ld d [] 1 240 fl us R else bq cr true (cr&&decide (i≥d9 s 2)) (bif !m2 then e64 m2 r6 r7 k2 cap2 L i s nb w dg sc sg k cap dr f cr fl fm nu mi us at0 ld d [] 1 256 32 us R else e64 m2 r6 r7 k2 cap2 L i s nb w dg sc sg k cap dr f cr fl fm nu mi us at0 ld d [] 1 255 (au s i) us R) (ja (ls i 0 d) (c9 i d) 6 (pp mi nu s us i (e64 m2 r6 r7 k2 cap2 L i s nb w dg sc sg k cap dr f cr fl fm nu mi us at0 ld d [] 1 303 32 (ax us) R) (e64 m2 r6 r7 k2 cap2 L i s nb w dg sc sg k cap dr f cr fl fm nu mi us at0 ld d [] 1 328 (puZ (kg (l6 nu us) .u8) mi) (ax us) R) (e64 m2 r6 r7 k2 cap2 L i s nb w dg sc sg k cap dr f cr fl fm nu mi us at0 ld d [] 1 328 (l6 nu us) (ax us) R)) (bif ls i 1 d then l4 (bw at0 ld) (cm (ax us) 1) (al nu) (e64 m2 r6 r7 k2 cap2 L i s nb w dg sc sg k cap dr f cr fl fm nu mi us at0 ld d [] 1 299 fl (ax us) R) (e64 m2 r6 r7 k2 cap2 L i s nb w dg sc sg k cap dr f cr fl fm nu mi us at0 ld d [] 1 293 (l6 nu us) (ax us) R)else po mi s i at0 ld d (e64 m2 r6 r7 k2 cap2 L i s nb w dg sc sg k cap dr f cr fl fm nu mi us at0 ld d [] 1 263 32 us R) (e64 m2 r6 r7 k2 cap2 L i s nb w dg sc sg k cap dr f cr fl fm nu mi us at0 ld d [] 1 280 fl us R) (e64 m2 r6 r7 k2 cap2 L i s nb w dg sc sg k cap dr f cr fl fm nu mi us at0 ld d [] 1 274 (au s i) us R) (e64 m2 r6 r7 k2 cap2 L i s nb w dg sc sg k cap dr f cr fl fm nu mi us at0 ld d [] 1 269 45 us R) (e64 m2 r6 r7 k2 cap2 L i s nb w dg sc sg k cap dr f cr fl fm nu mi us at0 ld d [] 1 272 43 us R) (e64 m2 r6 r7 k2 cap2 L i s nb w dg sc sg k cap dr f cr fl fm nu mi us at0 ld d [] 1 280 32 us R) (e64 m2 r6 r7 k2 cap2 L i s nb w dg sc sg k cap dr f cr fl fm nu mi us at0 ld d [] 1 281 (au s i) us R) (e64 m2 r6 r7 k2 cap2 L i s nb w dg sc sg k cap dr f cr fl fm nu mi us at0 ld d [] 1 261 (au s i) us R)))))):=by kernel_rfl
def nc(b:J)(a:Nat):Option Blk:=some (.mk (rlbL [(a,200)] b) 221 false)
theorem r64_0o(m2:Bool)(r6:Y)(r7:Int)(od:J)(om:Nat)(oc:Nat)(k2:Nat)(cap2:Nat)(L:Int)(i:Int)(s:Y)(nb:Bool)(w:Int)(dg:Int)(sc:Int)(sg:Bool)(k:Nat)(cap:Nat)(dr:Int)(f:Int)(cr:Bool)(fl:Int)(fm:Int)(nu:Y)(mi:Bool)(us:Int)(at0:Int)(ld:Int)(d:J)(jk:Tmps)(R:Exit→J→Ya→Prop):(jbn Tryz.prog G35 noL Tryz.f184.ntmps (ja2 Tryz.f184 0) (tl S64_0.live (V64_0 (m2,r6,r7,(.own od om oc),k2,cap2,L,i,s,nb,w,dg,sc,sg,k,cap,dr,f,cr,fl,fm,nu,mi,us,at0,ld,d)) jk) (ml S64_0.mid (B64_0 (m2,r6,r7,(.own od om oc),k2,cap2,L,i,s,nb,w,dg,sc,sg,k,cap,dr,f,cr,fl,fm,nu,mi,us,at0,ld,d))) S64_0.n fun e t' m' _=>S64_0.out R e t' m')=(dy (bw i L) (cl i (k2:Int)) (kc [] d od 200 200&&true) (bif jbg .i64 d (ew i)then gk (dq i 2 d) s i (bm (kc [] d od 200 200&&true) R [jo nb sg cr s w dg sc dr f fl fm 1 k cap,nc d 200,oa mi nu us at0 ld,n9,gn od] (ar 0::B m2::S r6::ak r7::ar 8::ar 22::cq 200 0 om oc::dp L i 1 k2 cap2)) (bif i==f then bif e8 od oc om 1 then e64 m2 r6 r7 k2 cap2 L i s nb w dg sc sg k cap dr f cr fl fm nu mi us at0 ld d (g9 od om) (om+1) 240 fl us R else False else bq cr true (cr&&decide (i≥d9 s 2)) (bif !m2 then bif e8 od oc om 1 then e64 m2 r6 r7 k2 cap2 L i s nb w dg sc sg k cap dr f cr fl fm nu mi us at0 ld d (g9 od om) (om+1) 256 32 us R else False else bif e8 od oc om 1 then e64 m2 r6 r7 k2 cap2 L i s nb w dg sc sg k cap dr f cr fl fm nu mi us at0 ld d (g9 od om) (om+1) 255 (au s i) us R else False) (ja (ls i 0 d) (c9 i d) 6 (pp mi nu s us i (bif e8 od oc om 1 then e64 m2 r6 r7 k2 cap2 L i s nb w dg sc sg k cap dr f cr fl fm nu mi us at0 ld d (g9 od om) (om+1) 303 32 (ax us) R else False) (bif e8 od oc om 1 then e64 m2 r6 r7 k2 cap2 L i s nb w dg sc sg k cap dr f cr fl fm nu mi us at0 ld d (g9 od om) (om+1) 328 (puZ (kg (l6 nu us) .u8) mi) (ax us) R else False) (bif e8 od oc om 1 then e64 m2 r6 r7 k2 cap2 L i s nb w dg sc sg k cap dr f cr fl fm nu mi us at0 ld d (g9 od om) (om+1) 328 (l6 nu us) (ax us) R else False)) (bif ls i 1 d then l4 (bw at0 ld) (cm (ax us) 1) (al nu) (bif e8 od oc om 1 then e64 m2 r6 r7 k2 cap2 L i s nb w dg sc sg k cap dr f cr fl fm nu mi us at0 ld d (g9 od om) (om+1) 299 fl (ax us) R else False) (bif e8 od oc om 1 then e64 m2 r6 r7 k2 cap2 L i s nb w dg sc sg k cap dr f cr fl fm nu mi us at0 ld d (g9 od om) (om+1) 293 (l6 nu us) (ax us) R else False)else po mi s i at0 ld d (bif e8 od oc om 1 then e64 m2 r6 r7 k2 cap2 L i s nb w dg sc sg k cap dr f cr fl fm nu mi us at0 ld d (g9 od om) (om+1) 263 32 us R else False) (bif e8 od oc om 1 then e64 m2 r6 r7 k2 cap2 L i s nb w dg sc sg k cap dr f cr fl fm nu mi us at0 ld d (g9 od om) (om+1) 280 fl us R else False) (bif e8 od oc om 1 then e64 m2 r6 r7 k2 cap2 L i s nb w dg sc sg k cap dr f cr fl fm nu mi us at0 ld d (g9 od om) (om+1) 274 (au s i) us R else False) (bif e8 od oc om 1 then e64 m2 r6 r7 k2 cap2 L i s nb w dg sc sg k cap dr f cr fl fm nu mi us at0 ld d (g9 od om) (om+1) 269 45 us R else False) (bif e8 od oc om 1 then e64 m2 r6 r7 k2 cap2 L i s nb w dg sc sg k cap dr f cr fl fm nu mi us at0 ld d (g9 od om) (om+1) 272 43 us R else False) (bif e8 od oc om 1 then e64 m2 r6 r7 k2 cap2 L i s nb w dg sc sg k cap dr f cr fl fm nu mi us at0 ld d (g9 od om) (om+1) 280 32 us R else False) (bif e8 od oc om 1 then e64 m2 r6 r7 k2 cap2 L i s nb w dg sc sg k cap dr f cr fl fm nu mi us at0 ld d (g9 od om) (om+1) 281 (au s i) us R else False) (bif e8 od oc om 1 then e64 m2 r6 r7 k2 cap2 L i s nb w dg sc sg k cap dr f cr fl fm nu mi us at0 ld d (g9 od om) (om+1) 261 (au s i) us R else False))))else False) (R (.exit 0) (ar 0::B m2::S r6::ak r7::ar 8::ar 22::cq 200 0 om oc::du L i 1 k2 cap2) [jo nb sg cr s w dg sc dr f fl fm 1 k cap,nc d 200,oa mi nu us at0 ld,n9,gn od])):=by kernel_rfl
theorem l64_0:LOKf Tryz.prog (oneL 0 S64_0.hA) Tryz.f184:=by
 refine jbb (h:=S64_0.hA) (by kernel_rfl) (jbo ok_G35 hmix (by kernel_rfl) (ja0 _) S64_0 V64_0 B64_0 (fun(m2,r6,r7,o,k2,cap2,L,i,s,nb,w,dg,sc,sg,k,cap,dr,f,cr,fl,fm,nu,mi,us,at0,ld,d)=>(k2-i).toNat) ?_ ?_ ?_)
 ·intro vs bs s h;simp only[S64_0]at h;split at h
  all_goals first | (cases h;exact⟨rfl,rfl⟩) | cases h | (split at h<;>first | (rename_i hq;cases h;have hq:=isHow_eq hq;subst hq;exact⟨rfl,rfl⟩) | cases h)
 ·exact fun⟨m2,r6,r7,o,k2,cap2,L,i,s,nb,w,dg,sc,sg,k,cap,dr,f,cr,fl,fm,nu,mi,us,at0,ld,d⟩ hp=>by
   simp only[S64_0,jaf]at hp;have hr:=jat.1 hp.2.1;cases o with
   | nil=>simp[how,V64_0,B64_0,S64_0,jaw,jbs,idsL,ids,Rw.v,Rw.b,jao hr.plain]
   | own od om oc=>simp[how,V64_0,B64_0,S64_0,jaw,jbs,idsL,ids,Rw.v,Rw.b,jao hr.plain,jao (jap.1 hp.1).plain]
 ·intro⟨m2,r6,r7,o,k2,cap2,L,i,s,nb,w,dg,sc,sg,k,cap,dr,f,cr,fl,fm,nu,mi,us,at0,ld,d⟩ jk Z hp hf;simp only[S64_0]at hp hf;cases o with
  | nil=>
   rw[r64_0n];delta e7 dy ew il cl bw kw av al bk gk bq ja c9 ls ij au aw po l4 ax fx l6 cm bv pp kg d9 bm az ak ct cq dp jm ar jg n9 bp oa je am jo dq du;simp only[jaf,jae]at hp;obtain⟨-,hR,hO,hD,rfl,hp⟩:=hp;have hr:=jat.1 hR;simp only[Rw.z,List.length_nil]at hp hf;have e0:0+i.toNat*1=i.toNat:=by omega
   rw[e0];apply Ka<;>intro h
   ·have h:=jab h;obtain⟨a1,a3⟩:=hr.at hp.1 (by omega);have hro:=roOK_at hO a3;rw[a3,wrGo,jca hp.1 (by omega),List.headD_cons,List.tail_cons]at hf;rw[a3]at hp;have hc1:= @cdg_c (jar d i.toNat) ((zc d k2).drop (i+1).toNat);have hc2:=jng ((zc d k2).drop (i+1).toNat);rw[a1,w64 (n:=i+1) (by omega),w64 (n:=(s.size:Int)-2) (by omega)];have eu:IntKind.wrap .i64 (IntKind.wrap .i64 (us+1)-1)=us:=by rw[w64 (n:=us+1) (by omega),w64 (by omega)];omega
    rw[eu];generalize jar d i.toNat=r at*;generalize jai s i.toNat=c at*;have er:((0+r.toNat*1:Nat):Int)=r:=by omega
    rw[er];refine c_t (jaa (by omega)) (c_t rfl (c_t (jaa (by omega)) (Ka (fun q=> ?_) (fun q=> ?_))))
    ·rw[q,cond_true]at hf;refine c_t (by rw[hr.good];rfl) ?_;rw[hr.rlb];exact⟨(m2,r6,r7,.nil,k2,cap2,L,i+1,s,nb,w,dg,sc,sg,k,cap,dr,f,cr,fl,fm,nu,m2,us,at0,ld,d),rfl,rfl,by simp only[S64_0,jaf,jae];exact⟨rfl,hR,hO,hD,trivial,by simp only[Rw.z,List.length_nil];omega⟩,by simp only;omega,hf⟩
    ·rw[q,cond_false]at hf
     have leaf:∀(b:Bool)(N:Nat)(X:Int){U:Int},wrC f cr s.size m2 ld fl r c (List.headD (List.drop us.toNat (bz nu)) 0) i at0=X→wrT f cr s.size r i=b→(bif b then(List.drop us.toNat (bz nu)).tail else List.drop us.toNat (bz nu))=List.drop U.toNat (bz nu)→(U+cdg ((zc d k2).drop (i+1).toNat)≤nu.size∧0≤U∧U≤i+1)→e64 m2 r6 r7 k2 cap2 L i s nb w dg sc sg k cap dr f cr fl fm nu m2 us at0 ld d [] 1 N X U (S64_0.step V64_0 B64_0 (fun(m2,r6,r7,o,k2,cap2,L,i,s,nb,w,dg,sc,sg,k,cap,dr,f,cr,fl,fm,nu,mi,us,at0,ld,d)=>(k2-i).toNat) (m2,r6,r7,.nil,k2,cap2,L,i,s,nb,w,dg,sc,sg,k,cap,dr,f,cr,fl,fm,nu,m2,us,at0,ld,d) Z):=by
      intro b N X U e eT eD hU;rw[e,eT,eD]at hf;intro cap1 tail ht;obtain⟨h1,h2⟩:RowP ([]++ [Value.int IntKind.u8 X]++tail) 1 cap1∧zc ([]++ [Value.int IntKind.u8 X]++tail) 1=[X]:=jgc [X] ht;have hl1:=jbe h1;rw[w64 (n:=i+1) (by omega),w64 (n:=at0+1) (by omega)];generalize []++ [Value.int IntKind.u8 X]++tail=od' at*;refine c_t (by rw[hr.good,h1.good];rfl) ?_;rw[hr.rlb,h1.rlb];exact⟨(m2,r6,r7,.own od' (1) cap1,k2,cap2,L,i+1,s,nb,w,dg,sc,sg,k,cap,dr,f,cr,fl,fm,nu,m2,U,at0+1,ld,d),rfl,rfl,by simp only[S64_0,jaf,jae];exact⟨jap.2 h1,hR,hO,hD,trivial,by simp only[Rw.z,hl1];omega⟩,by simp only;omega,⟨fun q=>(by cases q),fun us' at' i' od'' om'' oc'' g1 g2=>hf.2 us' at' i' od'' om'' oc'' g1 (by rw[g2];simp only[Rw.z,h2,Kz,List.cons_append,List.nil_append])⟩⟩
     refine Ka (fun q0=> ?_) (fun q0=>c_t (by simp) (Ka (fun q1=>Ka (fun q2=> ?_) (fun q2=> ?_)) (fun q1=>c_t (jaa hro) ?_)))
     ·exact leaf false _ _ (by simp only[wrC,q0,cond_true,cond_false]) (by simp[wrT,q0]) rfl (by omega)
     ·exact leaf false _ _ (by simp only[wrC,q0,q1,q2,cond_true,cond_false]) (by simp[wrT,q0,q1,q2]) rfl (by omega)
     ·exact leaf false _ _ (by simp only[wrC,q0,q1,q2,cond_true,cond_false]) (by simp[wrT,q0,q1,q2]) rfl (by omega)
     ·refine Ka (fun n=> ?_) (fun m=>Ka (fun n=> ?_) (fun m1=>Ka (fun n=> ?_) (fun m2'=>Ka (fun n=> ?_) (fun m3=>Ka (fun n=> ?_) (fun m4=> ?_)))))
      ·have n0:=jab n;have hc3:= @jnw r ((zc d k2).drop (i+1).toNat) (by omega);have hd:=jmc hD hp.2.2.2.2.2.2.1 (by omega);have ed:=jca hp.2.2.2.2.2.2.1 (s:=nu) (by omega);have ed':List.headD (List.drop us.toNat (bz nu)) 0=jai nu us.toNat:=by rw[ed];rfl
       rw[w8 (n:=jai nu us.toNat-48) (by omega),w64 (n:=jai nu us.toNat-48) (by omega)];generalize jai nu us.toNat=dd at*;refine c_t (jaa (by omega)) (c_t (by simp) (Ka (fun q2=> ?_) (fun q2=>c_t (by cases c==84<;>cases c==73<;>simp) (Ka (fun q3=> ?_) (fun q3=> ?_)))))
       ·rw[w64 (n:=us+1) (by omega)];exact leaf true _ _ (by simp only[wrC,q0,q1,n,ed',cond_true,cond_false];exact fm_a q2) (by simp[wrT,q0,q1,n,ed']) (by rw[cond_true,ed,List.tail_cons]) (by omega)
       ·rw[w64 (n:=us+1) (by omega)];exact leaf true _ _ (by simp only[wrC,q0,q1,n,ed',cond_true,cond_false];exact fm_b q2 q3) (by simp[wrT,q0,q1,n,ed']) (by rw[cond_true,ed,List.tail_cons]) (by omega)
       ·rw[w64 (n:=us+1) (by omega)];exact leaf true _ _ (by simp only[wrC,q0,q1,n,ed',cond_true,cond_false];exact fm_c q2 q3) (by simp[wrT,q0,q1,n,ed']) (by rw[cond_true,ed,List.tail_cons]) (by omega)
      ·have n0:=jab n;have hc3:= @jnw r ((zc d k2).drop (i+1).toNat) (by omega);have hd:=jmc hD hp.2.2.2.2.2.2.1 (by omega);have ed:=jca hp.2.2.2.2.2.2.1 (s:=nu) (by omega);have ed':List.headD (List.drop us.toNat (bz nu)) 0=jai nu us.toNat:=by rw[ed];rfl
       generalize jai nu us.toNat=dd at*;refine c_t (jaa (by omega)) (Ka (fun q2=> ?_) (fun q2=> ?_))
       all_goals
        rw[w64 (n:=us+1) (by omega)];exact leaf true _ _ (by simp only[wrC,q0,q1,m,n,q2,ed',cond_true,cond_false]) (by simp[wrT,q0,q1,m,n,q2,ed']) (by rw[cond_true,ed,List.tail_cons]) (by omega)
      ·have n:=jab n;rw[n]at q;cases q
      ·refine Ka (fun q2=> ?_) (fun q2=>Ka (fun q3=> ?_) (fun q3=> ?_))
       ·exact leaf false _ _ (by simp only[wrC,q0,q1,m,m1,n,q2,cond_true,cond_false]) (by simp[wrT,q0,q1,m,m1,n,q2]) rfl (by omega)
       all_goals
        exact leaf false _ _ (by simp only[wrC,q0,q1,m,m1,n,q2,q3,cond_true,cond_false]) (by simp[wrT,q0,q1,m,m1,n,q2,q3]) rfl (by omega)
      ·refine c_t (by simp) (Ka (fun q2=> ?_) (fun q2=>Ka (fun q3=> ?_) (fun q3=>Ka (fun q4=> ?_) (fun q4=> ?_))))
       ·exact leaf false _ _ (by simp only[wrC,q0,q1,m,m1,m3,n,q2,cond_true,cond_false]) (by simp[wrT,q0,q1,m,m1,m3,n,q2]) rfl (by omega)
       ·exact leaf false _ _ (by simp only[wrC,q0,q1,m,m1,m3,n,q2,cond_true,cond_false];rw[q3];rfl) (by simp[wrT,q0,q1,m,m1,m3,n,q2]) rfl (by omega)
       all_goals
        exact leaf false _ _ (by simp only[wrC,q0,q1,m,m1,m3,n,q2,cond_true,cond_false];rw[q3,q4];rfl) (by simp[wrT,q0,q1,m,m1,m3,n,q2]) rfl (by omega)
      ·have k0:=jac m;have k1:=jac m1;have k3:=jac m3;have k4:=jac m4;have k2':r≠2:=fun e=>by rw[e]at q;cases q
       refine c_t (jaa (by omega)) ?_;exact leaf false _ _ (by simp only[wrC,q0,q1,m,m1,m3,m4,cond_true,cond_false]) (by simp[wrT,q0,q1,m,m1,m3,m4]) rfl (by omega)
   ·have h:=jac h;rw[hr.end (by omega),wrGo]at hf;refine c_t (by rw[hr.good];rfl) ?_;rw[hr.rlb];exact hf.1 rfl rfl us at0 i
  | own od om oc=>
   rw[r64_0o];delta e7 dy gn jg n9 ak bp ar oa nc am cq jo du av al bk gk bq cl ja ew c9 ls ij au aw bw po g9 e8 l4 ax fx l6 cm bv pp kg d9 bm az ct dp kc dq;simp only[jaf,jae]at hp;obtain⟨ho,hR,hO,hD,rfl,hp⟩:=hp;have hr:=jat.1 hR;have ho:=jap.1 ho;have hzl:=jbe ho;simp only[Rw.z,hzl]at hp hf;have e0:0+i.toNat*1=i.toNat:=by omega
   rw[e0];apply Ka<;>intro h
   ·have h:=jab h;obtain⟨a1,a3⟩:=hr.at hp.1 (by omega);have hro:=roOK_at hO a3;rw[a3,wrGo,jca hp.1 (by omega),List.headD_cons,List.tail_cons]at hf;rw[a3]at hp;have hc1:= @cdg_c (jar d i.toNat) ((zc d k2).drop (i+1).toNat);have hc2:=jng ((zc d k2).drop (i+1).toNat);rw[a1,w64 (n:=i+1) (by omega),w64 (n:=(s.size:Int)-2) (by omega)];have eu:IntKind.wrap .i64 (IntKind.wrap .i64 (us+1)-1)=us:=by rw[w64 (n:=us+1) (by omega),w64 (by omega)];omega
    rw[eu];generalize jar d i.toNat=r at*;generalize jai s i.toNat=c at*;have er:((0+r.toNat*1:Nat):Int)=r:=by omega
    rw[er];refine c_t (jaa (by omega)) (c_t rfl (c_t (jaa (by omega)) (Ka (fun q=> ?_) (fun q=> ?_))))
    ·rw[q,cond_true]at hf;refine c_t (by rw[hr.good,ho.good];rfl) ?_;rw[hr.rlb,ho.rlb];exact⟨(m2,r6,r7,.own od om oc,k2,cap2,L,i+1,s,nb,w,dg,sc,sg,k,cap,dr,f,cr,fl,fm,nu,m2,us,at0,ld,d),rfl,rfl,by simp only[S64_0,jaf,jae];exact⟨jap.2 ho,hR,hO,hD,trivial,by simp only[Rw.z,hzl];omega⟩,by simp only;omega,hf⟩
    ·rw[q,cond_false]at hf
     have leaf:∀(b:Bool)(N:Nat)(X:Int){U:Int},wrC f cr s.size m2 ld fl r c (List.headD (List.drop us.toNat (bz nu)) 0) i at0=X→wrT f cr s.size r i=b→(bif b then(List.drop us.toNat (bz nu)).tail else List.drop us.toNat (bz nu))=List.drop U.toNat (bz nu)→(U+cdg ((zc d k2).drop (i+1).toNat)≤nu.size∧0≤U∧U≤i+1)→e64 m2 r6 r7 k2 cap2 L i s nb w dg sc sg k cap dr f cr fl fm nu m2 us at0 ld d (List.take (om*1) od) (om+1) N X U (S64_0.step V64_0 B64_0 (fun(m2,r6,r7,o,k2,cap2,L,i,s,nb,w,dg,sc,sg,k,cap,dr,f,cr,fl,fm,nu,mi,us,at0,ld,d)=>(k2-i).toNat) (m2,r6,r7,.own od om oc,k2,cap2,L,i,s,nb,w,dg,sc,sg,k,cap,dr,f,cr,fl,fm,nu,m2,us,at0,ld,d) Z):=by
      intro b N X U e eT eD hU;rw[e,eT,eD]at hf;intro cap1 tail ht;obtain⟨h1,h2⟩:=ho.app1 X ht;have hl1:=jbe h1;rw[w64 (n:=i+1) (by omega),w64 (n:=at0+1) (by omega)];generalize List.take (om*1) od++ [Value.int IntKind.u8 X]++tail=od' at*;refine c_t (by rw[hr.good,h1.good];rfl) ?_;rw[hr.rlb,h1.rlb];exact⟨(m2,r6,r7,.own od' (om+1) cap1,k2,cap2,L,i+1,s,nb,w,dg,sc,sg,k,cap,dr,f,cr,fl,fm,nu,m2,U,at0+1,ld,d),rfl,rfl,by simp only[S64_0,jaf,jae];exact⟨jap.2 h1,hR,hO,hD,trivial,by simp only[Rw.z,hl1];omega⟩,by simp only;omega,⟨fun q=>(by cases q),fun us' at' i' od'' om'' oc'' g1 g2=>hf.2 us' at' i' od'' om'' oc'' g1 (by rw[g2];simp only[Rw.z,h2,Kz,List.cons_append,List.nil_append])⟩⟩
     refine Ka (fun q0=> ?_) (fun q0=>c_t (by simp) (Ka (fun q1=>Ka (fun q2=> ?_) (fun q2=> ?_)) (fun q1=>c_t (jaa hro) ?_)))
     ·refine c_t (ho.ask (k:=1) (by omega)) ?_;exact leaf false _ _ (by simp only[wrC,q0,cond_true,cond_false]) (by simp[wrT,q0]) rfl (by omega)
     ·refine c_t (ho.ask (k:=1) (by omega)) ?_;exact leaf false _ _ (by simp only[wrC,q0,q1,q2,cond_true,cond_false]) (by simp[wrT,q0,q1,q2]) rfl (by omega)
     ·refine c_t (ho.ask (k:=1) (by omega)) ?_;exact leaf false _ _ (by simp only[wrC,q0,q1,q2,cond_true,cond_false]) (by simp[wrT,q0,q1,q2]) rfl (by omega)
     ·refine Ka (fun n=> ?_) (fun m=>Ka (fun n=> ?_) (fun m1=>Ka (fun n=> ?_) (fun m2'=>Ka (fun n=> ?_) (fun m3=>Ka (fun n=> ?_) (fun m4=> ?_)))))
      ·have n0:=jab n;have hc3:= @jnw r ((zc d k2).drop (i+1).toNat) (by omega);have hd:=jmc hD hp.2.2.2.2.2.2.1 (by omega);have ed:=jca hp.2.2.2.2.2.2.1 (s:=nu) (by omega);have ed':List.headD (List.drop us.toNat (bz nu)) 0=jai nu us.toNat:=by rw[ed];rfl
       rw[w8 (n:=jai nu us.toNat-48) (by omega),w64 (n:=jai nu us.toNat-48) (by omega)];generalize jai nu us.toNat=dd at*;refine c_t (jaa (by omega)) (c_t (by simp) (Ka (fun q2=> ?_) (fun q2=>c_t (by cases c==84<;>cases c==73<;>simp) (Ka (fun q3=> ?_) (fun q3=> ?_)))))
       ·refine c_t (ho.ask (k:=1) (by omega)) ?_;rw[w64 (n:=us+1) (by omega)];exact leaf true _ _ (by simp only[wrC,q0,q1,n,ed',cond_true,cond_false];exact fm_a q2) (by simp[wrT,q0,q1,n,ed']) (by rw[cond_true,ed,List.tail_cons]) (by omega)
       ·refine c_t (ho.ask (k:=1) (by omega)) ?_;rw[w64 (n:=us+1) (by omega)];exact leaf true _ _ (by simp only[wrC,q0,q1,n,ed',cond_true,cond_false];exact fm_b q2 q3) (by simp[wrT,q0,q1,n,ed']) (by rw[cond_true,ed,List.tail_cons]) (by omega)
       ·refine c_t (ho.ask (k:=1) (by omega)) ?_;rw[w64 (n:=us+1) (by omega)];exact leaf true _ _ (by simp only[wrC,q0,q1,n,ed',cond_true,cond_false];exact fm_c q2 q3) (by simp[wrT,q0,q1,n,ed']) (by rw[cond_true,ed,List.tail_cons]) (by omega)
      ·have n0:=jab n;have hc3:= @jnw r ((zc d k2).drop (i+1).toNat) (by omega);have hd:=jmc hD hp.2.2.2.2.2.2.1 (by omega);have ed:=jca hp.2.2.2.2.2.2.1 (s:=nu) (by omega);have ed':List.headD (List.drop us.toNat (bz nu)) 0=jai nu us.toNat:=by rw[ed];rfl
       generalize jai nu us.toNat=dd at*;refine c_t (jaa (by omega)) (Ka (fun q2=> ?_) (fun q2=> ?_))
       all_goals
        refine c_t (ho.ask (k:=1) (by omega)) ?_;rw[w64 (n:=us+1) (by omega)];exact leaf true _ _ (by simp only[wrC,q0,q1,m,n,q2,ed',cond_true,cond_false]) (by simp[wrT,q0,q1,m,n,q2,ed']) (by rw[cond_true,ed,List.tail_cons]) (by omega)
      ·have n:=jab n;rw[n]at q;cases q
      ·refine Ka (fun q2=> ?_) (fun q2=>Ka (fun q3=> ?_) (fun q3=> ?_))
       ·refine c_t (ho.ask (k:=1) (by omega)) ?_;exact leaf false _ _ (by simp only[wrC,q0,q1,m,m1,n,q2,cond_true,cond_false]) (by simp[wrT,q0,q1,m,m1,n,q2]) rfl (by omega)
       all_goals
        refine c_t (ho.ask (k:=1) (by omega)) ?_;exact leaf false _ _ (by simp only[wrC,q0,q1,m,m1,n,q2,q3,cond_true,cond_false]) (by simp[wrT,q0,q1,m,m1,n,q2,q3]) rfl (by omega)
      ·refine c_t (by simp) (Ka (fun q2=> ?_) (fun q2=>Ka (fun q3=> ?_) (fun q3=>Ka (fun q4=> ?_) (fun q4=> ?_))))
       ·refine c_t (ho.ask (k:=1) (by omega)) ?_;exact leaf false _ _ (by simp only[wrC,q0,q1,m,m1,m3,n,q2,cond_true,cond_false]) (by simp[wrT,q0,q1,m,m1,m3,n,q2]) rfl (by omega)
       ·refine c_t (ho.ask (k:=1) (by omega)) ?_;exact leaf false _ _ (by simp only[wrC,q0,q1,m,m1,m3,n,q2,cond_true,cond_false];rw[q3];rfl) (by simp[wrT,q0,q1,m,m1,m3,n,q2]) rfl (by omega)
       all_goals
        refine c_t (ho.ask (k:=1) (by omega)) ?_;exact leaf false _ _ (by simp only[wrC,q0,q1,m,m1,m3,n,q2,cond_true,cond_false];rw[q3,q4];rfl) (by simp[wrT,q0,q1,m,m1,m3,n,q2]) rfl (by omega)
      ·have k0:=jac m;have k1:=jac m1;have k3:=jac m3;have k4:=jac m4;have k2':r≠2:=fun e=>by rw[e]at q;cases q
       refine c_t (jaa (by omega)) ?_;refine c_t (ho.ask (k:=1) (by omega)) ?_;exact leaf false _ _ (by simp only[wrC,q0,q1,m,m1,m3,m4,cond_true,cond_false]) (by simp[wrT,q0,q1,m,m1,m3,m4]) rfl (by omega)
   ·have h:=jac h;rw[hr.end (by omega),wrGo]at hf;refine c_t (by rw[hr.good,ho.good];rfl) ?_;rw[hr.rlb,ho.rlb];exact hf.2 us at0 i od om oc (jap.2 ho) (by simp)
def vwN(p:J):Lk:=fun j=>match Nat.beq j 0 with | true=>some ⟨p,280,false⟩ | false=>none
theorem sub_N{m:Lk}{a x:Nat}{nu:Y}{mi:Bool}{us at0 ld:Int}{own:Bool}(hp:m a=some ⟨pnL x nu mi us at0 ld,280,own⟩):SubM m (rho2 a x) (vwN (pnL 1 nu mi us at0 ld)) 2:=by
 have hget:∀j b,vwN (pnL 1 nu mi us at0 ld) j=some b→j=0∧b=⟨pnL 1 nu mi us at0 ld,280,false⟩:=fun j b h=>by
  simp only[vwN]at h;split at h
  ·rename_i h0;cases h;exact⟨jah h0,rfl⟩
  ·cases h
 refine⟨fun j b h=> ?_,fun j b h=> ?_⟩
 ·obtain⟨rfl,rfl⟩:=hget j b h;refine⟨by omega,fun i hi=> ?_⟩;have:i=1:=by simpa[pnL,idsL,ids]using hi
  omega
 ·obtain⟨rfl,rfl⟩:=hget j b h;refine⟨rfl,⟨pnL x nu mi us at0 ld,280,own⟩,?_,fun ι=> ?_⟩
  ·show noIt (m a)=_;rw[hp];simp only[noIt];have:(own&&Nat.beq 280 itTy)=false:=by cases own<;>rfl
   rw[this]
  ·simp[pnL,ren,ren1,rho2]
def sgC(c:Int)(m:Bool):Int:=bif c==83&&m then 45 else bif c==83 then 43 else bif (c==43)==m then 32 else c
theorem v94(nu:Y)(mi:Bool)(us:Int)(at0:Int)(ld:Int)(c:Int)(R:Value→Prop):(jax Tryz.prog G33 noL Tryz.f250 [.pointer (some ⟨0,0,some 0⟩),.int .u8 c] (vwN (pnL 1 nu mi us at0 ld)) 2 (fun v _ _=>R v))=(bq (c==83) true (c==83&&mi) (R (am 45)) (bif c==83 then R (am 43)else bif (c==43)==mi then R (am 32)else R (am c))):=by kernel_rfl
def h94:J→Lk→Nat→(Value→Lk→Nat→Prop)→Prop:=fun args m n K=>match args with
 | [.pointer (some ⟨a,0,some 0⟩),.int .u8 c]=>match m a with
  | some ⟨[.pointer (some ⟨x,0,some 0⟩),.string nu,.bool mi,.int .i64 us,.int .i64 at0,.int .i64 ld],280,own⟩=>∀e,sgC c mi=e→K (.int .u8 e) m n
  | _=>False
 | _=>False
def h90h:J→Lk→Nat→(Value→Lk→Nat→Prop)→Prop:=fun args m n K=>h90 args m n fun v m' n'=>match v with
 | .int .i64 x=>∀e,x=e→K (.int .i64 e) m' n'
 | _=>False
def G36:Env:=((((((Env.nil.add 114 (sp2 s78)).addG 247 (inlQ Tryz.prog G34 noL Tryz.f247)).addG 248 (inlQ Tryz.prog G34 noL Tryz.f248)).addG 249 (inlQ Tryz.prog G34 noL Tryz.f249)).addG 251 (inlQ Tryz.prog G34 noL Tryz.f251)).addG 246 h90h).addG 250 h94
theorem w94(nu:Y)(mi:Bool)(us at0 ld c:Int){R:Value→Prop}(h:R (.int .u8 (sgC c mi))):jel Tryz.prog G33 noL Tryz.f250 [.pointer (some ⟨0,0,some 0⟩),.int .u8 c] (vwN (pnL 1 nu mi us at0 ld)) 2 (fun v _ _=>R v):=by
 rw[jel,v94];delta av bq am;rw[sgC]at h;refine c_t (by simp) (Ka (fun q=> ?_) (fun q=>Ka (fun q2=> ?_) (fun q2=>Ka (fun q3=> ?_) (fun q3=> ?_))))
 ·rw[q]at h;exact h
 ·rw[q,q2]at h;exact h
 all_goals
  rw[q,q2,q3]at h;exact h
theorem h94_ok:jcw Tryz.prog 250 h94:=by
 refine jii ok_G33 hmix fn94 jal fun args m n K h=> ?_
 unfold h94 at h;split at h
 case h_2=>exact h.elim
 rename_i a c;split at h
 case h_2=>exact h.elim
 rename_i x nu mi us at0 ld own hm;refine⟨[.pointer (some ⟨0,0,some 0⟩),.int .u8 c],_,2,rho2 a x,.int .u8 (sgC c mi),sub_N hm,fun ι=>by simp[ren,ren1,rho2],jag,fun v hv j hj=> ?_,rfl,w94 nu mi us at0 ld c (R:=fun v=>v= .int .u8 (sgC c mi)) rfl,h _ rfl⟩;simp at hv;rcases hv with rfl | rfl
 ·have:j=0:=by simpa[ids]using hj
  omega
 ·simp[ids]at hj
theorem gen_imp{P:Program}{f:FuncId}{h h':J→Lk→Nat→(Value→Lk→Nat→Prop)→Prop}(hh:∀args m n K,h' args m n K→h args m n K)(hg:jcw P f h):jcw P f h':=
 ⟨hg.1,fun args m n K hk=>hg.2 args m n K (hh args m n K hk)⟩
theorem h90h_ok:jcw Tryz.prog 246 h90h:=by
 refine gen_imp (fun args m n K h=> ?_) h90_ok;unfold h90h h90 at h;unfold h90;split at h
 case h_2=>exact h.elim
 split at h
 case h_2=>exact h.elim
 split at h
 case h_2=>exact h.elim
 split at h
 case h_2=>exact h.elim
 split at h
 case h_2=>exact h.elim
 rename_i hm _ _ _ _ _ _ _ _ _ _ _ _ _ _ _ _ _ hx _ _ hy hc;simp only[*]
theorem ok_G36:ja3 Tryz.prog G36:=jau (jau (jau (jau (jau (jau (jaj jav ok78) (jbh ok_G34 hmix fn91 jal)) (jbh ok_G34 hmix fn92 jal)) (jbh ok_G34 hmix fn93 jal)) (jbh ok_G34 hmix fn95 jal)) h90h_ok) h94_ok
theorem lok64:LOKf Tryz.prog (oneL 0 S64_0.hA) Tryz.f184:=l64_0
def rg(a:Prop):Prop:=(((((a∧a)∧a)∧a)∧a)∧a)∧(((((a∧a)∧a)∧a)∧a)∧((((a∧a)∧a)∧a)∧(((a∧a)∧a)∧((a∧a)∧(a∧a)∧a)∧a)∧a)∧a)∧a
def rh(a d:Int)(c:J)(b:Nat)(e:Value→Prop):Prop:=bif cl (dt a 1) (b:Int)then jb (Nat.ble (0+(dt a 1).toNat*1+1) c.length) (ja8 (setL c (0+(dt a 1).toNat*1) [am d]) 0 b) (aq [ak a] (.string (ja5 (setL c (0+(dt a 1).toNat*1) [am d]) 0 b))) e else False
theorem v64(s:Y)(nb:Bool)(w:Int)(dg:Int)(sc:Int)(sg:Bool)(k:Nat)(cap:Nat)(dr:Int)(f:Int)(cr:Bool)(fl:Int)(fm:Int)(nu:Y)(mi:Bool)(d:J)(R:Value→Prop):(jax Tryz.prog G36 (oneL 0 S64_0.hA) Tryz.f184 [.pointer (some ⟨0,0,some 0⟩),S nu,B mi] (vwF2 (fmL s nb w dg sc sg 1 k cap dr f cr fl fm) d) 2 (fun v _ _=>R v))=(bif jbv d k cap&&decide (k≤1000∧nu.size≤1000∧cn1 (zc d k)≤al nu)then∀a:Int,enV (bz nu) fm (zc d k)=a→(bif dw a then br (ig (Utf8.encode fl) w 1000 1000) (aq [ak w] (S (sz (repZ (bz (Utf8.encode fl)) w.toNat)))) R else jt (S64_0.toLSpec.pre (mi,(ay,((0:Int),(Rw.nil,(k,(cap,(natO k,((0:Int),(s,(nb,(w,(dg,(sc,(sg,(k,(cap,(dr,(f,(cr,(fl,(fm,(nu,(mi,((0:Int),((0:Int),(a,rlbL [] d))))))))))))))))))))))))))) [] d 210 ((Rw.is Rw.nil=false→wrGo f cr (al s) mi a fl (lr d k) (bu s 0) (bu nu 0) 0 0=([]:O)→ki (Int→jh (rlbL [] d) 210 (bq (dr==36) true (dr==36&&gp a) False (ij (dr !=0) true (dr !=0&&gp a) (rg (∀b:Int,sgC dr mi=b→False)) (R (aq [ak a] (S ByteArray.empty)))))))∧ki (Int→(∀b:J,∀c:Nat,∀e:Nat,jcp b c e=true→zc b c=Rw.z Rw.nil++wrGo f cr (al s) mi a fl (lr d k) (bu s 0) (bu nu 0) 0 0→n7 (rlbL [] d) b 210 (bq (dr==36) true (dr==36&&gp a) (rh a 36 b c R) (ij (dr !=0) true (dr !=0&&gp a) (rg (∀g:Int,sgC dr mi=g→rh a g b c R)) (br (ja8 b 0 c) (aq [ak a] (S (ja5 b 0 c))) R)))))))else False):=by kernel_rfl
def wrV(sp:O)(w f:Int)(cr:Bool)(dr fl fm:Int)(ro nu:O)(mi:Bool):O×Int:=
 bif decide (enV nu fm ro<0)then(repZ [fl] w.toNat,w)
 else(bif dr !=0&&decide (enV nu fm ro>0)then(wrGo f cr sp.length mi (enV nu fm ro) fl ro sp nu 0 0).set (enV nu fm ro-1).toNat (bif dr==36 then 36 else sgC dr mi)
  else wrGo f cr sp.length mi (enV nu fm ro) fl ro sp nu 0 0,enV nu fm ro)
def wrR(x:O×Int):Value:= .tuple ⟨[.string (sz x.1),.int .i64 x.2]⟩
def cN:O→Int
 | []=>0
 | r::rs=>(bif r==2 then 0 else 1)+cN rs
theorem jnh:∀l,0≤cN l
 | []=>by simp[cN]
 | r::rs=>by have:=jnh rs;rw[cN];cases r==2<;>simp<;>omega
theorem cn1_cdg:∀l,cn1 l≤cdg l
 | []=>by simp[cn1,cdg]
 | r::rs=>by
  have:=cn1_cdg rs;rw[cn1,cdg];by_cases h1:r=1
  ·subst h1;show 1+_≤1+_;omega
  ·have e:(r==1)=false:=by simpa using h1
   rw[e];cases decide (r=0) || decide (r=1) <;>simp<;>omega
theorem jje{f:Int}{cr:Bool}{n:Int}{mi:Bool}{ld fl:Int}:∀(rs cs ds:O)(i a:Int),((wrGo f cr n mi ld fl rs cs ds i a).length:Int)=cN rs
 | [],_,_,_,_=>rfl
 | r::rs,cs,ds,i,a=>by
  rw[wrGo,cN];cases r==2
  ·simp only[cond_false,List.length_cons];have:=jje (f:=f) (cr:=cr) (n:=n) (mi:=mi) (ld:=ld) (fl:=fl) rs cs.tail (bif wrT f cr n r i then ds.tail else ds) (i+1) (a+1);omega
  ·simp only[cond_true];rw[jje];omega
theorem jj1{ze:Bool}{fm:Int}:∀(ro ds:O)(a:Int),-1≤a→enGo ze fm ro ds a≤a+cN ro
 | [],_,a,h=>by rw[enGo,cN];omega
 | r::rs,ds,a,h=>by
  have h0:=jnh rs;rw[enGo,cN];by_cases h2:r=2
  ·subst h2;have e0:((2:Int)==0)=false:=rfl;have e1:((2:Int)==1)=false:=rfl;have e2:((2:Int)==2)=true:=rfl;rw[e0,e1,e2];simp only[cond_true,cond_false];have:=jj1 (ze:=ze) (fm:=fm) rs ds a h;cases decide (fm>0) || !ze<;>simp<;>omega
  ·have e2:(r==2)=false:=by simpa using h2
   rw[e2];have h1:=jj1 (ze:=ze) (fm:=fm) rs ds (a+1) (by omega);have h3:=jj1 (ze:=ze) (fm:=fm) rs ds.tail (a+1) (by omega);cases r==0
   ·cases r==1
    ·simp only[cond_false];omega
    ·simp only[cond_true,cond_false];cases ds.headD 0 !=48<;>simp<;>omega
   ·simp only[cond_true,cond_false];omega
theorem enV_le{nu:O}{fm:Int}{ro:O}:enV nu fm ro≤cN ro:=by
 rw[enV];have:=jnh ro;have:=jj1 (ze:=(jcm nu [48]).isEmpty) (fm:=fm) ro nu 0 (by omega);cases enOn ro<;>simp<;>omega
theorem enc_fl{fl:Int}(h:fl=32∨fl=42):bz (Utf8.encode fl)=[fl]:=by
 rcases h with rfl | rfl<;>kernel_rfl
theorem w_64(s:Y)(nb:Bool)(w:Int)(dg:Int)(sc:Int)(sg:Bool)(k:Nat)(cap:Nat)(dr:Int)(f:Int)(cr:Bool)(fl:Int)(fm:Int)(nu:Y)(mi:Bool)(d:J)(hR:jbv d k cap=true)(hO:roOK (zc d k)=true)(hD:dgL (bz nu)=true)(hk:k≤1000∧nu.size≤1000∧k≤s.size∧s.size≤1000∧0≤w∧w≤1000)(hc:cdg (zc d k)≤nu.size)(hfl:fl=32∨fl=42)
  {R:Value→Prop} (hV:R (wrR (wrV (bz s) w f cr dr fl fm (zc d k) (bz nu) mi))):
  jel Tryz.prog G36 (oneL 0 S64_0.hA) Tryz.f184 [.pointer (some ⟨0,0,some 0⟩),.string nu,.bool mi] (vwF2 (fmL s nb w dg sc sg 1 k cap dr f cr fl fm) d) 2 (fun v _ _=>R v):=by
 rw[jel,v64];delta dx jv jt ki n7 av bq ij br aq ak rg jb am dt cl rh gp bu fw lr al jh ay ig dw;have h:=jat.1 hR;have h1:=cn1_cdg (zc d k);have hl:= @enV_le (bz nu) fm (zc d k);have z0:Int.toNat 0=0:=rfl;have hg:(jas [] d&&true&&true&& (jaw 210 d&&true))=true:=by rw[h.good];simp[jaw,idsL,jao h.plain]
 have hi:(jaw 210 d&&true)=true:=by simp[jaw,idsL,jao h.plain]
 have sl:((bz s).length:Int)=s.size:=by rw[jak]
 rw[wrV,wrR,sl]at hV;simp only[h.rlb,z0,List.drop_zero];refine c_t (by rw[hR];simp only[Bool.true_and,jae];omega) fun e he=> ?_
 rw[he]at hV hl;have hw:=fun a=> @jje f cr s.size mi e fl (zc d k) (bz s) (bz nu) 0 a
 have hw:=hw 0;generalize wrGo f cr s.size mi e fl (zc d k) (bz s) (bz nu) 0 0=W at*;apply Ka<;>intro q
 ·rw[q,cond_true]at hV;have eb:=enc_fl hfl;have es:(Utf8.encode fl).size=1:=by rw[←jak,eb];rfl
  rw[es,eb];exact c_t (jaa (by omega)) hV
 ·rw[q,cond_false]at hV;refine c_t hg (c_t ?_ ⟨fun _ hn us' at' i'=>c_t hi fun _=>c_t (by simp) ?_,fun us' at' i' od om oc g1 g2=> ?_⟩)
  ·show(Rw.nil.ok&& (jbv d k cap&& (roOK (zc d k) && (dgL (bz nu) &&decide (mi=mi∧(0:Int)≤0∧(0:Int)≤k∧k≤1000∧natO k=k∧k≤s.size∧s.size≤1000∧(0:Int)≤0∧(0:Int)≤0∧(0:Int)≤0∧(0:Int)≤0∧0+cdg ((zc d k).drop (Int.toNat 0))≤nu.size∧((Rw.nil.z.length:Nat):Int)≤0)))))=true;rw[hR,hO,hD,jby,z0,List.drop_zero];simp only[Bool.true_and,Rw.ok,Rw.z,List.length_nil,jae];exact⟨trivial,by omega,by omega,by omega,trivial,by omega,by omega,by omega,by omega,by omega,by omega,by omega,by omega⟩
  ·rw[hn,List.length_nil]at hw;have e0:decide (e>0)=false:=jad (by omega);rw[e0,Bool.and_false,Bool.and_false,cond_false];rw[e0,Bool.and_false,cond_false,hn]at hV;exact c_t (by simp) hV
  ·have ho:=jap.1 g1;have hzl:=jbe ho;rw[g2]at hzl;have g3:zc od om=W:=by rw[g2];rfl
   have hzl:W.length=om:=hzl;have hio:(jaw 210 d&& (jaw 210 od&&true))=true:=by simp[jaw,idsL,jao h.plain,jao ho.plain]
   have hset:∀x:Int,e>0→R (.tuple ⟨[.string (sz (W.set (e-1).toNat x)),.int .i64 e]⟩)→
     (bif decide (0 ≤ IntKind.wrap IntKind.i64 (e-1) ∧ IntKind.wrap IntKind.i64 (e-1)<(↑om : Int)) then
      bif Nat.ble (0+Int.toNat (IntKind.wrap IntKind.i64 (e-1))*1+1) (List.length od)then
       bif ja8 (setL od (0+Int.toNat (IntKind.wrap IntKind.i64 (e-1))*1) [Value.int IntKind.u8 x]) 0 om then
        R (Value.tuple (Array.mk [Value.string (ja5 (setL od (0+Int.toNat (IntKind.wrap IntKind.i64 (e-1))*1) [Value.int IntKind.u8 x]) 0 om),Value.int IntKind.i64 e]))
       else False
      else False
     else False):=fun x h0 hx=>by
    have hb:(W.length:Int)≤1000:=by
     have:=hw
     have h2:cN (zc d k)≤k:=by
      have:∀l:O,cN l≤l.length:=fun l=>by
       induction l with
       | nil=>simp[cN]
       | cons r rs ih=>rw[cN,List.length_cons];cases r==2<;>simp<;>omega
      have:=this (zc d k);rw[jbk h]at this;exact this
     omega
    rw[w64 (n:=e-1) (by omega)];obtain⟨s1,s2,s4⟩:=ho.set x (i:=(e-1).toNat) (by omega);have s3:=s1.str;rw[s2,g3]at s3;exact c_t (jaa (by omega)) (c_t s4 (c_t s3.1 (by rw[s3.2];exact hx)))
   refine c_t hio fun _=>c_t (by simp) (Ka (fun p=> ?_) (fun p=>c_t (by simp) (Ka (fun p2=> ?_) (fun p2=> ?_))))
   ·obtain⟨p1,p3⟩:=Bool.and_eq_true_iff.1 p;have pe:dr=36:=by simpa using p1
    have pn:(dr !=0)=true:=by rw[pe];rfl
    rw[pn,p3,p1,Bool.true_and,cond_true,cond_true]at hV;exact hset 36 (jab p3) hV
   ·obtain⟨p1,p3⟩:=Bool.and_eq_true_iff.1 p2
    have pe:(dr==36)=false:=by
     rw[p3,Bool.and_true]at p;exact p
    rw[p1,p3,pe,Bool.true_and,cond_true,cond_false]at hV;have hX:∀e_1:Int,sgC dr mi=e_1→_:=fun e_1 h1=>hset e_1 (jab p3) (by rw[←h1];exact hV)
    repeat' (first | exact hX | apply And.intro)
   ·rw[p2,cond_false]at hV;have s3:=ho.str;rw[g3]at s3;exact c_t s3.1 (by rw[s3.2];exact hV)
def w64C(s nu:Y)(k cap:Nat)(w fl:Int)(d:J):Bool:=jbv d k cap&& (roOK (zc d k) && (dgL (bz nu) &&decide ((k≤1000∧nu.size≤1000∧k≤s.size∧s.size≤1000∧0≤w∧w≤1000)∧cdg (zc d k)≤nu.size∧(fl=32∨fl=42))))
def h64:J→Lk→Nat→(Value→Lk→Nat→Prop)→Prop:=fun args m n K=>match args with
 | [.pointer (some ⟨a,0,some 0⟩),.string nu,.bool mi]=>match m a with
  | some ⟨[.string s,.bool nb,.int .i64 w,.int .i64 dg,.int .i64 sc,.bool sg,.slice (some ⟨y,0,some 1⟩) k cap,.int .u8 dr,.int .i64 f,.bool cr,.int .u8 fl,.int .i64 fm],132,own⟩=>match m y with
   | some ⟨d,221,own2⟩=>match cnd (w64C s nu k cap w fl d)with
    | true=>∀(t:Y)(l:Int),sz (wrV (bz s) w f cr dr fl fm (zc d k) (bz nu) mi).1=t→(wrV (bz s) w f cr dr fl fm (zc d k) (bz nu) mi).2=l→K (.tuple ⟨[.string t,.int .i64 l]⟩) m n
    | false=>False
   | _=>False
  | _=>False
 | _=>False
theorem jm5:jcw Tryz.prog 184 h64:=by
 refine jii ok_G36 hmix fn64 lok64 fun args m n K h=> ?_
 unfold h64 at h;split at h
 case h_2=>exact h.elim
 rename_i a nu mi;split at h
 case h_2=>exact h.elim
 rename_i s nb w dg sc sg y k cap dr f cr fl fm own hm;split at h
 case h_2=>exact h.elim
 rename_i d own2 hy;split at h
 case h_2=>exact h.elim
 rename_i hc;simp only[cnd,w64C,jaf,jae]at hc;obtain⟨h1,h2,h3,h4,h5,h6⟩:=hc
 refine⟨[.pointer (some ⟨0,0,some 0⟩),.string nu,.bool mi],_,2,rho2 a y,wrR (wrV (bz s) w f cr dr fl fm (zc d k) (bz nu) mi),sub_F2 (jat.1 h1).plain hm hy,fun ι=>by simp[ren,ren1,rho2],jag,fun v hv j hj=> ?_,rfl,
  w_64 s nb w dg sc sg k cap dr f cr fl fm nu mi d h1 h2 h3 h4 h5 h6 (R:=fun v=>v=wrR (wrV (bz s) w f cr dr fl fm (zc d k) (bz nu) mi)) rfl,h _ _ rfl rfl⟩
 simp at hv;rcases hv with rfl | rfl | rfl
 ·have:j=0:=by simpa[ids]using hj
  omega
 ·simp[ids]at hj
 ·simp[ids]at hj
def G37:Env:=(((Env.nil.add 243 (sp1 s28)).addG 181 h62).addG 282 h63).addG 184 h64
theorem ok_G37:ja3 Tryz.prog G37:=jau (jau (jau (jaj jav ok28) jm6) h63_ok) jm5
end Go.Px
end
noncomputable section
namespace Go.Px
open Go Go.Ab Go.Proofs Go.Shelf
theorem jin{ze:Bool}{fm:Int}:∀(rs:O)(ds:O)(a:Int),okR rs→0≤a→(decide (fm>0) || !ze)=true→
  enGo ze fm rs ds a=je6 (rs.map rmk) ds a∨(enGo ze fm rs ds a= -1∧0∉rs∧ ∀c∈ds.take (cn1 rs).toNat,c=48)
 | [],ds,a,_,_,_=> .inr ⟨rfl,by simp,by simp[cn1]⟩
 | r::rs,ds,a,hok,ha,hz=>by
  have hok':okR rs:=fun x hx=>hok x (Kj _ hx)
  have h0:=jmd rs;rw[enGo,List.map_cons,je6];rcases jc8 (hok r Kh)with rfl | rfl | rfl | rfl | rfl | rfl
  ·exact .inl rfl
  ·show(bif ds.headD 0 !=48 then a else enGo ze fm rs ds.tail (a+1))=(bif ds.headD 0 !=48 then a else je6 (rs.map rmk) ds.tail (a+1))∨((bif ds.headD 0 !=48 then a else enGo ze fm rs ds.tail (a+1))= -1∧_∧ ∀c∈ds.take (1+cn1 rs).toNat,c=48)
   cases hd:ds.headD 0 !=48 with
   | true=>exact .inl rfl
   | false=>
    simp only[cond_false];rcases jin rs ds.tail (a+1) hok' (by omega) hz with h | ⟨h1,h2,h3⟩
    ·exact .inl h
    ·refine .inr ⟨h1,by simpa using h2,fun c hc=> ?_⟩;have e:(1+cn1 rs).toNat=(cn1 rs).toNat+1:=by omega
     rw[e]at hc;cases ds with
     | nil=>simp at hc
     | cons x xs=>
      rw[List.take_succ_cons]at hc;rcases Kg.1 hc with rfl | hc
      ·simpa using hd
      ·exact h3 c hc
  ·show(bif decide (fm>0) || !ze then a else enGo ze fm rs ds a)=a∨_;rw[hz];exact .inl rfl
  all_goals
   rcases jin rs ds (a+1) hok' (by omega) hz with h | ⟨h1,h2,h3⟩
   ·exact .inl h
   ·exact .inr ⟨h1,by simpa using h2,by simpa[cn1]using h3⟩
theorem jg8{fm:Int}(hf:decide (fm>0)=false):∀(rs:O)(ds:O)(a:Int),okR rs→0∉rs→(∀c∈ds,c=48)→cn1 rs≤ds.length→enGo true fm rs ds a= -1
 | [],_,_,_,_,_,_=>rfl
 | r::rs,ds,a,hok,hr,hd,hl=>by
  have hok':okR rs:=fun x hx=>hok x (Kj _ hx)
  have hr':0∉rs:=fun h=>hr (Kj _ h)
  rw[cn1]at hl;have h0:=jmd rs;rw[enGo];rcases jc8 (hok r Kh)with rfl | rfl | rfl | rfl | rfl | rfl
  ·exact absurd Kh hr
  ·have hl:1+cn1 rs≤ds.length:=hl;cases ds with
   | nil=>simp at hl;omega
   | cons x xs=>
    have:x=48:=hd x Kh;subst this;exact jg8 hf rs xs (a+1) hok' hr' (fun c hc=>hd c (Kj _ hc)) (by simp at hl;omega)
  ·show(bif decide (fm>0) || !true then a else enGo true fm rs ds a)= -1;rw[hf];exact jg8 hf rs ds a hok' hr' hd (by simpa using hl)
  all_goals
   exact jg8 hf rs ds (a+1) hok' hr' hd (by simpa using hl)
theorem jna:∀(rs:O),okR rs→(∀bh pt dg,(ldGo (rs.map rmk) false bh pt dg).1=true→enOn rs=hasZ (rs.map rmk) 99)
 | [],_,_,_,_,_=>rfl
 | r::rs,hok,bh,pt,dg,h=>by
  have hok':okR rs:=fun x hx=>hok x (Kj _ hx)
  rw[List.map_cons,ldGo]at h;rw[enOn,List.map_cons,jhs];rcases jc8 (hok r Kh)with rfl | rfl | rfl | rfl | rfl | rfl
  ·show false=(false || hasZ (rs.map rmk) 99)
   rw[Bool.false_or];cases hq:hasZ (rs.map rmk) 99 with
   | false=>rfl
   | true=>
    have h:(ldGo (rs.map rmk) true bh pt (dg+1)).1=true:=h;rw[jie _ _ _ _ (jbj.1 hq)]at h;cases h
  ·rfl
  all_goals
   exact(jna rs hok' _ _ _ h).trans (Bool.false_or _).symm
theorem cdg_pd:∀(rs:O),okR rs→cdg rs=pdGo (rs.map rmk)
 | [],_=>rfl
 | r::rs,hok=>by
  have hok':okR rs:=fun x hx=>hok x (Kj _ hx)
  rw[cdg,List.map_cons,pdGo,cdg_pd rs hok'];rcases jc8 (hok r Kh)with rfl | rfl | rfl | rfl | rfl | rfl<;>rfl
theorem jha:∀(rs:O),0∉rs→cn1 rs=cdg rs
 | [],_=>rfl
 | r::rs,h=>by
  have h1:r≠0:=fun e=>h (by rw[e];exact Kh)
  rw[cn1,cdg,jha rs fun q=>h (Kj _ q),jad h1,Bool.false_or];by_cases e:r=1
  ·subst e;rfl
  ·rw[jad e];have:(r==1)=false:=by simpa using e
   rw[this]
theorem has_100:∀(rs:O),okR rs→hasZ (rs.map rmk) 100=decide (0∈rs)
 | [],_=>rfl
 | r::rs,hok=>by
  have hok':okR rs:=fun x hx=>hok x (Kj _ hx)
  rw[List.map_cons,jhs,has_100 rs hok'];rcases jc8 (hok r Kh)with rfl | rfl | rfl | rfl | rfl | rfl<;>simp[rmk]
theorem jkn:∀(a:O)(fm bh pt:Bool)(dg:Int),(ldGo (a++ [115,115]) fm bh pt dg).1=(ldGo a fm bh pt dg).1
 | [],_,_,_,_=>rfl
 | m::r,fm,bh,pt,dg=>by
  rw[List.cons_append,ldGo,ldGo];cases m==118
  ·cases m==100
   ·cases m==99
    ·exact jkn r _ _ _ _
    ·cases fm
     ·exact jkn r _ _ _ _
     ·rfl
   ·exact jkn r _ _ _ _
  ·exact jkn r _ _ _ _
theorem cnt_has{l:O}{c:Int}:decide ((cntZ l c:Int)>0)=hasZ l c:=by
 rw[Kl,jae,jbj]
 induction l with
 | nil=>simp[cntZ]
 | cons x l ih=>
  rw[jdn];by_cases e:x=c
  ·subst e;simp;omega
  ·rw[Kc e,Int.zero_add,ih];simp[Ne.symm e]
theorem rep48p:∀{l:O}{k:Nat},l.length=k→(l=rep1 48 k↔ ∀c∈l,c=48)
 | l,k,h=>by
  rw[rep1,List.eq_replicate_iff];exact⟨fun q=>q.2,fun q=>⟨h,q⟩⟩
theorem jh8{l:O}(hl:IsB (pS l)∧(pS l).length≤32)(h:pN l=true):okR (rolF (pS l))∧(rolF (pS l)).map rmk=jaq (pS l)∧cdg (rolF (pS l))=pD l∧enOn (rolF (pS l))=hasZ (jaq (pS l)) 99∧
  decide ((cntZ (mkGo (drZ (jam (pS l))) false (jam (pS l))) 100:Int)>0)=hasZ (jaq (pS l)) 100∧hasZ (jaq (pS l)) 100=decide (0∈rolF (pS l))∧(hasZ (jaq (pS l)) 99=true→pW l>0):=by
 obtain⟨h1,h2,h3⟩:=jgk h;have hv:=jdg h;have hS:pS l=exZ l:=by rw[pS,Kd hv]
 have hnp:=jh9 h;obtain⟨_,_,p3,_⟩:=jk5 hl h 0;have hW:pW l=(pS l).length-cntZ (pS l) 86:=by rw[pW,Kd hv,hnp.nch,hS];rfl
 refine⟨h2,h3,by rw[cdg_pd _ h2,h3,p3],?_,?_,by rw[←h3,has_100 _ h2],fun h9=> ?_⟩
 ·have hld:=hnp.ld;rw[←hS]at hld;unfold jdw at hld
  have hL:(ldGo (mkGo (drZ (jam (pS l))) false (jam (pS l))) false false false 0).1=true:=by
   revert hld;cases hasZ (jam (pS l)) 90&&hasZ (jam (pS l)) 42
   ·cases(hasZ (jam (pS l)) 90 || hasZ (jam (pS l)) 42) &&drZ (jam (pS l)) !=0
    ·intro q;have q:((ldGo (mkGo (drZ (jam (pS l))) false (jam (pS l))) false false false 0).1&&_)=true:=q;exact(Bool.and_eq_true_iff.1 q).1
    ·intro q;cases q
   ·intro q;cases q
  have hL2:(ldGo (jaq (pS l)) false false false 0).1=true:=by
   unfold jaq;split
   ·rw[jkn];exact hL
   ·rw[KA];exact hL
  rw[←h3]at hL2 ⊢;exact jna _ h2 _ _ _ hL2
 ·rw[cnt_has,jaq]
  have:∀a:O,hasZ (a++(if crZ (pS l)=true then [115,115]else [])) 100=hasZ a 100:=fun a=>by
   split<;>simp[hasZ]
  rw[this]
 ·have hm:=jhp (pS l)
  have:0<nv (jaq (pS l)):=by
   have:=jbj.1 h9;unfold nv;exact List.length_pos_of_mem (List.mem_filter.2 ⟨this,by decide⟩)
  omega
theorem dig_zero{n:Int}{k:Nat}(hn:(n.natAbs:Int)<tenZ k):(∀c∈digZ n.natAbs k,c=48)↔n=0:=by
 have h1:=jfm k n.natAbs;have h2:=all48 h1;have h3:=jj3 k n.natAbs (by omega);rw[Int.emod_eq_of_lt (by omega) hn]at h3;rw[h3]at h2
 have:(∀c∈digZ n.natAbs k,c=48)↔(∀c∈digZ n.natAbs k,hasZ [48] c=true):=
  ⟨fun q c hc=>by rw[q c hc];rfl,fun q c hc=>by have:=jbj.1 (q c hc);simpa using this⟩
 rw[this,h2];omega
theorem en_law{l:O}(hl:IsB (pS l)∧(pS l).length≤32)(h:pN l=true){n:Int}(hn:(n.natAbs:Int)<tenZ (pD l).toNat):
  enV (digZ n.natAbs (pD l).toNat) (cntZ (mkGo (drZ (jam (pS l))) false (jam (pS l))) 100) (rolF (pS l))=(bif fdBl (pS l) (pW l) (pD l).toNat n then -1 else fdLe (pS l) (pW l) (pD l).toNat n)∧
  (fdBl (pS l) (pW l) (pD l).toNat n=true→fdLe (pS l) (pW l) (pD l).toNat n=pW l):=by
 obtain⟨f1,f2,f3,f4,f5,f6,f7⟩:=jh8 hl h;have hz:=dig_zero hn;have hlen:=jd0 (pD l).toNat n.natAbs;have hp:=jdv h
 have hze:(jcm (digZ n.natAbs (pD l).toNat) [48]).isEmpty=decide (n=0):=by
  rw[Kl,List.isEmpty_iff,jjf,jae,←hz];exact⟨fun q c hc=>by have:=jbj.1 (q c hc);simpa using this,fun q c hc=>by rw[q c hc];rfl⟩
 rw[enV,f4,hze,fdBl,fdLe,endZ]
 have hrep:decide (digZ n.natAbs (pD l).toNat=rep1 48 (pD l).toNat)=decide (n=0):=by
  rw[Kl,jae,jae,rep48p hlen,hz]
 rw[hrep];generalize hds:digZ n.natAbs (pD l).toNat=ds at*;cases h9:hasZ (jaq (pS l)) 99 with
 | false=>exact⟨rfl,fun q=>by cases q⟩
 | true=>
  have hW:=f7 h9;have e0:(n==0)=decide (n=0):=by rw[Kl];simp
  rw[e0];simp only[Bool.not_true,cond_false,cond_true];cases hq:(!hasZ (jaq (pS l)) 100&&decide (n=0))with
  | true=>
   obtain⟨q1,q2⟩:=Bool.and_eq_true_iff.1 hq;rw[q1,q2];have q0:hasZ (jaq (pS l)) 100=false:=by simpa using q1
   rw[q0]at f5 f6;have h0:0∉rolF (pS l):=jac f6.symm;have hcn:=jha _ h0;rw[jg8 f5 _ _ _ f1 h0 (hz.2 (jab q2)) (by omega)];simp[hW]
  | false=>
   have hst:(decide ((cntZ (mkGo (drZ (jam (pS l))) false (jam (pS l))) 100:Int)>0) || !decide (n=0))=true:=by
    rw[f5];cases q1:hasZ (jaq (pS l)) 100 with
    | true=>rfl
    | false=>
     rw[q1]at hq;have:decide (n=0)=false:=by simpa using hq
     rw[this];rfl
   have hB:(decide ((bif false then pW l else je6 (jaq (pS l)) ds 0)>0) && ((bif false then pW l else je6 (jaq (pS l)) ds 0)==pW l&& (decide (n=0) && !hasZ (jaq (pS l)) 100)))=false:=by
    rw[Bool.and_comm (decide (n=0)),hq,Bool.and_false,Bool.and_false]
   rw[hB];refine⟨?_,fun q=>by cases q⟩;rcases jin (rolF (pS l)) ds 0 f1 (by omega) hst with q | ⟨q1,q2,q3⟩
   ·rw[q,f2];rfl
   ·exfalso;have hcn:=jha _ q2;rw[f6,jad q2]at f5;rw[f5,Bool.false_or]at hst;have hn0:n≠0:=by simpa using hst
    refine hn0 (hz.1 fun c hc=>q3 c ?_);rw[hcn,f3,Kw (by omega)];exact hc
end Go.Px
end
