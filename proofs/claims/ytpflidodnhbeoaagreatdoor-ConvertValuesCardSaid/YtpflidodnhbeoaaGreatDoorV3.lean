/-
  Part 3: the run and laws.
-/
import Derived.Test.YtpflidodnhbeoaaGreatDoorV2
set_option linter.unusedVariables false
set_option linter.unusedSimpArgs false
noncomputable section
set_option maxHeartbeats 3200000
namespace Go.Px
open Go Go.Ab Go.Proofs Go.Shelf
def G33:Env:=Env.nil
def G34:Env:=(Env.nil.add 288 (sp2 s26)).addG 287 (inlQ Tryz.prog G33 noL Tryz.f287)
def G35:Env:=((((((Env.nil.add 30 (sp2 s78)).addG 251 h90).addG 252 (inlQ Tryz.prog G34 noL Tryz.f252)).addG 253 (inlQ Tryz.prog G34 noL Tryz.f253)).addG 254 (inlQ Tryz.prog G34 noL Tryz.f254)).addG 255 (inlQ Tryz.prog G34 noL Tryz.f255)).addG 256 (inlQ Tryz.prog G34 noL Tryz.f256)
theorem fn123:Fn1 Tryz.prog 287 Tryz.f287:= .m Tryz.func287
theorem fn91:Fn1 Tryz.prog 252 Tryz.f252:= .m Tryz.func252
theorem fn92:Fn1 Tryz.prog 253 Tryz.f253:= .m Tryz.func253
theorem fn93:Fn1 Tryz.prog 254 Tryz.f254:= .m Tryz.func254
theorem fn94:Fn1 Tryz.prog 255 Tryz.f255:= .m Tryz.func255
theorem fn95:Fn1 Tryz.prog 256 Tryz.f256:= .m Tryz.func256
theorem fn64:Fn1 Tryz.prog 207 Tryz.f207:= .m Tryz.func207
theorem ok_G33:jaw Tryz.prog G33:=jap
theorem ok_G34:jaw Tryz.prog G34:=jao (jai jap ok26) (jar ok_G33 hmix fn123 jak)
theorem ok_G35:jaw Tryz.prog G35:=jao (jao (jao (jao (jao (jao (jai jap ok78) h90_ok) (jar ok_G34 hmix fn91 jak)) (jar ok_G34 hmix fn92 jak)) (jar ok_G34 hmix fn93 jak)) (jar ok_G34 hmix fn94 jak)) (jar ok_G34 hmix fn95 jak)
def wrC(f:Int)(cr:Bool)(n:Int)(mi:Bool)(ld fl:Int)(r c d i a:Int):Int:=
 bif i==f then fl else bif cr&&decide (i≥n-2)then(bif !mi then 32 else c)
 else bif decide (r=0)then fmZ c d mi else bif decide (r=1)then(bif decide (a<ld)then fl else d)
 else bif decide (r=3)then(bif c==66 then 32 else bif decide (a<ld)then fl else c)
 else bif decide (r=4)then(bif c==83&&mi then 45 else bif c==83 then 43 else bif (c==43)==mi then 32 else c)else c
def wrT(f:Int)(cr:Bool)(n:Int)(r i:Int):Bool:= !(i==f) && (!(cr&&decide (i≥n-2)) && (decide (r=0) || decide (r=1)))
def wrGo(f:Int)(cr:Bool)(n:Int)(mi:Bool)(ld fl:Int):J→J→J→Int→Int→J
 | [],_,_,_,_=> []
 | r::rs,cs,ds,i,a=>bif r==2 then wrGo f cr n mi ld fl rs cs.tail ds (i+1) a
  else wrC f cr n mi ld fl r (cs.headD 0) (ds.headD 0) i a::wrGo f cr n mi ld fl rs cs.tail (bif wrT f cr n r i then ds.tail else ds) (i+1) (a+1)
def cdg:J→Int
 | []=>0
 | r::rs=>(bif decide (r=0) || decide (r=1)then 1 else 0)+cdg rs
def roOK(l:J):Bool:=l.all fun r=>decide (0≤r∧r<6)
def isHow:E→Bool
 | [.func (.func a) ⟨[]⟩ ⟨[]⟩,.func (.func b) ⟨[]⟩ ⟨[]⟩,.nilFunc,.func (.func c) ⟨[]⟩ ⟨[]⟩,.func (.func d) ⟨[]⟩ ⟨[]⟩,.func (.func e) ⟨[]⟩ ⟨[]⟩]=>Nat.beq a 252&& (Nat.beq b 253&& (Nat.beq c 254&& (Nat.beq d 255&&Nat.beq e 256)))
 | _=>false
def how:E:=[.func (.func 252) ⟨[]⟩ ⟨[]⟩,.func (.func 253) ⟨[]⟩ ⟨[]⟩,.nilFunc,.func (.func 254) ⟨[]⟩ ⟨[]⟩,.func (.func 255) ⟨[]⟩ ⟨[]⟩,.func (.func 256) ⟨[]⟩ ⟨[]⟩]
theorem isHow_eq{l:E}(h:isHow l=true):l=how:=by
 unfold isHow at h;split at h
 ·simp only[jaf,Nat.beq_eq]at h;obtain⟨rfl,rfl,rfl,rfl,rfl⟩:=h;rfl
 ·cases h
theorem cdg_nn:∀l,0≤cdg l
 | []=>by simp[cdg]
 | r::rs=>by have:=cdg_nn rs;rw[cdg];cases decide (r=0) || decide (r=1) <;>simp<;>omega
theorem cdg_c{r:Int}{rs:J}:cdg rs≤cdg (r::rs):=by rw[cdg];cases decide (r=0) || decide (r=1) <;>simp<;>omega
theorem cdg_1{r:Int}{rs:J}(h:r=0∨r=1):cdg (r::rs)=1+cdg rs:=by rw[cdg];rcases h with rfl | rfl<;>rfl
theorem roOK_at{l:J}(h:roOK l=true){j:Nat}{r:Int}{rs:J}(hj:l.drop j=r::rs):0≤r∧r<6:=by
 simp only[roOK,List.all_eq_true,jae]at h;exact h r (List.drop_subset j l (by rw[hj];exact List.mem_cons_self))
theorem jld{s:Y}(h:dgL (bz s)=true){j:Int}(h0:0≤j)(hj:j<s.size):48≤jaj s j.toNat∧jaj s j.toNat≤57:=by
 simp only[dgL,List.all_eq_true,jae]at h;exact h _ (List.drop_subset j.toNat (bz s) (by rw[jb4 h0 hj];exact List.mem_cons_self))
theorem fm_a{c d:Int}{m:Bool}(h:(c==89&&d==48)=true):fmZ c d m=32:=by
 have:c=89∧d=48:=by simpa using h
 rw[fmZ,if_pos this]
theorem fm_b{c d:Int}{m:Bool}(h:(c==89&&d==48)=false)(q:(c==84 || bif c==73 then !m || c==82&&m else c==82&&m)=true):fmZ c d m=puZ (d-48) m:=by
 have h1:¬(c=89∧d=48):=fun e=>by rw[e.1,e.2]at h;cases h
 rw[fmZ,if_neg h1,if_pos];cases m<;>by_cases a:c=84<;>by_cases b:c=73<;>by_cases e:c=82<;>simp_all
theorem fm_c{c d:Int}{m:Bool}(h:(c==89&&d==48)=false)(q:(c==84 || bif c==73 then !m || c==82&&m else c==82&&m)=false):fmZ c d m=d:=by
 have h1:¬(c=89∧d=48):=fun e=>by rw[e.1,e.2]at h;cases h
 rw[fmZ,if_neg h1,if_neg];cases m<;>by_cases a:c=84<;>by_cases b:c=73<;>by_cases e:c=82<;>simp_all
def V64_0:Bool×Y×Int×Rw×Nat×Nat×Int×Int×Y×Bool×Int×Int×Int×Bool×Nat×Nat×Int×Int×Bool×Int×Int×Y×Bool×Int×Int×Int×E→E:=fun(m2,r6,r7,o,k2,cap2,L,i,s,nb,w,dg,sc,sg,k,cap,dr,f,cr,fl,fm,nu,mi,us,at0,ld,d)=> [.pointer (some ⟨0,0,some 0⟩),.bool m2,.string r6,.int .i64 r7,.pointer (some ⟨8,0,some 0⟩),.pointer (some ⟨22,0,some 0⟩),o.v 200,.slice (some ⟨1,0,some 1⟩) k2 cap2,.int .i64 L,.int .i64 i]
def B64_0:Bool×Y×Int×Rw×Nat×Nat×Int×Int×Y×Bool×Int×Int×Int×Bool×Nat×Nat×Int×Int×Bool×Int×Int×Y×Bool×Int×Int×Int×E→O:=fun(m2,r6,r7,o,k2,cap2,L,i,s,nb,w,dg,sc,sg,k,cap,dr,f,cr,fl,fm,nu,mi,us,at0,ld,d)=> [some ⟨[.string s,.bool nb,.int .i64 w,.int .i64 dg,.int .i64 sc,.bool sg,.slice (some ⟨1,0,some 1⟩) k cap,.int .u8 dr,.int .i64 f,.bool cr,.int .u8 fl,.int .i64 fm],156,false⟩,some ⟨d,251,false⟩,some ⟨[.pointer (some ⟨0,0,some 0⟩),.string nu,.bool mi,.int .i64 us,.int .i64 at0,.int .i64 ld],255,true⟩,some ⟨how,257,true⟩,o.b]
def S64_0:LSpecA (Bool×Y×Int×Rw×Nat×Nat×Int×Int×Y×Bool×Int×Int×Int×Bool×Nat×Nat×Int×Int×Bool×Int×Int×Y×Bool×Int×Int×Int×E) where
 live:=[0,2,6,7,8,9,10,49,50,51]
 mid:=[0,1,8,22,200]
 n:=210
 ap:=[(.tmp 10,200)]
 dec vs bs:=match vs,bs with | [.pointer (some ⟨0,0,some 0⟩),.bool m2,.string r6,.int .i64 r7,.pointer (some ⟨8,0,some 0⟩),.pointer (some ⟨22,0,some 0⟩),.slice none 0 0,.slice (some ⟨1,0,some 1⟩) k2 cap2,.int .i64 L,.int .i64 i],[some ⟨[.string s,.bool nb,.int .i64 w,.int .i64 dg,.int .i64 sc,.bool sg,.slice (some ⟨1,0,some 1⟩) k cap,.int .u8 dr,.int .i64 f,.bool cr,.int .u8 fl,.int .i64 fm],156,false⟩,some ⟨d,251,false⟩,some ⟨[.pointer (some ⟨0,0,some 0⟩),.string nu,.bool mi,.int .i64 us,.int .i64 at0,.int .i64 ld],255,true⟩,some ⟨hw,257,true⟩,none]=>(match isHow hw with | true=>some (m2,r6,r7,.nil,k2,cap2,L,i,s,nb,w,dg,sc,sg,k,cap,dr,f,cr,fl,fm,nu,mi,us,at0,ld,d) | false=>none) | [.pointer (some ⟨0,0,some 0⟩),.bool m2,.string r6,.int .i64 r7,.pointer (some ⟨8,0,some 0⟩),.pointer (some ⟨22,0,some 0⟩),.slice (some ⟨200,0,some 1⟩) om oc,.slice (some ⟨1,0,some 1⟩) k2 cap2,.int .i64 L,.int .i64 i],[some ⟨[.string s,.bool nb,.int .i64 w,.int .i64 dg,.int .i64 sc,.bool sg,.slice (some ⟨1,0,some 1⟩) k cap,.int .u8 dr,.int .i64 f,.bool cr,.int .u8 fl,.int .i64 fm],156,false⟩,some ⟨d,251,false⟩,some ⟨[.pointer (some ⟨0,0,some 0⟩),.string nu,.bool mi,.int .i64 us,.int .i64 at0,.int .i64 ld],255,true⟩,some ⟨hw,257,true⟩,some ⟨od,5,true⟩]=>(match isHow hw with | true=>some (m2,r6,r7,.own od om oc,k2,cap2,L,i,s,nb,w,dg,sc,sg,k,cap,dr,f,cr,fl,fm,nu,mi,us,at0,ld,d) | false=>none) | _,_=>none
 pre:=fun(m2,r6,r7,o,k2,cap2,L,i,s,nb,w,dg,sc,sg,k,cap,dr,f,cr,fl,fm,nu,mi,us,at0,ld,d)=>o.ok&& (jbw d k2 cap2&& (roOK (zc d k2) && (dgL (bz nu) &&decide (m2=mi∧0≤i∧i≤k2∧k2≤1000∧L=k2∧k2≤s.size∧s.size≤1000∧0≤us∧us≤i∧0≤at0∧at0≤i∧us+cdg ((zc d k2).drop i.toNat)≤nu.size∧o.z.length≤i))))
 fin:=fun(m2,r6,r7,o,k2,cap2,L,i,s,nb,w,dg,sc,sg,k,cap,dr,f,cr,fl,fm,nu,mi,us,at0,ld,d) Z=>(o.is=false→wrGo f cr s.size mi ld fl ((zc d k2).drop i.toNat) ((bz s).drop i.toNat) ((bz nu).drop us.toNat) i at0=[]→ ∀us' at' i',Z (.exit 0) [.pointer (some ⟨0,0,some 0⟩),.bool m2,.string r6,.int .i64 r7,.pointer (some ⟨8,0,some 0⟩),.pointer (some ⟨22,0,some 0⟩),.slice none 0 0,.slice (some ⟨1,0,some 1⟩) k2 cap2,.int .i64 L,.int .i64 i'] [some ⟨[.string s,.bool nb,.int .i64 w,.int .i64 dg,.int .i64 sc,.bool sg,.slice (some ⟨1,0,some 1⟩) k cap,.int .u8 dr,.int .i64 f,.bool cr,.int .u8 fl,.int .i64 fm],156,false⟩,some ⟨d,251,false⟩,some ⟨[.pointer (some ⟨0,0,some 0⟩),.string nu,.bool mi,.int .i64 us',.int .i64 at',.int .i64 ld],255,true⟩,some ⟨how,257,true⟩,none])∧(∀us' at' i' od' om' oc',jcm od' om' oc'=true→zc od' om'=o.z++wrGo f cr s.size mi ld fl ((zc d k2).drop i.toNat) ((bz s).drop i.toNat) ((bz nu).drop us.toNat) i at0→Z (.exit 0) [.pointer (some ⟨0,0,some 0⟩),.bool m2,.string r6,.int .i64 r7,.pointer (some ⟨8,0,some 0⟩),.pointer (some ⟨22,0,some 0⟩),.slice (some ⟨200,0,some 1⟩) om' oc',.slice (some ⟨1,0,some 1⟩) k2 cap2,.int .i64 L,.int .i64 i'] [some ⟨[.string s,.bool nb,.int .i64 w,.int .i64 dg,.int .i64 sc,.bool sg,.slice (some ⟨1,0,some 1⟩) k cap,.int .u8 dr,.int .i64 f,.bool cr,.int .u8 fl,.int .i64 fm],156,false⟩,some ⟨d,251,false⟩,some ⟨[.pointer (some ⟨0,0,some 0⟩),.string nu,.bool mi,.int .i64 us',.int .i64 at',.int .i64 ld],255,true⟩,some ⟨how,257,true⟩,some ⟨od',5,true⟩])
def e64(m2:Bool)(r6:Y)(r7:Int)(k2:Nat)(cap2:Nat)(L:Int)(i:Int)(s:Y)(nb:Bool)(w:Int)(dg:Int)(sc:Int)(sg:Bool)(k:Nat)(cap:Nat)(dr:Int)(f:Int)(cr:Bool)(fl:Int)(fm:Int)(nu:Y)(mi:Bool)(us:Int)(at0:Int)(ld:Int)(d:E)(pre:E)(ln N:Nat)(X U:Int)(R:Exit→E→O→Prop):Prop:=∀(cap_1:Nat)(tail:E),jay tail cap_1 ln 1=true→bif jav [(N,200)] d&& (jav [(N,200)] (pre++ [.int .u8 X]++tail) &&true) &&true then R Exit.normal [.pointer (some (.mk 0 0 (some 0))),B m2,S r6,I r7,.pointer (some (.mk 8 0 (some 0))),.pointer (some (.mk 22 0 (some 0))),.slice (some (.mk 200 0 (some 1))) ln cap_1,.slice (some (.mk 1 0 (some 1))) k2 cap2,I L,I (IntKind.wrap .i64 (i+1))] [some (.mk [S s,B nb,I w,I dg,I sc,B sg,.slice (some (.mk 1 0 (some 1))) k cap,.int .u8 dr,I f,B cr,.int .u8 fl,I fm] 156 false),some (.mk (rlbL [(N,200)] d) 251 false),some (.mk [.pointer (some (.mk 0 0 (some 0))),S nu,B mi,I U,I (IntKind.wrap .i64 (at0+1)),I ld] 255 true),some (.mk [Value.func (Fn.func 252) ⟨[]⟩ ⟨[]⟩,Value.func (Fn.func 253) ⟨[]⟩ ⟨[]⟩,Value.nilFunc,Value.func (Fn.func 254) ⟨[]⟩ ⟨[]⟩,Value.func (Fn.func 255) ⟨[]⟩ ⟨[]⟩,Value.func (Fn.func 256) ⟨[]⟩ ⟨[]⟩] 257 true),some (.mk (rlbL [(N,200)] (pre++ [.int .u8 X]++tail)) 5 true)]else False
def ls(a c:Int)(b:E):Bool:=decide ((ki (fw a b):Int)=c)
def qj(f:Bool)(b c:Y)(a d:Int)(e g h:Prop):Prop:=bif b6 (cv (au a) 1) (am b)then bw (ar c d 89) true (ar c d 89&&jaj b (jo (au a-1))==48) e (i7 (ar c d 84) (br (ar c d 73) (!f || (ar c d 82 || true)) (ar c d 82 || true)) (ar c d 84 || br (ar c d 73) (!f || ar c d 82&&f) (ar c d 82&&f)) g h)else False
def kt(a:FuncId)(b:E):Value:= .func (.func a) ⟨[]⟩ ⟨b⟩
def o0(a:Bool)(b:Y)(c d e:Int)(f:Option Blk):O:=[some (.mk (aq 0::dt a b (az c d) (ak e)) 255 true),some (.mk [kt 252 [],kt 253 [],Value.nilFunc,kt 254 [],kt 255 [],kt 256 []] 257 true),f]
theorem r64_0n(m2:Bool)(r6:Y)(r7:Int)(k2:Nat)(cap2:Nat)(L:Int)(i:Int)(s:Y)(nb:Bool)(w:Int)(dg:Int)(sc:Int)(sg:Bool)(k:Nat)(cap:Nat)(dr:Int)(f:Int)(cr:Bool)(fl:Int)(fm:Int)(nu:Y)(mi:Bool)(us:Int)(at0:Int)(ld:Int)(d:E)(jk:Tmps)(R:Exit→E→O→Prop):(jbp Tryz.prog G35 noL Tryz.f207.ntmps (ja6 Tryz.f207 0) (tl S64_0.live (V64_0 (m2,r6,r7,.nil,k2,cap2,L,i,s,nb,w,dg,sc,sg,k,cap,dr,f,cr,fl,fm,nu,mi,us,at0,ld,d)) jk) (ml S64_0.mid (B64_0 (m2,r6,r7,.nil,k2,cap2,L,i,s,nb,w,dg,sc,sg,k,cap,dr,f,cr,fl,fm,nu,mi,us,at0,ld,d))) S64_0.n fun e t' m' _=>S64_0.out R e t' m')=(ja (ic d) R i L .i64 (iw [] d::o0 mi nu at0 ld us none) d (bk r6 (aq 8::aq 22::jt::bv 1 k2 cap2::az L i) (ak r7)) k2 0 (kg nb sg cr s w dg sc dr f fl fm 1 k cap) (fu (fw i d==2) s i (bm (ic d) R (kg nb sg cr s w dg sc dr f fl fm 1 k cap::iw [] d::o0 mi nu at0 ld us none) (aq 0::B m2::bk r6 (aq 8::aq 22::jt::fk L i 1 k2 cap2) (ak r7))) (bif i==f then e64 m2 r6 r7 k2 cap2 L i s nb w dg sc sg k cap dr f cr fl fm nu mi us at0 ld d [] 1 240 fl us R else bw cr true (cr&&decide (i≥gq s 2)) (bif !m2 then e64 m2 r6 r7 k2 cap2 L i s nb w dg sc sg k cap dr f cr fl fm nu mi us at0 ld d [] 1 256 32 us R else e64 m2 r6 r7 k2 cap2 L i s nb w dg sc sg k cap dr f cr fl fm nu mi us at0 ld d [] 1 255 (ax s i) us R) (bif b6 (fw i d) 6 then bif ls i 0 d then qj mi nu s us i (e64 m2 r6 r7 k2 cap2 L i s nb w dg sc sg k cap dr f cr fl fm nu mi us at0 ld d [] 1 303 32 (au us) R) (e64 m2 r6 r7 k2 cap2 L i s nb w dg sc sg k cap dr f cr fl fm nu mi us at0 ld d [] 1 328 (puZ (k9 (jaj nu (cm (au us) 1).toNat)) mi) (au us) R) (e64 m2 r6 r7 k2 cap2 L i s nb w dg sc sg k cap dr f cr fl fm nu mi us at0 ld d [] 1 328 (jaj nu (jo (au us-1))) (au us) R)else bif ls i 1 d then bif b6 (cv (au us) 1) (am nu)then bif ct at0 ld then e64 m2 r6 r7 k2 cap2 L i s nb w dg sc sg k cap dr f cr fl fm nu mi us at0 ld d [] 1 299 fl (au us) R else e64 m2 r6 r7 k2 cap2 L i s nb w dg sc sg k cap dr f cr fl fm nu mi us at0 ld d [] 1 293 (jaj nu (jo (au us-1))) (au us) R else False else bif ls i 2 d then False else bif decide ((ki (je i d):Int)=3)then bif ar s i 66 then e64 m2 r6 r7 k2 cap2 L i s nb w dg sc sg k cap dr f cr fl fm nu mi us at0 ld d [] 1 263 32 us R else bif ct at0 ld then e64 m2 r6 r7 k2 cap2 L i s nb w dg sc sg k cap dr f cr fl fm nu mi us at0 ld d [] 1 280 fl us R else e64 m2 r6 r7 k2 cap2 L i s nb w dg sc sg k cap dr f cr fl fm nu mi us at0 ld d [] 1 274 (ax s i) us R else bif decide ((ki (je i d):Int)=4)then i7 (ar s i 83) true (ar s i 83&&mi) (e64 m2 r6 r7 k2 cap2 L i s nb w dg sc sg k cap dr f cr fl fm nu mi us at0 ld d [] 1 269 45 us R) (bif ar s i 83 then e64 m2 r6 r7 k2 cap2 L i s nb w dg sc sg k cap dr f cr fl fm nu mi us at0 ld d [] 1 272 43 us R else bif ar s i 43==mi then e64 m2 r6 r7 k2 cap2 L i s nb w dg sc sg k cap dr f cr fl fm nu mi us at0 ld d [] 1 280 32 us R else e64 m2 r6 r7 k2 cap2 L i s nb w dg sc sg k cap dr f cr fl fm nu mi us at0 ld d [] 1 281 (ax s i) us R)else bif decide ((ki (je i d):Int)=5)then e64 m2 r6 r7 k2 cap2 L i s nb w dg sc sg k cap dr f cr fl fm nu mi us at0 ld d [] 1 261 (ax s i) us R else False else False))) (aq 0) (B m2)):=by kernel_rfl
theorem r64_0o(m2:Bool)(r6:Y)(r7:Int)(od:E)(om:Nat)(oc:Nat)(k2:Nat)(cap2:Nat)(L:Int)(i:Int)(s:Y)(nb:Bool)(w:Int)(dg:Int)(sc:Int)(sg:Bool)(k:Nat)(cap:Nat)(dr:Int)(f:Int)(cr:Bool)(fl:Int)(fm:Int)(nu:Y)(mi:Bool)(us:Int)(at0:Int)(ld:Int)(d:E)(jk:Tmps)(R:Exit→E→O→Prop):(jbp Tryz.prog G35 noL Tryz.f207.ntmps (ja6 Tryz.f207 0) (tl S64_0.live (V64_0 (m2,r6,r7,(.own od om oc),k2,cap2,L,i,s,nb,w,dg,sc,sg,k,cap,dr,f,cr,fl,fm,nu,mi,us,at0,ld,d)) jk) (ml S64_0.mid (B64_0 (m2,r6,r7,(.own od om oc),k2,cap2,L,i,s,nb,w,dg,sc,sg,k,cap,dr,f,cr,fl,fm,nu,mi,us,at0,ld,d))) S64_0.n fun e t' m' _=>S64_0.out R e t' m')=(ja (kf [] d od 200 200&&true) R i L .i64 (iw ij d::o0 mi nu at0 ld us (e8 ij od)) d (bk r6 (aq 8::aq 22::bv 200 om oc::bv 1 k2 cap2::az L i) (ak r7)) k2 0 (kg nb sg cr s w dg sc dr f fl fm 1 k cap) (fu (fw i d==2) s i (bm (kf [] d od 200 200&&true) R (kg nb sg cr s w dg sc dr f fl fm 1 k cap::iw ij d::o0 mi nu at0 ld us (e8 ij od)) (aq 0::B m2::bk r6 (aq 8::aq 22::bv 200 om oc::fk L i 1 k2 cap2) (ak r7))) (bif i==f then bif ie od oc om 1 then e64 m2 r6 r7 k2 cap2 L i s nb w dg sc sg k cap dr f cr fl fm nu mi us at0 ld d (e7 od om) (om+1) 240 fl us R else False else bw cr true (cr&&decide (i≥gq s 2)) (bif !m2 then bif ie od oc om 1 then e64 m2 r6 r7 k2 cap2 L i s nb w dg sc sg k cap dr f cr fl fm nu mi us at0 ld d (e7 od om) (om+1) 256 32 us R else False else bif ie od oc om 1 then e64 m2 r6 r7 k2 cap2 L i s nb w dg sc sg k cap dr f cr fl fm nu mi us at0 ld d (e7 od om) (om+1) 255 (ax s i) us R else False) (bif b6 (fw i d) 6 then bif ls i 0 d then qj mi nu s us i (bif ie od oc om 1 then e64 m2 r6 r7 k2 cap2 L i s nb w dg sc sg k cap dr f cr fl fm nu mi us at0 ld d (e7 od om) (om+1) 303 32 (au us) R else False) (bif ie od oc om 1 then e64 m2 r6 r7 k2 cap2 L i s nb w dg sc sg k cap dr f cr fl fm nu mi us at0 ld d (e7 od om) (om+1) 328 (puZ (k9 (jaj nu (cm (au us) 1).toNat)) mi) (au us) R else False) (bif ie od oc om 1 then e64 m2 r6 r7 k2 cap2 L i s nb w dg sc sg k cap dr f cr fl fm nu mi us at0 ld d (e7 od om) (om+1) 328 (jaj nu (jo (au us-1))) (au us) R else False)else bif ls i 1 d then bif b6 (cv (au us) 1) (am nu)then bif ct at0 ld then bif ie od oc om 1 then e64 m2 r6 r7 k2 cap2 L i s nb w dg sc sg k cap dr f cr fl fm nu mi us at0 ld d (e7 od om) (om+1) 299 fl (au us) R else False else bif ie od oc om 1 then e64 m2 r6 r7 k2 cap2 L i s nb w dg sc sg k cap dr f cr fl fm nu mi us at0 ld d (e7 od om) (om+1) 293 (jaj nu (jo (au us-1))) (au us) R else False else False else bif ls i 2 d then False else bif ls i 3 d then bif ar s i 66 then bif ie od oc om 1 then e64 m2 r6 r7 k2 cap2 L i s nb w dg sc sg k cap dr f cr fl fm nu mi us at0 ld d (e7 od om) (om+1) 263 32 us R else False else bif ct at0 ld then bif ie od oc om 1 then e64 m2 r6 r7 k2 cap2 L i s nb w dg sc sg k cap dr f cr fl fm nu mi us at0 ld d (e7 od om) (om+1) 280 fl us R else False else bif ie od oc om 1 then e64 m2 r6 r7 k2 cap2 L i s nb w dg sc sg k cap dr f cr fl fm nu mi us at0 ld d (e7 od om) (om+1) 274 (ax s i) us R else False else bif ls i 4 d then i7 (ar s i 83) true (ar s i 83&&mi) (bif ie od oc om 1 then e64 m2 r6 r7 k2 cap2 L i s nb w dg sc sg k cap dr f cr fl fm nu mi us at0 ld d (e7 od om) (om+1) 269 45 us R else False) (bif ar s i 83 then bif ie od oc om 1 then e64 m2 r6 r7 k2 cap2 L i s nb w dg sc sg k cap dr f cr fl fm nu mi us at0 ld d (e7 od om) (om+1) 272 43 us R else False else bif ar s i 43==mi then bif ie od oc om 1 then e64 m2 r6 r7 k2 cap2 L i s nb w dg sc sg k cap dr f cr fl fm nu mi us at0 ld d (e7 od om) (om+1) 280 32 us R else False else bif ie od oc om 1 then e64 m2 r6 r7 k2 cap2 L i s nb w dg sc sg k cap dr f cr fl fm nu mi us at0 ld d (e7 od om) (om+1) 281 (ax s i) us R else False)else bif ls i 5 d then bif ie od oc om 1 then e64 m2 r6 r7 k2 cap2 L i s nb w dg sc sg k cap dr f cr fl fm nu mi us at0 ld d (e7 od om) (om+1) 261 (ax s i) us R else False else False else False))) (aq 0) (B m2)):=by kernel_rfl
theorem l64_0:LOKf Tryz.prog (oneL 0 S64_0.hA) Tryz.f207:=by
 refine jbe (h:=S64_0.hA) (by kernel_rfl) (jbv ok_G35 hmix (by kernel_rfl) (ja1 _) S64_0 V64_0 B64_0 (fun(m2,r6,r7,o,k2,cap2,L,i,s,nb,w,dg,sc,sg,k,cap,dr,f,cr,fl,fm,nu,mi,us,at0,ld,d)=>(k2-i).toNat) ?_ ?_ ?_)
 ·intro vs bs s h;simp only[S64_0]at h;split at h
  all_goals first | (cases h;exact⟨rfl,rfl⟩) | cases h | (split at h<;>first | (rename_i hq;cases h;have hq:=isHow_eq hq;subst hq;exact⟨rfl,rfl⟩) | cases h)
 ·exact fun⟨m2,r6,r7,o,k2,cap2,L,i,s,nb,w,dg,sc,sg,k,cap,dr,f,cr,fl,fm,nu,mi,us,at0,ld,d⟩ hp=>by
   simp only[S64_0,jaf]at hp;have hr:=jax.1 hp.2.1;cases o with
   | nil=>simp[how,V64_0,B64_0,S64_0,ja3,jb2,idsL,ids,Rw.v,Rw.b,jaq hr.plain]
   | own od om oc=>simp[how,V64_0,B64_0,S64_0,ja3,jb2,idsL,ids,Rw.v,Rw.b,jaq hr.plain,jaq (jat.1 hp.1).plain]
 ·intro⟨m2,r6,r7,o,k2,cap2,L,i,s,nb,w,dg,sc,sg,k,cap,dr,f,cr,fl,fm,nu,mi,us,at0,ld,d⟩ jk Z hp hf;simp only[S64_0]at hp hf;cases o with
  | nil=>
   rw[r64_0n];delta fv av b6 gz gy ct ja aq am bq fu bw ax ki je i7 ar fw ls au aw jo cv br qj k9 cm gq bm bk ak bu bp cq bv fk jt kt dt az o0 iw al kg ic;simp only[jaf,jae]at hp;obtain⟨-,hR,hO,hD,rfl,hp⟩:=hp;have hr:=jax.1 hR;simp only[Rw.z,List.length_nil]at hp hf;have e0:0+i.toNat*1=i.toNat:=by omega
   rw[e0];apply cond_intro<;>intro h
   ·have h:=jab h;obtain⟨a1,a3⟩:=hr.at hp.1 (by omega);have hro:=roOK_at hO a3;rw[a3,wrGo,jb4 hp.1 (by omega),List.headD_cons,List.tail_cons]at hf;rw[a3]at hp;have hc1:= @cdg_c (jau d i.toNat) ((zc d k2).drop (i+1).toNat);have hc2:=cdg_nn ((zc d k2).drop (i+1).toNat);rw[a1,w64 (n:=i+1) (by omega),w64 (n:=(s.size:Int)-2) (by omega)];have eu:IntKind.wrap .i64 (IntKind.wrap .i64 (us+1)-1)=us:=by rw[w64 (n:=us+1) (by omega),w64 (by omega)];omega
    rw[eu];generalize jau d i.toNat=r at*;generalize jaj s i.toNat=c at*;have er:((0+r.toNat*1:Nat):Int)=r:=by omega
    rw[er];refine c_t (jaa (by omega)) (c_t rfl (c_t (jaa (by omega)) (cond_intro (fun q=> ?_) (fun q=> ?_))))
    ·rw[q,cond_true]at hf;refine c_t (by rw[hr.good];rfl) ?_;rw[hr.rlb];exact⟨(m2,r6,r7,.nil,k2,cap2,L,i+1,s,nb,w,dg,sc,sg,k,cap,dr,f,cr,fl,fm,nu,m2,us,at0,ld,d),rfl,rfl,by simp only[S64_0,jaf,jae];exact⟨rfl,hR,hO,hD,trivial,by simp only[Rw.z,List.length_nil];omega⟩,by simp only;omega,hf⟩
    ·rw[q,cond_false]at hf
     have leaf:∀(b:Bool)(N:Nat)(X:Int){U:Int},wrC f cr s.size m2 ld fl r c (List.headD (List.drop us.toNat (bz nu)) 0) i at0=X→wrT f cr s.size r i=b→(bif b then(List.drop us.toNat (bz nu)).tail else List.drop us.toNat (bz nu))=List.drop U.toNat (bz nu)→(U+cdg ((zc d k2).drop (i+1).toNat)≤nu.size∧0≤U∧U≤i+1)→e64 m2 r6 r7 k2 cap2 L i s nb w dg sc sg k cap dr f cr fl fm nu m2 us at0 ld d [] 1 N X U (S64_0.step V64_0 B64_0 (fun(m2,r6,r7,o,k2,cap2,L,i,s,nb,w,dg,sc,sg,k,cap,dr,f,cr,fl,fm,nu,mi,us,at0,ld,d)=>(k2-i).toNat) (m2,r6,r7,.nil,k2,cap2,L,i,s,nb,w,dg,sc,sg,k,cap,dr,f,cr,fl,fm,nu,m2,us,at0,ld,d) Z):=by
      intro b N X U e eT eD hU;rw[e,eT,eD]at hf;intro cap1 tail ht;obtain⟨h1,h2⟩:RowP ([]++ [Value.int IntKind.u8 X]++tail) 1 cap1∧zc ([]++ [Value.int IntKind.u8 X]++tail) 1=[X]:=jgo [X] ht;have hl1:=jba h1;rw[w64 (n:=i+1) (by omega),w64 (n:=at0+1) (by omega)];generalize []++ [Value.int IntKind.u8 X]++tail=od' at*;refine c_t (by rw[hr.good,h1.good];rfl) ?_;rw[hr.rlb,h1.rlb];exact⟨(m2,r6,r7,.own od' (1) cap1,k2,cap2,L,i+1,s,nb,w,dg,sc,sg,k,cap,dr,f,cr,fl,fm,nu,m2,U,at0+1,ld,d),rfl,rfl,by simp only[S64_0,jaf,jae];exact⟨jat.2 h1,hR,hO,hD,trivial,by simp only[Rw.z,hl1];omega⟩,by simp only;omega,⟨fun q=>(by cases q),fun us' at' i' od'' om'' oc'' g1 g2=>hf.2 us' at' i' od'' om'' oc'' g1 (by rw[g2];simp only[Rw.z,h2,List.append_assoc,List.cons_append,List.nil_append])⟩⟩
     refine cond_intro (fun q0=> ?_) (fun q0=>c_t (by simp) (cond_intro (fun q1=>cond_intro (fun q2=> ?_) (fun q2=> ?_)) (fun q1=>c_t (jaa hro) ?_)))
     ·exact leaf false _ _ (by simp only[wrC,q0,cond_true,cond_false]) (by simp[wrT,q0]) rfl (by omega)
     ·exact leaf false _ _ (by simp only[wrC,q0,q1,q2,cond_true,cond_false]) (by simp[wrT,q0,q1,q2]) rfl (by omega)
     ·exact leaf false _ _ (by simp only[wrC,q0,q1,q2,cond_true,cond_false]) (by simp[wrT,q0,q1,q2]) rfl (by omega)
     ·refine cond_intro (fun n=> ?_) (fun m=>cond_intro (fun n=> ?_) (fun m1=>cond_intro (fun n=> ?_) (fun m2'=>cond_intro (fun n=> ?_) (fun m3=>cond_intro (fun n=> ?_) (fun m4=> ?_)))))
      ·have n0:=jab n;have hc3:= @cdg_1 r ((zc d k2).drop (i+1).toNat) (by omega);have hd:=jld hD hp.2.2.2.2.2.2.1 (by omega);have ed:=jb4 hp.2.2.2.2.2.2.1 (s:=nu) (by omega);have ed':List.headD (List.drop us.toNat (bz nu)) 0=jaj nu us.toNat:=by rw[ed];rfl
       rw[w8 (n:=jaj nu us.toNat-48) (by omega),w64 (n:=jaj nu us.toNat-48) (by omega)];generalize jaj nu us.toNat=dd at*;refine c_t (jaa (by omega)) (c_t (by simp) (cond_intro (fun q2=> ?_) (fun q2=>c_t (by cases c==84<;>cases c==73<;>simp) (cond_intro (fun q3=> ?_) (fun q3=> ?_)))))
       ·rw[w64 (n:=us+1) (by omega)];exact leaf true _ _ (by simp only[wrC,q0,q1,n,ed',cond_true,cond_false];exact fm_a q2) (by simp[wrT,q0,q1,n,ed']) (by rw[cond_true,ed,List.tail_cons]) (by omega)
       ·rw[w64 (n:=us+1) (by omega)];exact leaf true _ _ (by simp only[wrC,q0,q1,n,ed',cond_true,cond_false];exact fm_b q2 q3) (by simp[wrT,q0,q1,n,ed']) (by rw[cond_true,ed,List.tail_cons]) (by omega)
       ·rw[w64 (n:=us+1) (by omega)];exact leaf true _ _ (by simp only[wrC,q0,q1,n,ed',cond_true,cond_false];exact fm_c q2 q3) (by simp[wrT,q0,q1,n,ed']) (by rw[cond_true,ed,List.tail_cons]) (by omega)
      ·have n0:=jab n;have hc3:= @cdg_1 r ((zc d k2).drop (i+1).toNat) (by omega);have hd:=jld hD hp.2.2.2.2.2.2.1 (by omega);have ed:=jb4 hp.2.2.2.2.2.2.1 (s:=nu) (by omega);have ed':List.headD (List.drop us.toNat (bz nu)) 0=jaj nu us.toNat:=by rw[ed];rfl
       generalize jaj nu us.toNat=dd at*;refine c_t (jaa (by omega)) (cond_intro (fun q2=> ?_) (fun q2=> ?_))
       ·rw[w64 (n:=us+1) (by omega)];exact leaf true _ _ (by simp only[wrC,q0,q1,m,n,q2,ed',cond_true,cond_false]) (by simp[wrT,q0,q1,m,n,q2,ed']) (by rw[cond_true,ed,List.tail_cons]) (by omega)
       ·rw[w64 (n:=us+1) (by omega)];exact leaf true _ _ (by simp only[wrC,q0,q1,m,n,q2,ed',cond_true,cond_false]) (by simp[wrT,q0,q1,m,n,q2,ed']) (by rw[cond_true,ed,List.tail_cons]) (by omega)
      ·have n:=jab n;rw[n]at q;cases q
      ·refine cond_intro (fun q2=> ?_) (fun q2=>cond_intro (fun q3=> ?_) (fun q3=> ?_))
       ·exact leaf false _ _ (by simp only[wrC,q0,q1,m,m1,n,q2,cond_true,cond_false]) (by simp[wrT,q0,q1,m,m1,n,q2]) rfl (by omega)
       ·exact leaf false _ _ (by simp only[wrC,q0,q1,m,m1,n,q2,q3,cond_true,cond_false]) (by simp[wrT,q0,q1,m,m1,n,q2,q3]) rfl (by omega)
       ·exact leaf false _ _ (by simp only[wrC,q0,q1,m,m1,n,q2,q3,cond_true,cond_false]) (by simp[wrT,q0,q1,m,m1,n,q2,q3]) rfl (by omega)
      ·refine c_t (by simp) (cond_intro (fun q2=> ?_) (fun q2=>cond_intro (fun q3=> ?_) (fun q3=>cond_intro (fun q4=> ?_) (fun q4=> ?_))))
       ·exact leaf false _ _ (by simp only[wrC,q0,q1,m,m1,m3,n,q2,cond_true,cond_false]) (by simp[wrT,q0,q1,m,m1,m3,n,q2]) rfl (by omega)
       ·exact leaf false _ _ (by simp only[wrC,q0,q1,m,m1,m3,n,q2,cond_true,cond_false];rw[q3];rfl) (by simp[wrT,q0,q1,m,m1,m3,n,q2]) rfl (by omega)
       ·exact leaf false _ _ (by simp only[wrC,q0,q1,m,m1,m3,n,q2,cond_true,cond_false];rw[q3,q4];rfl) (by simp[wrT,q0,q1,m,m1,m3,n,q2]) rfl (by omega)
       ·exact leaf false _ _ (by simp only[wrC,q0,q1,m,m1,m3,n,q2,cond_true,cond_false];rw[q3,q4];rfl) (by simp[wrT,q0,q1,m,m1,m3,n,q2]) rfl (by omega)
      ·have k0:=jac m;have k1:=jac m1;have k3:=jac m3;have k4:=jac m4;have k2':r≠2:=fun e=>by rw[e]at q;cases q
       refine c_t (jaa (by omega)) ?_;exact leaf false _ _ (by simp only[wrC,q0,q1,m,m1,m3,m4,cond_true,cond_false]) (by simp[wrT,q0,q1,m,m1,m3,m4]) rfl (by omega)
   ·have h:=jac h;rw[hr.end (by omega),wrGo]at hf;refine c_t (by rw[hr.good];rfl) ?_;rw[hr.rlb];exact hf.1 rfl rfl us at0 i
  | own od om oc=>
   rw[r64_0o];delta fv av b6 gz gy ct ja aq am bq fu bw ax e7 jh ie ki fw ls i7 ar au aw jo cv br qj k9 cm gq bm bk ak bu bp cq bv fk kt dt az o0 e8 ij iw al kg kf;simp only[jaf,jae]at hp;obtain⟨ho,hR,hO,hD,rfl,hp⟩:=hp;have hr:=jax.1 hR;have ho:=jat.1 ho;have hzl:=jba ho;simp only[Rw.z,hzl]at hp hf;have e0:0+i.toNat*1=i.toNat:=by omega
   rw[e0];apply cond_intro<;>intro h
   ·have h:=jab h;obtain⟨a1,a3⟩:=hr.at hp.1 (by omega);have hro:=roOK_at hO a3;rw[a3,wrGo,jb4 hp.1 (by omega),List.headD_cons,List.tail_cons]at hf;rw[a3]at hp;have hc1:= @cdg_c (jau d i.toNat) ((zc d k2).drop (i+1).toNat);have hc2:=cdg_nn ((zc d k2).drop (i+1).toNat);rw[a1,w64 (n:=i+1) (by omega),w64 (n:=(s.size:Int)-2) (by omega)];have eu:IntKind.wrap .i64 (IntKind.wrap .i64 (us+1)-1)=us:=by rw[w64 (n:=us+1) (by omega),w64 (by omega)];omega
    rw[eu];generalize jau d i.toNat=r at*;generalize jaj s i.toNat=c at*;have er:((0+r.toNat*1:Nat):Int)=r:=by omega
    rw[er];refine c_t (jaa (by omega)) (c_t rfl (c_t (jaa (by omega)) (cond_intro (fun q=> ?_) (fun q=> ?_))))
    ·rw[q,cond_true]at hf;refine c_t (by rw[hr.good,ho.good];rfl) ?_;rw[hr.rlb,ho.rlb];exact⟨(m2,r6,r7,.own od om oc,k2,cap2,L,i+1,s,nb,w,dg,sc,sg,k,cap,dr,f,cr,fl,fm,nu,m2,us,at0,ld,d),rfl,rfl,by simp only[S64_0,jaf,jae];exact⟨jat.2 ho,hR,hO,hD,trivial,by simp only[Rw.z,hzl];omega⟩,by simp only;omega,hf⟩
    ·rw[q,cond_false]at hf
     have leaf:∀(b:Bool)(N:Nat)(X:Int){U:Int},wrC f cr s.size m2 ld fl r c (List.headD (List.drop us.toNat (bz nu)) 0) i at0=X→wrT f cr s.size r i=b→(bif b then(List.drop us.toNat (bz nu)).tail else List.drop us.toNat (bz nu))=List.drop U.toNat (bz nu)→(U+cdg ((zc d k2).drop (i+1).toNat)≤nu.size∧0≤U∧U≤i+1)→e64 m2 r6 r7 k2 cap2 L i s nb w dg sc sg k cap dr f cr fl fm nu m2 us at0 ld d (List.take (om*1) od) (om+1) N X U (S64_0.step V64_0 B64_0 (fun(m2,r6,r7,o,k2,cap2,L,i,s,nb,w,dg,sc,sg,k,cap,dr,f,cr,fl,fm,nu,mi,us,at0,ld,d)=>(k2-i).toNat) (m2,r6,r7,.own od om oc,k2,cap2,L,i,s,nb,w,dg,sc,sg,k,cap,dr,f,cr,fl,fm,nu,m2,us,at0,ld,d) Z):=by
      intro b N X U e eT eD hU;rw[e,eT,eD]at hf;intro cap1 tail ht;obtain⟨h1,h2⟩:=ho.app1 X ht;have hl1:=jba h1;rw[w64 (n:=i+1) (by omega),w64 (n:=at0+1) (by omega)];generalize List.take (om*1) od++ [Value.int IntKind.u8 X]++tail=od' at*;refine c_t (by rw[hr.good,h1.good];rfl) ?_;rw[hr.rlb,h1.rlb];exact⟨(m2,r6,r7,.own od' (om+1) cap1,k2,cap2,L,i+1,s,nb,w,dg,sc,sg,k,cap,dr,f,cr,fl,fm,nu,m2,U,at0+1,ld,d),rfl,rfl,by simp only[S64_0,jaf,jae];exact⟨jat.2 h1,hR,hO,hD,trivial,by simp only[Rw.z,hl1];omega⟩,by simp only;omega,⟨fun q=>(by cases q),fun us' at' i' od'' om'' oc'' g1 g2=>hf.2 us' at' i' od'' om'' oc'' g1 (by rw[g2];simp only[Rw.z,h2,List.append_assoc,List.cons_append,List.nil_append])⟩⟩
     refine cond_intro (fun q0=> ?_) (fun q0=>c_t (by simp) (cond_intro (fun q1=>cond_intro (fun q2=> ?_) (fun q2=> ?_)) (fun q1=>c_t (jaa hro) ?_)))
     ·refine c_t (ho.ask (k:=1) (by omega)) ?_;exact leaf false _ _ (by simp only[wrC,q0,cond_true,cond_false]) (by simp[wrT,q0]) rfl (by omega)
     ·refine c_t (ho.ask (k:=1) (by omega)) ?_;exact leaf false _ _ (by simp only[wrC,q0,q1,q2,cond_true,cond_false]) (by simp[wrT,q0,q1,q2]) rfl (by omega)
     ·refine c_t (ho.ask (k:=1) (by omega)) ?_;exact leaf false _ _ (by simp only[wrC,q0,q1,q2,cond_true,cond_false]) (by simp[wrT,q0,q1,q2]) rfl (by omega)
     ·refine cond_intro (fun n=> ?_) (fun m=>cond_intro (fun n=> ?_) (fun m1=>cond_intro (fun n=> ?_) (fun m2'=>cond_intro (fun n=> ?_) (fun m3=>cond_intro (fun n=> ?_) (fun m4=> ?_)))))
      ·have n0:=jab n;have hc3:= @cdg_1 r ((zc d k2).drop (i+1).toNat) (by omega);have hd:=jld hD hp.2.2.2.2.2.2.1 (by omega);have ed:=jb4 hp.2.2.2.2.2.2.1 (s:=nu) (by omega);have ed':List.headD (List.drop us.toNat (bz nu)) 0=jaj nu us.toNat:=by rw[ed];rfl
       rw[w8 (n:=jaj nu us.toNat-48) (by omega),w64 (n:=jaj nu us.toNat-48) (by omega)];generalize jaj nu us.toNat=dd at*;refine c_t (jaa (by omega)) (c_t (by simp) (cond_intro (fun q2=> ?_) (fun q2=>c_t (by cases c==84<;>cases c==73<;>simp) (cond_intro (fun q3=> ?_) (fun q3=> ?_)))))
       ·refine c_t (ho.ask (k:=1) (by omega)) ?_;rw[w64 (n:=us+1) (by omega)];exact leaf true _ _ (by simp only[wrC,q0,q1,n,ed',cond_true,cond_false];exact fm_a q2) (by simp[wrT,q0,q1,n,ed']) (by rw[cond_true,ed,List.tail_cons]) (by omega)
       ·refine c_t (ho.ask (k:=1) (by omega)) ?_;rw[w64 (n:=us+1) (by omega)];exact leaf true _ _ (by simp only[wrC,q0,q1,n,ed',cond_true,cond_false];exact fm_b q2 q3) (by simp[wrT,q0,q1,n,ed']) (by rw[cond_true,ed,List.tail_cons]) (by omega)
       ·refine c_t (ho.ask (k:=1) (by omega)) ?_;rw[w64 (n:=us+1) (by omega)];exact leaf true _ _ (by simp only[wrC,q0,q1,n,ed',cond_true,cond_false];exact fm_c q2 q3) (by simp[wrT,q0,q1,n,ed']) (by rw[cond_true,ed,List.tail_cons]) (by omega)
      ·have n0:=jab n;have hc3:= @cdg_1 r ((zc d k2).drop (i+1).toNat) (by omega);have hd:=jld hD hp.2.2.2.2.2.2.1 (by omega);have ed:=jb4 hp.2.2.2.2.2.2.1 (s:=nu) (by omega);have ed':List.headD (List.drop us.toNat (bz nu)) 0=jaj nu us.toNat:=by rw[ed];rfl
       generalize jaj nu us.toNat=dd at*;refine c_t (jaa (by omega)) (cond_intro (fun q2=> ?_) (fun q2=> ?_))
       ·refine c_t (ho.ask (k:=1) (by omega)) ?_;rw[w64 (n:=us+1) (by omega)];exact leaf true _ _ (by simp only[wrC,q0,q1,m,n,q2,ed',cond_true,cond_false]) (by simp[wrT,q0,q1,m,n,q2,ed']) (by rw[cond_true,ed,List.tail_cons]) (by omega)
       ·refine c_t (ho.ask (k:=1) (by omega)) ?_;rw[w64 (n:=us+1) (by omega)];exact leaf true _ _ (by simp only[wrC,q0,q1,m,n,q2,ed',cond_true,cond_false]) (by simp[wrT,q0,q1,m,n,q2,ed']) (by rw[cond_true,ed,List.tail_cons]) (by omega)
      ·have n:=jab n;rw[n]at q;cases q
      ·refine cond_intro (fun q2=> ?_) (fun q2=>cond_intro (fun q3=> ?_) (fun q3=> ?_))
       ·refine c_t (ho.ask (k:=1) (by omega)) ?_;exact leaf false _ _ (by simp only[wrC,q0,q1,m,m1,n,q2,cond_true,cond_false]) (by simp[wrT,q0,q1,m,m1,n,q2]) rfl (by omega)
       ·refine c_t (ho.ask (k:=1) (by omega)) ?_;exact leaf false _ _ (by simp only[wrC,q0,q1,m,m1,n,q2,q3,cond_true,cond_false]) (by simp[wrT,q0,q1,m,m1,n,q2,q3]) rfl (by omega)
       ·refine c_t (ho.ask (k:=1) (by omega)) ?_;exact leaf false _ _ (by simp only[wrC,q0,q1,m,m1,n,q2,q3,cond_true,cond_false]) (by simp[wrT,q0,q1,m,m1,n,q2,q3]) rfl (by omega)
      ·refine c_t (by simp) (cond_intro (fun q2=> ?_) (fun q2=>cond_intro (fun q3=> ?_) (fun q3=>cond_intro (fun q4=> ?_) (fun q4=> ?_))))
       ·refine c_t (ho.ask (k:=1) (by omega)) ?_;exact leaf false _ _ (by simp only[wrC,q0,q1,m,m1,m3,n,q2,cond_true,cond_false]) (by simp[wrT,q0,q1,m,m1,m3,n,q2]) rfl (by omega)
       ·refine c_t (ho.ask (k:=1) (by omega)) ?_;exact leaf false _ _ (by simp only[wrC,q0,q1,m,m1,m3,n,q2,cond_true,cond_false];rw[q3];rfl) (by simp[wrT,q0,q1,m,m1,m3,n,q2]) rfl (by omega)
       ·refine c_t (ho.ask (k:=1) (by omega)) ?_;exact leaf false _ _ (by simp only[wrC,q0,q1,m,m1,m3,n,q2,cond_true,cond_false];rw[q3,q4];rfl) (by simp[wrT,q0,q1,m,m1,m3,n,q2]) rfl (by omega)
       ·refine c_t (ho.ask (k:=1) (by omega)) ?_;exact leaf false _ _ (by simp only[wrC,q0,q1,m,m1,m3,n,q2,cond_true,cond_false];rw[q3,q4];rfl) (by simp[wrT,q0,q1,m,m1,m3,n,q2]) rfl (by omega)
      ·have k0:=jac m;have k1:=jac m1;have k3:=jac m3;have k4:=jac m4;have k2':r≠2:=fun e=>by rw[e]at q;cases q
       refine c_t (jaa (by omega)) ?_;refine c_t (ho.ask (k:=1) (by omega)) ?_;exact leaf false _ _ (by simp only[wrC,q0,q1,m,m1,m3,m4,cond_true,cond_false]) (by simp[wrT,q0,q1,m,m1,m3,m4]) rfl (by omega)
   ·have h:=jac h;rw[hr.end (by omega),wrGo]at hf;refine c_t (by rw[hr.good,ho.good];rfl) ?_;rw[hr.rlb,ho.rlb];exact hf.2 us at0 i od om oc (jat.2 ho) (by simp)
def vwN(p:E):Lk:=fun j=>match Nat.beq j 0 with | true=>some ⟨p,255,false⟩ | false=>none
theorem sub_N{m:Lk}{a x:Nat}{nu:Y}{mi:Bool}{us at0 ld:Int}{own:Bool}(hp:m a=some ⟨pnL x nu mi us at0 ld,255,own⟩):SubM m (rho2 a x) (vwN (pnL 1 nu mi us at0 ld)) 2:=by
 have hget:∀j b,vwN (pnL 1 nu mi us at0 ld) j=some b→j=0∧b=⟨pnL 1 nu mi us at0 ld,255,false⟩:=fun j b h=>by
  simp only[vwN]at h;split at h
  ·rename_i h0;cases h;exact⟨jah h0,rfl⟩
  ·cases h
 refine⟨fun j b h=> ?_,fun j b h=> ?_⟩
 ·obtain⟨rfl,rfl⟩:=hget j b h;refine⟨by omega,fun i hi=> ?_⟩;have:i=1:=by simpa[pnL,idsL,ids]using hi
  omega
 ·obtain⟨rfl,rfl⟩:=hget j b h;refine⟨rfl,⟨pnL x nu mi us at0 ld,255,own⟩,?_,fun ι=> ?_⟩
  ·show noIt (m a)=_;rw[hp];simp only[noIt];have:(own&&Nat.beq 255 itTy)=false:=by cases own<;>rfl
   rw[this]
  ·simp[pnL,ren,ren1,rho2]
def sgC(c:Int)(m:Bool):Int:=bif c==83&&m then 45 else bif c==83 then 43 else bif (c==43)==m then 32 else c
theorem v94(nu:Y)(mi:Bool)(us:Int)(at0:Int)(ld:Int)(c:Int)(R:Value→Prop):(jaz Tryz.prog G33 noL Tryz.f255 [.pointer (some ⟨0,0,some 0⟩),.int .u8 c] (vwN (pnL 1 nu mi us at0 ld)) 2 (fun v _ _=>R v))=(bw (c==83) true (c==83&&mi) (R (al 45)) (bif c==83 then R (al 43)else dx ((c==43)==mi) (al 32) (al c) R)):=by kernel_rfl
def h94:E→Lk→Nat→(Value→Lk→Nat→Prop)→Prop:=fun args m n K=>match args with
 | [.pointer (some ⟨a,0,some 0⟩),.int .u8 c]=>match m a with
  | some ⟨[.pointer (some ⟨x,0,some 0⟩),.string nu,.bool mi,.int .i64 us,.int .i64 at0,.int .i64 ld],255,own⟩=>∀e,sgC c mi=e→K (.int .u8 e) m n
  | _=>False
 | _=>False
def h90h:E→Lk→Nat→(Value→Lk→Nat→Prop)→Prop:=fun args m n K=>h90 args m n fun v m' n'=>match v with
 | .int .i64 x=>∀e,x=e→K (.int .i64 e) m' n'
 | _=>False
def G36:Env:=((((((Env.nil.add 30 (sp2 s78)).addG 252 (inlQ Tryz.prog G34 noL Tryz.f252)).addG 253 (inlQ Tryz.prog G34 noL Tryz.f253)).addG 254 (inlQ Tryz.prog G34 noL Tryz.f254)).addG 256 (inlQ Tryz.prog G34 noL Tryz.f256)).addG 251 h90h).addG 255 h94
theorem w94(nu:Y)(mi:Bool)(us at0 ld c:Int){R:Value→Prop}(h:R (.int .u8 (sgC c mi))):jee Tryz.prog G33 noL Tryz.f255 [.pointer (some ⟨0,0,some 0⟩),.int .u8 c] (vwN (pnL 1 nu mi us at0 ld)) 2 (fun v _ _=>R v):=by
 rw[jee,v94];delta av bw dx al;rw[sgC]at h;refine c_t (by simp) (cond_intro (fun q=> ?_) (fun q=>cond_intro (fun q2=> ?_) (fun q2=>cond_intro (fun q3=> ?_) (fun q3=> ?_))))
 ·rw[q]at h;exact h
 ·rw[q,q2]at h;exact h
 ·rw[q,q2,q3]at h;exact h
 ·rw[q,q2,q3]at h;exact h
theorem h94_ok:jcz Tryz.prog 255 h94:=by
 refine jh5 ok_G33 hmix fn94 jak fun args m n K h=> ?_
 unfold h94 at h;split at h
 case h_2=>exact h.elim
 rename_i a c;split at h
 case h_2=>exact h.elim
 rename_i x nu mi us at0 ld own hm;refine⟨[.pointer (some ⟨0,0,some 0⟩),.int .u8 c],_,2,rho2 a x,.int .u8 (sgC c mi),sub_N hm,fun ι=>by simp[ren,ren1,rho2],jag,fun v hv j hj=> ?_,rfl,w94 nu mi us at0 ld c (R:=fun v=>v= .int .u8 (sgC c mi)) rfl,h _ rfl⟩;simp at hv;rcases hv with rfl | rfl
 ·have:j=0:=by simpa[ids]using hj
  omega
 ·simp[ids]at hj
theorem gen_imp{P:Program}{f:FuncId}{h h':E→Lk→Nat→(Value→Lk→Nat→Prop)→Prop}(hh:∀args m n K,h' args m n K→h args m n K)(hg:jcz P f h):jcz P f h':=
 ⟨hg.1,fun args m n K hk=>hg.2 args m n K (hh args m n K hk)⟩
theorem h90h_ok:jcz Tryz.prog 251 h90h:=by
 refine gen_imp (fun args m n K h=> ?_) h90_ok;unfold h90h h90 at h;unfold h90;split at h
 case h_2=>exact h.elim
 split at h
 case h_2=>exact h.elim
 split at h
 case h_2=>exact h.elim
 split at h
 case h_2=>exact h.elim
 split at h
 case h_2=>exact h.elim
 rename_i hm _ _ _ _ _ _ _ _ _ _ _ _ _ _ _ _ _ hx _ _ hy hc;simp only[*]
theorem ok_G36:jaw Tryz.prog G36:=jao (jao (jao (jao (jao (jao (jai jap ok78) (jar ok_G34 hmix fn91 jak)) (jar ok_G34 hmix fn92 jak)) (jar ok_G34 hmix fn93 jak)) (jar ok_G34 hmix fn95 jak)) h90h_ok) h94_ok
theorem lok64:LOKf Tryz.prog (oneL 0 S64_0.hA) Tryz.f207:=l64_0
def r8(a:Prop):Prop:=(((((a∧a)∧a)∧a)∧a)∧a)∧(((((a∧a)∧a)∧a)∧a)∧((((a∧a)∧a)∧a)∧(((a∧a)∧a)∧((a∧a)∧(a∧a)∧a)∧a)∧a)∧a)∧a
theorem v64(s:Y)(nb:Bool)(w:Int)(dg:Int)(sc:Int)(sg:Bool)(k:Nat)(cap:Nat)(dr:Int)(f:Int)(cr:Bool)(fl:Int)(fm:Int)(nu:Y)(mi:Bool)(d:E)(R:Value→Prop):(jaz Tryz.prog G36 (oneL 0 S64_0.hA) Tryz.f207 [.pointer (some ⟨0,0,some 0⟩),S nu,B mi] (vwF2 (fmL s nb w dg sc sg 1 k cap dr f cr fl fm) d) 2 (fun v _ _=>R v))=(bif jbw d k cap&&decide (k≤1000∧nu.size≤1000∧cn1 (zc d k)≤am nu)then∀a:Int,enV (bz nu) fm (zc d k)=a→(bif d7 a then ay (j6 (Utf8.encode fl) w 1000 1000) (co [ak w] (S (sz (repZ (bz (Utf8.encode fl)) w.toNat)))) R else bif jv [] d 210 then kz (S64_0.toLSpec.pre (mi,(ao,((0:Int),(Rw.nil,(k,(cap,(natO k,((0:Int),(s,(nb,(w,(dg,(sc,(sg,(k,(cap,(dr,(f,(cr,(fl,(fm,(nu,(mi,((0:Int),((0:Int),(a,rlbL [] d))))))))))))))))))))))))))) (Rw.is Rw.nil=false→wrGo f cr (am s) mi a fl (ii 0 [] d k) (cl s) (cl nu) 0 0=([]:J)→jz (Int→jr (rlbL [] d) 210 (bw (dr==36) true (dr==36&&f9 a) False (i7 (dr !=0) true (dr !=0&&f9 a) (r8 (∀b:Int,sgC dr mi=b→False)) (R (co [ak a] (S ByteArray.empty))))))) (jz (Int→(∀b:E,∀c:Nat,∀e:Nat,jcm b c e=true→zc b c=Rw.z Rw.nil++wrGo f cr (am s) mi a fl (ii 0 [] d k) (cl s) (cl nu) 0 0→kp (gm b 210) (rlbL [] d) 210 (bw (dr==36) true (dr==36&&f9 a) (pk (cm a 1) b c (al 36) (co [ak a] (S (jbb (setL b (ki (cm a 1)) [al 36]) 0 c))) R) (i7 (dr !=0) true (dr !=0&&f9 a) (r8 (∀g:Int,sgC dr mi=g→pk (cm a 1) b c (al g) (co [ak a] (S (jbb (setL b (ki (cm a 1)) [al g]) 0 c))) R)) (ay (jbf b 0 c) (co [ak a] (S (jbb b 0 c))) R))))))else False)else False):=by kernel_rfl
def wrV(sp:J)(w f:Int)(cr:Bool)(dr fl fm:Int)(ro nu:J)(mi:Bool):J×Int:=
 bif decide (enV nu fm ro<0)then(repZ [fl] w.toNat,w)
 else(bif dr !=0&&decide (enV nu fm ro>0)then(wrGo f cr sp.length mi (enV nu fm ro) fl ro sp nu 0 0).set (enV nu fm ro-1).toNat (bif dr==36 then 36 else sgC dr mi)
  else wrGo f cr sp.length mi (enV nu fm ro) fl ro sp nu 0 0,enV nu fm ro)
def wrR(x:J×Int):Value:= .tuple ⟨[.string (sz x.1),.int .i64 x.2]⟩
def cN:J→Int
 | []=>0
 | r::rs=>(bif r==2 then 0 else 1)+cN rs
theorem cN_nn:∀l,0≤cN l
 | []=>by simp[cN]
 | r::rs=>by have:=cN_nn rs;rw[cN];cases r==2<;>simp<;>omega
theorem cn1_cdg:∀l,cn1 l≤cdg l
 | []=>by simp[cn1,cdg]
 | r::rs=>by
  have:=cn1_cdg rs;rw[cn1,cdg];by_cases h1:r=1
  ·subst h1;show 1+_≤1+_;omega
  ·have e:(r==1)=false:=by simpa using h1
   rw[e];cases decide (r=0) || decide (r=1) <;>simp<;>omega
theorem jix{f:Int}{cr:Bool}{n:Int}{mi:Bool}{ld fl:Int}:∀(rs cs ds:J)(i a:Int),((wrGo f cr n mi ld fl rs cs ds i a).length:Int)=cN rs
 | [],_,_,_,_=>rfl
 | r::rs,cs,ds,i,a=>by
  rw[wrGo,cN];cases r==2
  ·simp only[cond_false,List.length_cons];have:=jix (f:=f) (cr:=cr) (n:=n) (mi:=mi) (ld:=ld) (fl:=fl) rs cs.tail (bif wrT f cr n r i then ds.tail else ds) (i+1) (a+1);omega
  ·simp only[cond_true];rw[jix];omega
theorem jjg{ze:Bool}{fm:Int}:∀(ro ds:J)(a:Int),-1≤a→enGo ze fm ro ds a≤a+cN ro
 | [],_,a,h=>by rw[enGo,cN];omega
 | r::rs,ds,a,h=>by
  have h0:=cN_nn rs;rw[enGo,cN];by_cases h2:r=2
  ·subst h2;have e0:((2:Int)==0)=false:=rfl;have e1:((2:Int)==1)=false:=rfl;have e2:((2:Int)==2)=true:=rfl;rw[e0,e1,e2];simp only[cond_true,cond_false];have:=jjg (ze:=ze) (fm:=fm) rs ds a h;cases decide (fm>0) || !ze<;>simp<;>omega
  ·have e2:(r==2)=false:=by simpa using h2
   rw[e2];have h1:=jjg (ze:=ze) (fm:=fm) rs ds (a+1) (by omega);have h3:=jjg (ze:=ze) (fm:=fm) rs ds.tail (a+1) (by omega);cases r==0
   ·cases r==1
    ·simp only[cond_false];omega
    ·simp only[cond_true,cond_false];cases ds.headD 0 !=48<;>simp<;>omega
   ·simp only[cond_true,cond_false];omega
theorem enV_le{nu:J}{fm:Int}{ro:J}:enV nu fm ro≤cN ro:=by
 rw[enV];have:=cN_nn ro;have:=jjg (ze:=(jch nu [48]).isEmpty) (fm:=fm) ro nu 0 (by omega);cases enOn ro<;>simp<;>omega
theorem enc_fl{fl:Int}(h:fl=32∨fl=42):bz (Utf8.encode fl)=[fl]:=by
 rcases h with rfl | rfl<;>kernel_rfl
theorem w_64(s:Y)(nb:Bool)(w:Int)(dg:Int)(sc:Int)(sg:Bool)(k:Nat)(cap:Nat)(dr:Int)(f:Int)(cr:Bool)(fl:Int)(fm:Int)(nu:Y)(mi:Bool)(d:E)(hR:jbw d k cap=true)(hO:roOK (zc d k)=true)(hD:dgL (bz nu)=true)(hk:k≤1000∧nu.size≤1000∧k≤s.size∧s.size≤1000∧0≤w∧w≤1000)(hc:cdg (zc d k)≤nu.size)(hfl:fl=32∨fl=42)
  {R:Value→Prop} (hV:R (wrR (wrV (bz s) w f cr dr fl fm (zc d k) (bz nu) mi))):
  jee Tryz.prog G36 (oneL 0 S64_0.hA) Tryz.f207 [.pointer (some ⟨0,0,some 0⟩),.string nu,.bool mi] (vwF2 (fmL s nb w dg sc sg 1 k cap dr f cr fl fm) d) 2 (fun v _ _=>R v):=by
 rw[jee,v64];delta kz jz kp av bw i7 ay co ak r8 b6 gz ki pk al cm f9 gm cl ii am jr ao jv j6 d7;have h:=jax.1 hR;have h1:=cn1_cdg (zc d k);have hl:= @enV_le (bz nu) fm (zc d k);have z0:Int.toNat 0=0:=rfl;have hg:(jav [] d&&true&&true&& (ja3 210 d&&true))=true:=by rw[h.good];simp[ja3,idsL,jaq h.plain]
 have hi:(ja3 210 d&&true)=true:=by simp[ja3,idsL,jaq h.plain]
 have sl:((bz s).length:Int)=s.size:=by rw[jal]
 rw[wrV,wrR,sl]at hV;simp only[h.rlb,z0,List.drop_zero];refine c_t (by rw[hR];simp only[Bool.true_and,jae];omega) fun e he=> ?_
 rw[he]at hV hl;have hw:=fun a=> @jix f cr s.size mi e fl (zc d k) (bz s) (bz nu) 0 a
 have hw:=hw 0;generalize wrGo f cr s.size mi e fl (zc d k) (bz s) (bz nu) 0 0=W at*;apply cond_intro<;>intro q
 ·rw[q,cond_true]at hV;have eb:=enc_fl hfl;have es:(Utf8.encode fl).size=1:=by rw[←jal,eb];rfl
  rw[es,eb];exact c_t (jaa (by omega)) hV
 ·rw[q,cond_false]at hV;refine c_t hg (c_t ?_ ⟨fun _ hn us' at' i'=>c_t hi fun _=>c_t (by simp) ?_,fun us' at' i' od om oc g1 g2=> ?_⟩)
  ·show(Rw.nil.ok&& (jbw d k cap&& (roOK (zc d k) && (dgL (bz nu) &&decide (mi=mi∧(0:Int)≤0∧(0:Int)≤k∧k≤1000∧natO k=k∧k≤s.size∧s.size≤1000∧(0:Int)≤0∧(0:Int)≤0∧(0:Int)≤0∧(0:Int)≤0∧0+cdg ((zc d k).drop (Int.toNat 0))≤nu.size∧((Rw.nil.z.length:Nat):Int)≤0)))))=true;rw[hR,hO,hD,jca,z0,List.drop_zero];simp only[Bool.true_and,Rw.ok,Rw.z,List.length_nil,jae];exact⟨trivial,by omega,by omega,by omega,trivial,by omega,by omega,by omega,by omega,by omega,by omega,by omega,by omega⟩
  ·rw[hn,List.length_nil]at hw;have e0:decide (e>0)=false:=jad (by omega);rw[e0,Bool.and_false,Bool.and_false,cond_false];rw[e0,Bool.and_false,cond_false,hn]at hV;exact c_t (by simp) hV
  ·have ho:=jat.1 g1;have hzl:=jba ho;rw[g2]at hzl;have g3:zc od om=W:=by rw[g2];rfl
   have hzl:W.length=om:=hzl;have hio:(ja3 210 d&& (ja3 210 od&&true))=true:=by simp[ja3,idsL,jaq h.plain,jaq ho.plain]
   have hset:∀x:Int,e>0→R (.tuple ⟨[.string (sz (W.set (e-1).toNat x)),.int .i64 e]⟩)→
     (bif decide (0 ≤ IntKind.wrap IntKind.i64 (e-1) ∧ IntKind.wrap IntKind.i64 (e-1)<(↑om : Int)) then
      bif Nat.ble (0+Int.toNat (IntKind.wrap IntKind.i64 (e-1))*1+1) (List.length od)then
       bif jbf (setL od (0+Int.toNat (IntKind.wrap IntKind.i64 (e-1))*1) [Value.int IntKind.u8 x]) 0 om then
        R (Value.tuple (Array.mk [Value.string (jbb (setL od (0+Int.toNat (IntKind.wrap IntKind.i64 (e-1))*1) [Value.int IntKind.u8 x]) 0 om),Value.int IntKind.i64 e]))
       else False
      else False
     else False):=fun x h0 hx=>by
    have hb:(W.length:Int)≤1000:=by
     have:=hw
     have h2:cN (zc d k)≤k:=by
      have:∀l:J,cN l≤l.length:=fun l=>by
       induction l with
       | nil=>simp[cN]
       | cons r rs ih=>rw[cN,List.length_cons];cases r==2<;>simp<;>omega
      have:=this (zc d k);rw[jbn h]at this;exact this
     omega
    rw[w64 (n:=e-1) (by omega)];obtain⟨s1,s2,s4⟩:=ho.set x (i:=(e-1).toNat) (by omega);have s3:=s1.str;rw[s2,g3]at s3;exact c_t (jaa (by omega)) (c_t s4 (c_t s3.1 (by rw[s3.2];exact hx)))
   refine c_t hio fun _=>c_t (by simp) (cond_intro (fun p=> ?_) (fun p=>c_t (by simp) (cond_intro (fun p2=> ?_) (fun p2=> ?_))))
   ·obtain⟨p1,p3⟩:=Bool.and_eq_true_iff.1 p;have pe:dr=36:=by simpa using p1
    have pn:(dr !=0)=true:=by rw[pe];rfl
    rw[pn,p3,p1,Bool.true_and,cond_true,cond_true]at hV;exact hset 36 (jab p3) hV
   ·obtain⟨p1,p3⟩:=Bool.and_eq_true_iff.1 p2
    have pe:(dr==36)=false:=by
     rw[p3,Bool.and_true]at p;exact p
    rw[p1,p3,pe,Bool.true_and,cond_true,cond_false]at hV;have hX:∀e_1:Int,sgC dr mi=e_1→_:=fun e_1 h1=>hset e_1 (jab p3) (by rw[←h1];exact hV)
    repeat' (first | exact hX | apply And.intro)
   ·rw[p2,cond_false]at hV;have s3:=ho.str;rw[g3]at s3;exact c_t s3.1 (by rw[s3.2];exact hV)
def w64C(s nu:Y)(k cap:Nat)(w fl:Int)(d:E):Bool:=jbw d k cap&& (roOK (zc d k) && (dgL (bz nu) &&decide ((k≤1000∧nu.size≤1000∧k≤s.size∧s.size≤1000∧0≤w∧w≤1000)∧cdg (zc d k)≤nu.size∧(fl=32∨fl=42))))
def h64:E→Lk→Nat→(Value→Lk→Nat→Prop)→Prop:=fun args m n K=>match args with
 | [.pointer (some ⟨a,0,some 0⟩),.string nu,.bool mi]=>match m a with
  | some ⟨[.string s,.bool nb,.int .i64 w,.int .i64 dg,.int .i64 sc,.bool sg,.slice (some ⟨y,0,some 1⟩) k cap,.int .u8 dr,.int .i64 f,.bool cr,.int .u8 fl,.int .i64 fm],156,own⟩=>match m y with
   | some ⟨d,251,own2⟩=>match cnd (w64C s nu k cap w fl d)with
    | true=>∀(t:Y)(l:Int),sz (wrV (bz s) w f cr dr fl fm (zc d k) (bz nu) mi).1=t→(wrV (bz s) w f cr dr fl fm (zc d k) (bz nu) mi).2=l→K (.tuple ⟨[.string t,.int .i64 l]⟩) m n
    | false=>False
   | _=>False
  | _=>False
 | _=>False
theorem h64_ok:jcz Tryz.prog 207 h64:=by
 refine jh5 ok_G36 hmix fn64 lok64 fun args m n K h=> ?_
 unfold h64 at h;split at h
 case h_2=>exact h.elim
 rename_i a nu mi;split at h
 case h_2=>exact h.elim
 rename_i s nb w dg sc sg y k cap dr f cr fl fm own hm;split at h
 case h_2=>exact h.elim
 rename_i d own2 hy;split at h
 case h_2=>exact h.elim
 rename_i hc;simp only[cnd,w64C,jaf,jae]at hc;obtain⟨h1,h2,h3,h4,h5,h6⟩:=hc
 refine⟨[.pointer (some ⟨0,0,some 0⟩),.string nu,.bool mi],_,2,rho2 a y,wrR (wrV (bz s) w f cr dr fl fm (zc d k) (bz nu) mi),sub_F2 (jax.1 h1).plain hm hy,fun ι=>by simp[ren,ren1,rho2],jag,fun v hv j hj=> ?_,rfl,
  w_64 s nb w dg sc sg k cap dr f cr fl fm nu mi d h1 h2 h3 h4 h5 h6 (R:=fun v=>v=wrR (wrV (bz s) w f cr dr fl fm (zc d k) (bz nu) mi)) rfl,h _ _ rfl rfl⟩
 simp at hv;rcases hv with rfl | rfl | rfl
 ·have:j=0:=by simpa[ids]using hj
  omega
 ·simp[ids]at hj
 ·simp[ids]at hj
def G37:Env:=(((Env.nil.add 248 (sp1 s28)).addG 136 h62).addG 225 h63).addG 207 h64
theorem ok_G37:jaw Tryz.prog G37:=jao (jao (jao (jai jap ok28) h62_ok) h63_ok) h64_ok
end Go.Px
end
noncomputable section
namespace Go.Px
open Go Go.Ab Go.Proofs Go.Shelf
theorem jh8{ze:Bool}{fm:Int}:∀(rs:J)(ds:J)(a:Int),okR rs→0≤a→(decide (fm>0) || !ze)=true→
  enGo ze fm rs ds a=jex (rs.map rmk) ds a∨(enGo ze fm rs ds a= -1∧0∉rs∧ ∀c∈ds.take (cn1 rs).toNat,c=48)
 | [],ds,a,_,_,_=> .inr ⟨rfl,by simp,by simp[cn1]⟩
 | r::rs,ds,a,hok,ha,hz=>by
  have hok':okR rs:=fun x hx=>hok x (List.mem_cons_of_mem _ hx)
  have h0:=jle rs;rw[enGo,List.map_cons,jex];rcases jc5 (hok r List.mem_cons_self)with rfl | rfl | rfl | rfl | rfl | rfl
  ·exact .inl rfl
  ·show(bif ds.headD 0 !=48 then a else enGo ze fm rs ds.tail (a+1))=(bif ds.headD 0 !=48 then a else jex (rs.map rmk) ds.tail (a+1))∨((bif ds.headD 0 !=48 then a else enGo ze fm rs ds.tail (a+1))= -1∧_∧ ∀c∈ds.take (1+cn1 rs).toNat,c=48)
   cases hd:ds.headD 0 !=48 with
   | true=>exact .inl rfl
   | false=>
    simp only[cond_false];rcases jh8 rs ds.tail (a+1) hok' (by omega) hz with h | ⟨h1,h2,h3⟩
    ·exact .inl h
    ·refine .inr ⟨h1,by simpa using h2,fun c hc=> ?_⟩;have e:(1+cn1 rs).toNat=(cn1 rs).toNat+1:=by omega
     rw[e]at hc;cases ds with
     | nil=>simp at hc
     | cons x xs=>
      rw[List.take_succ_cons]at hc;rcases List.mem_cons.1 hc with rfl | hc
      ·simpa using hd
      ·exact h3 c hc
  ·show(bif decide (fm>0) || !ze then a else enGo ze fm rs ds a)=a∨_;rw[hz];exact .inl rfl
  ·rcases jh8 rs ds (a+1) hok' (by omega) hz with h | ⟨h1,h2,h3⟩
   ·exact .inl h
   ·exact .inr ⟨h1,by simpa using h2,by simpa[cn1]using h3⟩
  ·rcases jh8 rs ds (a+1) hok' (by omega) hz with h | ⟨h1,h2,h3⟩
   ·exact .inl h
   ·exact .inr ⟨h1,by simpa using h2,by simpa[cn1]using h3⟩
  ·rcases jh8 rs ds (a+1) hok' (by omega) hz with h | ⟨h1,h2,h3⟩
   ·exact .inl h
   ·exact .inr ⟨h1,by simpa using h2,by simpa[cn1]using h3⟩
theorem jgw{fm:Int}(hf:decide (fm>0)=false):∀(rs:J)(ds:J)(a:Int),okR rs→0∉rs→(∀c∈ds,c=48)→cn1 rs≤ds.length→enGo true fm rs ds a= -1
 | [],_,_,_,_,_,_=>rfl
 | r::rs,ds,a,hok,hr,hd,hl=>by
  have hok':okR rs:=fun x hx=>hok x (List.mem_cons_of_mem _ hx)
  have hr':0∉rs:=fun h=>hr (List.mem_cons_of_mem _ h)
  rw[cn1]at hl;have h0:=jle rs;rw[enGo];rcases jc5 (hok r List.mem_cons_self)with rfl | rfl | rfl | rfl | rfl | rfl
  ·exact absurd List.mem_cons_self hr
  ·have hl:1+cn1 rs≤ds.length:=hl;cases ds with
   | nil=>simp at hl;omega
   | cons x xs=>
    have:x=48:=hd x List.mem_cons_self;subst this;exact jgw hf rs xs (a+1) hok' hr' (fun c hc=>hd c (List.mem_cons_of_mem _ hc)) (by simp at hl;omega)
  ·show(bif decide (fm>0) || !true then a else enGo true fm rs ds a)= -1;rw[hf];exact jgw hf rs ds a hok' hr' hd (by simpa using hl)
  ·exact jgw hf rs ds (a+1) hok' hr' hd (by simpa using hl)
  ·exact jgw hf rs ds (a+1) hok' hr' hd (by simpa using hl)
  ·exact jgw hf rs ds (a+1) hok' hr' hd (by simpa using hl)
theorem en_on:∀(rs:J),okR rs→(∀bh pt dg,(ldGo (rs.map rmk) false bh pt dg).1=true→enOn rs=hasZ (rs.map rmk) 99)
 | [],_,_,_,_,_=>rfl
 | r::rs,hok,bh,pt,dg,h=>by
  have hok':okR rs:=fun x hx=>hok x (List.mem_cons_of_mem _ hx)
  rw[List.map_cons,ldGo]at h;rw[enOn,List.map_cons,jhe];rcases jc5 (hok r List.mem_cons_self)with rfl | rfl | rfl | rfl | rfl | rfl
  ·show false=(false || hasZ (rs.map rmk) 99)
   rw[Bool.false_or];cases hq:hasZ (rs.map rmk) 99 with
   | false=>rfl
   | true=>
    have h:(ldGo (rs.map rmk) true bh pt (dg+1)).1=true:=h;rw[jh1 _ _ _ _ (jbm.1 hq)]at h;cases h
  ·rfl
  ·exact(en_on rs hok' _ _ _ h).trans (Bool.false_or _).symm
  ·exact(en_on rs hok' _ _ _ h).trans (Bool.false_or _).symm
  ·exact(en_on rs hok' _ _ _ h).trans (Bool.false_or _).symm
  ·exact(en_on rs hok' _ _ _ h).trans (Bool.false_or _).symm
theorem cdg_pd:∀(rs:J),okR rs→cdg rs=pdGo (rs.map rmk)
 | [],_=>rfl
 | r::rs,hok=>by
  have hok':okR rs:=fun x hx=>hok x (List.mem_cons_of_mem _ hx)
  rw[cdg,List.map_cons,pdGo,cdg_pd rs hok'];rcases jc5 (hok r List.mem_cons_self)with rfl | rfl | rfl | rfl | rfl | rfl<;>rfl
theorem jgy:∀(rs:J),0∉rs→cn1 rs=cdg rs
 | [],_=>rfl
 | r::rs,h=>by
  have h1:r≠0:=fun e=>h (by rw[e];exact List.mem_cons_self)
  rw[cn1,cdg,jgy rs fun q=>h (List.mem_cons_of_mem _ q),jad h1,Bool.false_or];by_cases e:r=1
  ·subst e;rfl
  ·rw[jad e];have:(r==1)=false:=by simpa using e
   rw[this]
theorem has_100:∀(rs:J),okR rs→hasZ (rs.map rmk) 100=decide (0∈rs)
 | [],_=>rfl
 | r::rs,hok=>by
  have hok':okR rs:=fun x hx=>hok x (List.mem_cons_of_mem _ hx)
  rw[List.map_cons,jhe,has_100 rs hok'];rcases jc5 (hok r List.mem_cons_self)with rfl | rfl | rfl | rfl | rfl | rfl<;>simp[rmk]
theorem jj3:∀(a:J)(fm bh pt:Bool)(dg:Int),(ldGo (a++ [115,115]) fm bh pt dg).1=(ldGo a fm bh pt dg).1
 | [],_,_,_,_=>rfl
 | m::r,fm,bh,pt,dg=>by
  rw[List.cons_append,ldGo,ldGo];cases m==118
  ·cases m==100
   ·cases m==99
    ·exact jj3 r _ _ _ _
    ·cases fm
     ·exact jj3 r _ _ _ _
     ·rfl
   ·exact jj3 r _ _ _ _
  ·exact jj3 r _ _ _ _
theorem cnt_has{l:J}{c:Int}:decide ((cntZ l c:Int)>0)=hasZ l c:=by
 rw[Bool.eq_iff_iff,jae,jbm]
 induction l with
 | nil=>simp[cntZ]
 | cons x l ih=>
  rw[jdk];by_cases e:x=c
  ·subst e;simp;omega
  ·rw[if_neg e,Int.zero_add,ih];simp[Ne.symm e]
theorem rep48p:∀{l:J}{k:Nat},l.length=k→(l=rep1 48 k↔ ∀c∈l,c=48)
 | l,k,h=>by
  rw[rep1,List.eq_replicate_iff];exact⟨fun q=>q.2,fun q=>⟨h,q⟩⟩
theorem jhx{l:J}(hl:IsB (pS l)∧(pS l).length≤32)(h:pN l=true):okR (rolF (pS l))∧(rolF (pS l)).map rmk=jas (pS l)∧cdg (rolF (pS l))=pD l∧enOn (rolF (pS l))=hasZ (jas (pS l)) 99∧
  decide ((cntZ (mkGo (drZ (jan (pS l))) false (jan (pS l))) 100:Int)>0)=hasZ (jas (pS l)) 100∧hasZ (jas (pS l)) 100=decide (0∈rolF (pS l))∧(hasZ (jas (pS l)) 99=true→pW l>0):=by
 obtain⟨h1,h2,h3⟩:=jgd h;have hv:=jdf h;have hS:pS l=exZ l:=by rw[pS,if_pos hv]
 have hnp:=jhy h;obtain⟨_,_,p3,_⟩:=jjz hl h 0;have hW:pW l=(pS l).length-cntZ (pS l) 86:=by rw[pW,if_pos hv,hnp.nch,hS];rfl
 refine⟨h2,h3,by rw[cdg_pd _ h2,h3,p3],?_,?_,by rw[←h3,has_100 _ h2],fun h9=> ?_⟩
 ·have hld:=hnp.ld;rw[←hS]at hld;unfold jdp at hld
  have hL:(ldGo (mkGo (drZ (jan (pS l))) false (jan (pS l))) false false false 0).1=true:=by
   revert hld;cases hasZ (jan (pS l)) 90&&hasZ (jan (pS l)) 42
   ·cases(hasZ (jan (pS l)) 90 || hasZ (jan (pS l)) 42) &&drZ (jan (pS l)) !=0
    ·intro q;have q:((ldGo (mkGo (drZ (jan (pS l))) false (jan (pS l))) false false false 0).1&&_)=true:=q;exact(Bool.and_eq_true_iff.1 q).1
    ·intro q;cases q
   ·intro q;cases q
  have hL2:(ldGo (jas (pS l)) false false false 0).1=true:=by
   unfold jas;split
   ·rw[jj3];exact hL
   ·rw[List.append_nil];exact hL
  rw[←h3]at hL2 ⊢;exact en_on _ h2 _ _ _ hL2
 ·rw[cnt_has,jas]
  have:∀a:J,hasZ (a++(if crZ (pS l)=true then [115,115]else [])) 100=hasZ a 100:=fun a=>by
   split<;>simp[hasZ]
  rw[this]
 ·have hm:=jhd (pS l)
  have:0<nv (jas (pS l)):=by
   have:=jbm.1 h9;unfold nv;exact List.length_pos_of_mem (List.mem_filter.2 ⟨this,by decide⟩)
  omega
theorem dig_zero{n:Int}{k:Nat}(hn:(n.natAbs:Int)<tenZ k):(∀c∈digZ n.natAbs k,c=48)↔n=0:=by
 have h1:=jfj k n.natAbs;have h2:=all48 h1;have h3:=jji k n.natAbs (by omega);rw[Int.emod_eq_of_lt (by omega) hn]at h3;rw[h3]at h2
 have:(∀c∈digZ n.natAbs k,c=48)↔(∀c∈digZ n.natAbs k,hasZ [48] c=true):=
  ⟨fun q c hc=>by rw[q c hc];rfl,fun q c hc=>by have:=jbm.1 (q c hc);simpa using this⟩
 rw[this,h2];omega
theorem en_law{l:J}(hl:IsB (pS l)∧(pS l).length≤32)(h:pN l=true){n:Int}(hn:(n.natAbs:Int)<tenZ (pD l).toNat):
  enV (digZ n.natAbs (pD l).toNat) (cntZ (mkGo (drZ (jan (pS l))) false (jan (pS l))) 100) (rolF (pS l))=(bif fdBl (pS l) (pW l) (pD l).toNat n then -1 else fdLe (pS l) (pW l) (pD l).toNat n)∧
  (fdBl (pS l) (pW l) (pD l).toNat n=true→fdLe (pS l) (pW l) (pD l).toNat n=pW l):=by
 obtain⟨f1,f2,f3,f4,f5,f6,f7⟩:=jhx hl h;have hz:=dig_zero hn;have hlen:=jds (pD l).toNat n.natAbs;have hp:=je1 h
 have hze:(jch (digZ n.natAbs (pD l).toNat) [48]).isEmpty=decide (n=0):=by
  rw[Bool.eq_iff_iff,List.isEmpty_iff,jiy,jae,←hz];exact⟨fun q c hc=>by have:=jbm.1 (q c hc);simpa using this,fun q c hc=>by rw[q c hc];rfl⟩
 rw[enV,f4,hze,fdBl,fdLe,endZ]
 have hrep:decide (digZ n.natAbs (pD l).toNat=rep1 48 (pD l).toNat)=decide (n=0):=by
  rw[Bool.eq_iff_iff,jae,jae,rep48p hlen,hz]
 rw[hrep];generalize hds:digZ n.natAbs (pD l).toNat=ds at*;cases h9:hasZ (jas (pS l)) 99 with
 | false=>exact⟨rfl,fun q=>by cases q⟩
 | true=>
  have hW:=f7 h9;have e0:(n==0)=decide (n=0):=by rw[Bool.eq_iff_iff];simp
  rw[e0];simp only[Bool.not_true,cond_false,cond_true];cases hq:(!hasZ (jas (pS l)) 100&&decide (n=0))with
  | true=>
   obtain⟨q1,q2⟩:=Bool.and_eq_true_iff.1 hq;rw[q1,q2];have q0:hasZ (jas (pS l)) 100=false:=by simpa using q1
   rw[q0]at f5 f6;have h0:0∉rolF (pS l):=jac f6.symm;have hcn:=jgy _ h0;rw[jgw f5 _ _ _ f1 h0 (hz.2 (jab q2)) (by omega)];simp[hW]
  | false=>
   have hst:(decide ((cntZ (mkGo (drZ (jan (pS l))) false (jan (pS l))) 100:Int)>0) || !decide (n=0))=true:=by
    rw[f5];cases q1:hasZ (jas (pS l)) 100 with
    | true=>rfl
    | false=>
     rw[q1]at hq;have:decide (n=0)=false:=by simpa using hq
     rw[this];rfl
   have hB:(decide ((bif false then pW l else jex (jas (pS l)) ds 0)>0) && ((bif false then pW l else jex (jas (pS l)) ds 0)==pW l&& (decide (n=0) && !hasZ (jas (pS l)) 100)))=false:=by
    rw[Bool.and_comm (decide (n=0)),hq,Bool.and_false,Bool.and_false]
   rw[hB];refine⟨?_,fun q=>by cases q⟩;rcases jh8 (rolF (pS l)) ds 0 f1 (by omega) hst with q | ⟨q1,q2,q3⟩
   ·rw[q,f2];rfl
   ·exfalso;have hcn:=jgy _ q2;rw[f6,jad q2]at f5;rw[f5,Bool.false_or]at hst;have hn0:n≠0:=by simpa using hst
    refine hn0 (hz.1 fun c hc=>q3 c ?_);rw[hcn,f3,List.take_of_length_le (by omega)];exact hc
theorem ro_cases{b pre r:J}{c d f:Int}(h:DrP b d f)(hb:b=pre++c::r):
  ((pre.length:Int)=f∧c=d∧d≠0∧(roP d f c pre.length=4∨roP d f c pre.length=5))∨
  ((pre.length : Int) ≠ f ∧ (roP d f c pre.length = 0 ∨ roP d f c pre.length = 1 ∨ roP d f c pre.length = 2 ∨ roP d f c pre.length = 3 ∨
   (c≠d∧(roP d f c pre.length=4∧(c=83∨c=43∨c=45)∨roP d f c pre.length=5∧c=36)))):=by
 have he:=h.eq hb;have hc0:=h.zero c (by rw[hb];simp);by_cases hf:(pre.length:Int)=f
 ·obtain⟨h1,h2⟩:=he.2.1 hf;have hd:d≠0:=by rw[←h1];exact hc0
  refine .inl ⟨hf,h1,hd,?_⟩
  have hm:d=36∨d=83∨d=43∨d=45:=by
   rcases h.at_ with⟨q,_⟩ | ⟨_,_,_,q⟩
   ·exact absurd q hd
   ·simpa using q
  have hne:((pre.length:Int) !=f)=false:=by simpa using hf
  unfold roP;rw[hne,h1];rcases hm with rfl | rfl | rfl | rfl<;>simp[hasZ]
 ·refine .inr ⟨hf,?_⟩;have hne:((pre.length:Int) !=f)=true:=by simpa using hf
  unfold roP;rw[hne,Bool.and_true];cases q1:hasZ [57,89,84,73,82] c with
  | true=>exact .inl rfl
  | false=>
   cases q2:(c==90 || (c==42 || c==d))with
   | true=>exact .inr (.inl rfl)
   | false=>
    have hcd:c≠d:=fun e=>by rw[e]at q2;simp at q2
    cases q3:c==86 with
    | true=>exact .inr (.inr (.inl rfl))
    | false=>
     cases q4:c==36 with
     | true=>exact .inr (.inr (.inr (.inr ⟨hcd,.inr ⟨rfl,by simpa using q4⟩⟩)))
     | false=>
      cases q5:(c==83 || (c==43 || c==45))with
      | true=>exact .inr (.inr (.inr (.inr ⟨hcd,.inl ⟨rfl,by simpa using q5⟩⟩)))
      | false=>exact .inr (.inr (.inr (.inl rfl)))
theorem sg_eq{c:Int}{m:Bool}(h:c=83∨c=43∨c=45):sgC c m=sgZ c m:=by
 rcases h with rfl | rfl | rfl<;>cases m<;>rfl
theorem wr_body{b t:J}{d f n ld fl dr':Int}{cr mi:Bool}(h:DrP b d f)(hdr:d≠0→dr'=d∧fl=32)(hdr0:d=0→dr'=0)(hn:n=b.length+(bif cr then 2 else 0)):
  ∀(r pre ds:J)(a:Int)(X:J→J→Int→J)(rs' ms':J),b=pre++r→
   (∀ds a,wrGo f cr n mi ld fl rs' t ds b.length a=fdGo ld fl dr' mi ms' t ds a)→
   wrGo f cr n mi ld fl (jbo d f r pre.length++rs') (r++t) ds pre.length a=fdGo ld fl dr' mi ((jbo d f r pre.length).map rmk++ms') (r++t) ds a
 | [],pre,ds,a,X,rs',ms',hb,ht=>by
  rw[List.append_nil]at hb;rw[←hb];exact ht ds a
 | c::r,pre,ds,a,X,rs',ms',hb,ht=>by
  have ih:=fun ds a=>wr_body h hdr hdr0 hn r (pre++ [c]) ds a X rs' ms' (by rw[hb];simp) ht
  have e:((pre++ [c]).length:Int)=pre.length+1:=by simp
  rw[e]at ih
  have hcr:(cr&&decide ((pre.length:Int)≥n-2))=false:=by
   cases cr with
   | false=>rfl
   | true=>
    have:(b.length:Int)=pre.length+(r.length+1):=by rw[hb];simp
    rw[Bool.true_and,decide_eq_false_iff_not];simp only[cond_true]at hn;omega
  rw[jbo,List.cons_append,List.cons_append,List.map_cons,List.cons_append,wrGo,fdGo];simp only[List.headD_cons,List.tail_cons];rcases ro_cases h hb with⟨h1,h2,h3,h4⟩ | ⟨h1,h4⟩
  ·obtain⟨g1,g2⟩:=hdr h3;have hf:((pre.length:Int)==f)=true:=by simpa using h1
   have e1:wrC f cr n mi ld fl (roP d f c pre.length) c (ds.headD 0) pre.length a=32:=by rw[wrC,hf,cond_true,g2]
   have e2:wrT f cr n (roP d f c pre.length) pre.length=false:=by rw[wrT,hf];rfl
   have e3:ssZ c dr' mi=32:=by
    rw[ssZ,g1,h2];have:(d !=0&&d==d)=true:=by simp[h3]
    rw[this];rfl
   rw[e1,e2,e3,ih,ih];rcases h4 with h4 | h4<;>rw[h4] <;>rfl
  ·have hf:((pre.length:Int)==f)=false:=by simpa using h1
   rcases h4 with h4 | h4 | h4 | h4 | ⟨h5,h4⟩
   ·rw[h4];have e1:wrC f cr n mi ld fl 0 c (ds.headD 0) pre.length a=fmZ c (ds.headD 0) mi:=by rw[wrC,hf,hcr];rfl
    have e2:wrT f cr n 0 pre.length=true:=by rw[wrT,hf,hcr];rfl
    rw[e1,e2,ih,ih];rfl
   ·rw[h4];have e1:wrC f cr n mi ld fl 1 c (ds.headD 0) pre.length a=bif decide (a<ld)then fl else ds.headD 0:=by rw[wrC,hf,hcr];rfl
    have e2:wrT f cr n 1 pre.length=true:=by rw[wrT,hf,hcr];rfl
    rw[e1,e2,ih,ih];rfl
   ·rw[h4,ih];rfl
   ·rw[h4];have e1:wrC f cr n mi ld fl 3 c (ds.headD 0) pre.length a=bif c==66 then 32 else bif decide (a<ld)then fl else c:=by rw[wrC,hf,hcr];rfl
    have e2:wrT f cr n 3 pre.length=false:=by rw[wrT,hf,hcr];rfl
    rw[e1,e2,ih,ih];rfl
   ·have hss:ssZ c dr' mi=bif hasZ [67,82,68,66] c then(bif mi then c else 32)else sgZ c mi:=by
     have:(dr' !=0&&c==dr')=false:=by
      by_cases hd:d=0
      ·rw[hdr0 hd];rfl
      ·rw[(hdr hd).1];have:(c==d)=false:=by simpa using h5
       rw[this,Bool.and_false]
     rw[ssZ,this];rfl
    rcases h4 with⟨h4,h6⟩ | ⟨h4,h6⟩
    ·rw[h4];have e1:wrC f cr n mi ld fl 4 c (ds.headD 0) pre.length a=sgC c mi:=by rw[wrC,hf,hcr];rfl
     have e2:wrT f cr n 4 pre.length=false:=by rw[wrT,hf,hcr];rfl
     have e3:ssZ c dr' mi=sgC c mi:=by
      rw[hss,sg_eq h6];rcases h6 with rfl | rfl | rfl<;>rfl
     rw[e1,e2,ih,ih,←e3];rfl
    ·rw[h4];have e1:wrC f cr n mi ld fl 5 c (ds.headD 0) pre.length a=c:=by rw[wrC,hf,hcr];rfl
     have e2:wrT f cr n 5 pre.length=false:=by rw[wrT,hf,hcr];rfl
     have e3:ssZ c dr' mi=c:=by rw[hss,h6];rfl
     rw[e1,e2,ih,ih];show c::_=(ssZ c dr' mi::_)
     rw[e3];rfl
theorem mk_99a{d:Int}(hd:d≠0)(h4:d∈ [36,83,43,(45:Int)]):∀r:J,d∈r→99∈mkGo d true r
 | c::r,h=>by
  rw[mkGo];have hs:∀y:Bool,mkGo d (true || y) r=mkGo d true r:=fun y=>by rw[Bool.true_or]
  rw[hs];rcases List.mem_cons.1 h with e | h
  ·subst e
   have:mk1 d true d=99:=by
    have:d=36∨d=83∨d=43∨d=45:=by simpa using h4
    rcases this with rfl | rfl | rfl | rfl<;>rfl
   rw[this];exact List.mem_cons_self
  ·exact List.mem_cons_of_mem _ (mk_99a hd h4 r h)
theorem mk_99{d:Int}(hd:d≠0)(h4:d∈ [36,83,43,(45:Int)]):∀(r:J)(seen:Bool),¬(cntZ r d:Int)<2→99∈mkGo d seen r
 | [],_,h=>by simp[cntZ]at h
 | c::r,seen,h=>by
  rw[mkGo];rw[jdk]at h;by_cases e:c=d
  ·subst e;rw[if_pos rfl]at h
   have hs:(seen || (c !=0&&c==c))=true:=by
    have:(c !=0)=true:=by simpa using hd
    rw[this];simp
   rw[hs];refine List.mem_cons_of_mem _ (mk_99a hd h4 r ?_);have:(cntZ r c:Int)>0:=by omega
   exact jbm.1 (cnt_has.symm.trans (jaa this))
  ·rw[if_neg e]at h;exact List.mem_cons_of_mem _ (mk_99 hd h4 r _ (by omega))
theorem wr_2(f n:Int)(mi:Bool)(ld fl x y:Int)(ds:J)(i a:Int):∃D,wrGo f true n mi ld fl [4,4] [x,y] ds i a=[wrC f true n mi ld fl 4 x (ds.headD 0) i a,wrC f true n mi ld fl 4 y D (i+1) (a+1)]:=⟨_,rfl⟩
theorem fd_2(le fl dr:Int)(mi:Bool)(x y:Int)(ds:J)(a:Int):fdGo le fl dr mi [115,115] [x,y] ds a=[ssZ x dr mi,ssZ y dr mi]:=rfl
theorem ji4(c:Int):∀k:Nat,repZ [c] k=rep1 c k
 | 0=>rfl
 | k+1=>by rw[repZ,ji4 c k];rfl
theorem dr_facts{s:J}(h:NumP s):(drZ (jan s)≠0→fdDr s=drZ (jan s)∧fdFl s=32)∧(drZ (jan s)=0→fdDr s=0):=by
 have e:=dr_body s;constructor
 ·intro hd;have hld:=h.ld;unfold jdp at hld
  have h1:((hasZ (jan s) 90 || hasZ (jan s) 42) &&drZ (jan s) !=0)=false:=by
   revert hld;cases hasZ (jan s) 90&&hasZ (jan s) 42
   ·cases(hasZ (jan s) 90 || hasZ (jan s) 42) &&drZ (jan s) !=0
    ·exact fun _=>rfl
    ·intro q;cases q
   ·intro q;cases q
  have hdn:(drZ (jan s) !=0)=true:=by simpa using hd
  rw[hdn,Bool.and_true,Bool.or_eq_false_iff]at h1;obtain⟨t,ht,hc⟩:=jez s
  have ha:∀c:Int,(c=90∨c=42)→hasZ (jan s) c=false→hasZ s c=false:=fun c h0 h1=>by
   have:hasZ s c=hasZ (jan s++t) c:=congrArg (hasZ · c) ht;rw[this];unfold hasZ at h1 ⊢;rw[List.any_append,h1,Bool.false_or];rcases hc with⟨rfl,_⟩ | ⟨rfl | rfl,_⟩ <;>rcases h0 with rfl | rfl<;>rfl
  have a1:=ha 90 (.inl rfl) h1.1;have a2:=ha 42 (.inr rfl) h1.2;obtain⟨f1,f2⟩:=(jgk (jan s) (jan s)).resolve_left hd;obtain⟨f3,f4⟩:=jgu f1
  have h9:hasZ (jas s) 99=true:=jbm.2 (by
   unfold jas;exact List.mem_append_left _ (mk_99 hd f3 _ _ f4))
  rw[fdDr,fdFl,a1,a2,h9,e];exact⟨rfl,rfl⟩
 ·intro hd;rw[fdDr,e,hd];cases !hasZ s 90&& (!hasZ s 42&&hasZ (jas s) 99) <;>rfl
theorem fdLe_nn{sp:J}{w:Int}{k:Nat}{n:Int}(hw:0≤w):0≤fdLe sp w k n:=by
 rw[fdLe,endZ];have:=(jlc (jas sp) (digZ n.natAbs k) 0).1;cases !hasZ (jas sp) 99
 ·cases !hasZ (jas sp) 100&&decide (digZ n.natAbs k=rep1 48 k)
  ·exact this
  ·exact hw
 ·exact Int.le_refl 0
theorem out_law{l:J}(h:pN l=true)(ds:J)(ld:Int)(mi:Bool):
  wrGo (nD (jan (pS l))).2.2 (crZ (pS l)) (pS l).length mi ld (fdFl (pS l)) (rolF (pS l)) (pS l) ds 0 0=fdGo ld (fdFl (pS l)) (fdDr (pS l)) mi (jas (pS l)) (pS l) ds 0:=by
 obtain⟨h1,h2,h3⟩:=jgd h;have hv:=jdf h;have hS:pS l=exZ l:=by rw[pS,if_pos hv]
 have hnp:NumP (pS l):=by rw[hS];exact jhy h
 obtain⟨d1,d2⟩:=dr_facts hnp;obtain⟨t,ht,hc⟩:=jez (pS l);have hP:=h1.drP
 have hfl:(nD (jan (pS l))).2.2<(jan (pS l)).length:=by
  rcases hP.at_ with⟨_,q⟩ | ⟨_,q1,q2,_⟩
  ·rw[q];omega
  ·rw[q2];exact(jf3 _ q1).2
 have hdr':fdDr (pS l)≠67∧fdDr (pS l)≠82∧fdDr (pS l)≠68∧fdDr (pS l)≠66:=by
  by_cases q:drZ (jan (pS l))=0
  ·rw[d2 q];decide
  ·rw[(d1 q).1];rcases hP.at_ with⟨q1,_⟩ | ⟨_,_,_,q4⟩
   ·exact absurd q1 q
   ·have:drZ (jan (pS l))=36∨drZ (jan (pS l))=83∨drZ (jan (pS l))=43∨drZ (jan (pS l))=45:=by simpa using q4
    omega
 have hlen:((pS l).length:Int)=(jan (pS l)).length+(bif crZ (pS l)then 2 else 0):=by
  have:=congrArg List.length ht;rw[List.length_append]at this;rcases hc with⟨rfl,hc⟩ | ⟨rfl | rfl,hc⟩ <;>rw[hc] <;>simp at this ⊢ <;>omega
 have hrol:rolF (pS l)=jbo (drZ (jan (pS l))) (nD (jan (pS l))).2.2 (jan (pS l)) 0++(bif crZ (pS l)then [4,4]else []):=by
  rw[rolF,nR,h1.d]
 have hmk:jas (pS l)=(jbo (drZ (jan (pS l))) (nD (jan (pS l))).2.2 (jan (pS l)) 0).map rmk++(bif crZ (pS l)then [115,115]else []):=by
  rw[←h3,hrol,List.map_append];congr 1;cases crZ (pS l) <;>rfl
 have key:=wr_body (t:=t) (n:=(pS l).length) (ld:=ld) (mi:=mi) hP d1 d2 hlen (jan (pS l)) [] ds 0 (fun _ _ _=> []) (bif crZ (pS l)then [4,4]else []) (bif crZ (pS l)then [115,115]else []) rfl
 have key:=key fun ds a=>by
  rcases hc with⟨rfl,hc⟩ | ⟨ht',hc⟩
  ·rw[hc];rfl
  ·rw[hc]at hlen;simp only[cond_true]at hlen;have f1:(((jan (pS l)).length:Int)==(nD (jan (pS l))).2.2)=false:=by simp;omega
   have f2:(((jan (pS l)).length:Int)+1==(nD (jan (pS l))).2.2)=false:=by simp;omega
   have g1:(true&&decide (((jan (pS l)).length:Int)≥((pS l).length:Int)-2))=true:=by simp;omega
   have g2:(true&&decide (((jan (pS l)).length:Int)+1≥((pS l).length:Int)-2))=true:=by simp;omega
   have ss:∀c:Int,c=67∨c=82∨c=68∨c=66→ssZ c (fdDr (pS l)) mi=bif !mi then 32 else c:=fun c hcc=>by
    have:(fdDr (pS l) !=0&&c==fdDr (pS l))=false:=by
     have:(c==fdDr (pS l))=false:=by simp;omega
     rw[this,Bool.and_false]
    rw[ssZ,this];have h5:hasZ [67,82,68,66] c=true:=by rcases hcc with rfl | rfl | rfl | rfl<;>rfl
    rw[h5];cases mi<;>rfl
   have wc:∀(r c d a:Int)(i:Int),(i==(nD (jan (pS l))).2.2)=false→(true&&decide (i≥((pS l).length:Int)-2))=true→wrC (nD (jan (pS l))).2.2 true (pS l).length mi ld (fdFl (pS l)) r c d i a=bif !mi then 32 else c:=fun r c d a i q1 q2=>by
    rw[wrC,q1,q2];rfl
   rw[hc];simp only[cond_true];rcases ht' with rfl | rfl
   ·obtain⟨D,e⟩:=wr_2 (nD (jan (pS l))).2.2 (pS l).length mi ld (fdFl (pS l)) 67 82 ds (jan (pS l)).length a;rw[e,fd_2,wc _ _ _ _ _ f1 g1,wc _ _ _ _ _ f2 g2,ss 67 (by decide),ss 82 (by decide)]
   ·obtain⟨D,e⟩:=wr_2 (nD (jan (pS l))).2.2 (pS l).length mi ld (fdFl (pS l)) 68 66 ds (jan (pS l)).length a;rw[e,fd_2,wc _ _ _ _ _ f1 g1,wc _ _ _ _ _ f2 g2,ss 68 (by decide),ss 66 (by decide)]
 rw[hrol,hmk];have e0:((([]:J).length:Nat):Int)=0:=rfl;rw[e0,←ht]at key;exact key
theorem wr_law{l:J}(hl:IsB (pS l)∧(pS l).length≤32)(h:pN l=true){n:Int}(hn:(n.natAbs:Int)<tenZ (pD l).toNat):
  wrV (pS l) (pW l) (nD (jan (pS l))).2.2 (crZ (pS l)) (drZ (jan (pS l))) (fdFl (pS l)) (cntZ (mkGo (drZ (jan (pS l))) false (jan (pS l))) 100) (rolF (pS l)) (digZ n.natAbs (pD l).toNat) (decide (n<0))=
   (jdn (pS l) (pW l) (pD l).toNat n,fdLe (pS l) (pW l) (pD l).toNat n):=by
 obtain⟨e1,e2⟩:=en_law hl h hn;obtain⟨_,_,_,p4,_,p6⟩:=jjz hl h n;have hv:=jdf h;have hS:pS l=exZ l:=by rw[pS,if_pos hv]
 have hnp:NumP (pS l):=by rw[hS];exact jhy h
 obtain⟨d1,d2⟩:=dr_facts hnp;have hP:=(jgd h).1.drP;rw[wrV,e1,jdn];cases hb:fdBl (pS l) (pW l) (pD l).toNat n with
 | true=>
  rw[e2 hb,←ji4];rfl
 | false=>
  simp only[cond_false];have h0:decide (fdLe (pS l) (pW l) (pD l).toNat n<0)=false:=jad (by have:= @fdLe_nn (pS l) (pW l) (pD l).toNat n p4;omega);rw[h0,cond_false,out_law h];rw[fdOK,hb,Bool.false_or]at p6;by_cases q:drZ (jan (pS l))=0
  ·have q1:=d2 q;have hO:jf0 (pS l) (pW l) (pD l).toNat n=fdGo (fdLe (pS l) (pW l) (pD l).toNat n) (fdFl (pS l)) 0 (decide (n<0)) (jas (pS l)) (pS l) (digZ n.natAbs (pD l).toNat) 0:=by rw[jf0,q1]
   rw[q,q1,hO];have z:((0:Int) !=0)=false:=rfl;rw[z,Bool.false_and];rfl
  ·have q1:=(d1 q).1;rw[q1]at p6 ⊢;have hq:(drZ (jan (pS l)) !=0)=true:=by simpa using q
   have hq2:(drZ (jan (pS l))==0)=false:=by simpa using q
   rw[hq2,Bool.false_or,jae]at p6;have h1:decide (fdLe (pS l) (pW l) (pD l).toNat n>0)=true:=jaa (by omega);rw[hq,h1]
   have hs:(bif drZ (jan (pS l))==36 then 36 else sgC (drZ (jan (pS l))) (decide (n<0)))=sgZ (drZ (jan (pS l))) (decide (n<0)):=by
    rcases hP.at_ with⟨z,_⟩ | ⟨_,_,_,q4⟩
    ·exact absurd z q
    ·have:drZ (jan (pS l))=36∨drZ (jan (pS l))=83∨drZ (jan (pS l))=43∨drZ (jan (pS l))=45:=by simpa using q4
     rcases this with e | e | e | e<;>rw[e] <;>cases decide (n<0) <;>rfl
   rw[hs];have:jf0 (pS l) (pW l) (pD l).toNat n=fdGo (fdLe (pS l) (pW l) (pD l).toNat n) (fdFl (pS l)) (drZ (jan (pS l))) (decide (n<0)) (jas (pS l)) (pS l) (digZ n.natAbs (pD l).toNat) 0:=by rw[jf0,q1]
   rw[this];rfl
end Go.Px
end
noncomputable section
set_option maxHeartbeats 3200000
namespace Go.Px
open Go Go.Ab Go.Proofs Go.Shelf
theorem cuN_lt(n q sc d:Int)(sg:Bool):((cuN n q sc d sg).natAbs:Int)<tenZ d.toNat:=by
 have hm:=Int.emod_nonneg (cuM n q sc) (b:=tenZ d.toNat) (by have:=jc6 d.toNat;omega);have hl:=Int.emod_lt_of_pos (cuM n q sc) (jc6 d.toNat);unfold cuN cuV;split<;>omega
theorem jk0{s:Y}(h:pN (bz s)=true){k cap:Nat}{d:E}(hR:jbw d k cap=true)(hz:zc d k=rolF (pS (bz s))){m:Int}(hm:(m.natAbs:Int)<tenZ (pD (bz s)).toNat):
  w64C (sz (pS (bz s))) (sz (digZ m.natAbs (pD (bz s)).toNat)) k cap (pW (bz s)) (fdFl (pS (bz s))) d=true∧
  wrV (bz (sz (pS (bz s)))) (pW (bz s)) (nD (jan (pS (bz s)))).2.2 (crZ (pS (bz s))) (drZ (jan (pS (bz s)))) (fdFl (pS (bz s))) (cntZ (mkGo (drZ (jan (pS (bz s)))) false (jan (pS (bz s)))) 100) (zc d k) (bz (sz (digZ m.natAbs (pD (bz s)).toNat))) (decide (m<0))=
   (jdn (pS (bz s)) (pW (bz s)) (pD (bz s)).toNat m,fdLe (pS (bz s)) (pW (bz s)) (pD (bz s)).toNat m):=by
 have hl:=jfb s;have hr:=jax.1 hR;have hk:k=(pS (bz s)).length:=by rw[←rol_len h,←hz,jbn hr]
 have b1:bz (sz (pS (bz s)))=pS (bz s):=jcy hl.1;have hdd:=jfj (pD (bz s)).toNat m.natAbs;have b2:bz (sz (digZ m.natAbs (pD (bz s)).toNat))=digZ m.natAbs (pD (bz s)).toNat:=jcy (jg5 hdd);have z1:(sz (pS (bz s))).size=(pS (bz s)).length:=by rw[←jal,b1]
 have z2:(sz (digZ m.natAbs (pD (bz s)).toNat)).size=(pD (bz s)).toNat:=by rw[←jal,b2,jds]
 obtain⟨f1,_,f3,_⟩:=jhx hl h;have hp:=je1 h;have hw:=jjz hl h 0;refine⟨?_,by rw[b1,b2,hz];exact wr_law hl h hm⟩;simp only[w64C,jaf,jae];rw[hz,b2,z1,z2,f3];refine⟨hR,?_,hdd,⟨by omega,by omega,by omega,by omega,hw.2.2.2.1,by omega⟩,by omega,?_⟩
 ·simp only[roOK,List.all_eq_true,jae];exact fun r hr=>by have:=f1 r hr;omega
 ·unfold fdFl;split
  ·exact .inr rfl
  ·exact .inl rfl
def s20(n:Int)(q:Int)(s:Y):Bool×Value:=(decide (s.size≤9223372036854775807∧ -9223372036854775808≤n∧n≤9223372036854775807),.tuple ⟨[.string (sz (edS (bz s) n q)),.bool (edF (bz s) n q),.int .i64 (edE (bz s) q)]⟩)
theorem fn20:Fn1 Tryz.prog 171 Tryz.f171:= .m Tryz.func171
def pl(d e:Y)(a:E)(b c:Nat):Bool:=jbw a b c&& (roOK (zc a b) && (dgL (bz d) &&decide ((b≤1000∧d.size≤1000∧b≤(fp e).size∧(fp e).size≤1000∧0≤pW (bz e)∧pW (bz e)≤1000)∧cdg (zc a b)≤am d∧(fdFl (pS (bz e))=32∨fdFl (pS (bz e))=42))))
def o3(d e:Y)(a:E)(b c:Nat)(f:Prop):Prop:=bif pl d e a b c then f else False
def lu(e:Bool)(a d:Y)(b:E)(c:Nat):Prod J Int:=wrV (bz (fp a)) (pW (bz a)) (nD (jan (pS (bz a)))).snd.snd (crZ (pS (bz a))) (drZ (jan (pS (bz a)))) (fdFl (pS (bz a))) (cntZ (mkGo (drZ (jan (pS (bz a)))) false (jan (pS (bz a)))) 100:Int) (zc b c) (bz d) e
theorem v20(n:Int)(q:Int)(s:Y)(R:Value→Prop):jaz Tryz.prog G37 noL Tryz.f171 [Enc.enc n,Enc.enc q,Enc.enc s] (fun _=>none) 0 (fun v _ _=>R v)=(d4 (pN (bz s)) s (∀a:Nat,∀b:Nat,∀c:E,jbw c a b=true→zc c a=rolF (pS (bz s))→bw (d7 q) true (d7 q || decide (q>9)) (m5 1 R) (bif i64B n&& (d8 0 q 9&& (d8 0 (pQ (bz s)) 9&&d8 0 (pD (bz s)) 9))then o3 (lq (mh s n q) (pD (bz s))) s c a b (∀d:Y,∀e:Int,sz (lu (b8 (mh s n q) 0) s (lq (mh s n q) (pD (bz s))) c a).fst=d→(lu (b8 (mh s n q) 0) s (lq (mh s n q) (pD (bz s))) c a).snd=e→R (co [B (Px.cuF n q (pQ (bz s)) (pD (bz s)) (pG (bz s))),ak 0] (S d)))else False)) (m5 30 R)):=by kernel_rfl
theorem ok20:jam Tryz.prog 171 (sp3 s20):=by
 refine jgf ok_G37 hmix fn20 jak jag fun n q s hc=> ?_
 rw[ja0,v20];delta av b7 d4 co ao cu ak m5 bw am fp pl o3 lu lq mh b8 d8 d7;have hc:(s.size≤9223372036854775807∧ -9223372036854775808≤n∧n≤9223372036854775807):=jab hc
 try dsimp only[s20]
 refine c_t (jaa hc.1) (cond_intro (fun h=> ?_) (fun h=> ?_))
 ·intro k cap d hR hz;refine c_t (by simp) (cond_intro (fun hq=> ?_) (fun hq=> ?_))
  ·have hq:q<0∨q>9:=by simpa using hq
   have h1:¬(0≤q∧q≤9):=by omega
   rw[edS,edF,edE,if_neg (fun e=>h1 ⟨e.2.1,e.2.2⟩),if_neg (fun e=>h1 ⟨e.2.1,e.2.2⟩),if_pos h,if_neg h1,jf1]
  ·have hq:0≤q∧q≤9:=by
    simp only[Bool.or_eq_false_iff,decide_eq_false_iff_not]at hq;omega
   have hp:=je1 h;obtain⟨g1,g2⟩:=jk0 h hR hz (cuN_lt n q (pQ (bz s)) (pD (bz s)) (pG (bz s)));refine c_t (by simp only[i64B,jaf,jae];omega) (c_t g1 fun t l h1 h2=> ?_);rw[g2]at h1 h2;rw[edS,edF,edE,if_pos ⟨h,hq⟩,if_pos ⟨h,hq⟩,if_pos h,if_pos hq,←h1]
 ·have h1:¬pN (bz s)=true:=by rw[h];simp
  rw[edS,edF,edE,if_neg (fun e=>h1 e.1),if_neg (fun e=>h1 e.1),if_neg h1,jf1]
theorem unK_dig{c:Int}(h1:c≥48)(h2:c≤57):unK c=false:=by
 cases h:unK c with
 | false=>rfl
 | true=>
  have:=jbm.1 h;simp only[punchedZ,List.mem_cons,List.not_mem_nil,or_false]at this;omega
def gsGo:J→J→J
 | [],_=> []
 | r::rs,cs=>bif r==2 then gsGo rs cs else bif r !=0&&r !=1 then gsGo rs cs.tail else(48+rdD (cs.headD 0))::gsGo rs cs.tail
def V67_0:Y×Y×Rw×Int×Nat×Nat×Int×Int×E→E:=fun(t,r4,o,aa,k2,cap2,L,i,d)=> [.string t,.string r4,o.v 200,.int .i64 aa,.slice (some ⟨1,0,some 1⟩) k2 cap2,.int .i64 L,.int .i64 i]
def B67_0:Y×Y×Rw×Int×Nat×Nat×Int×Int×E→O:=fun(t,r4,o,aa,k2,cap2,L,i,d)=> [some ⟨d,251,false⟩,o.b]
def S67_0:LSpecA (Y×Y×Rw×Int×Nat×Nat×Int×Int×E) where
 live:=[1,4,5,6,16,17,18]
 mid:=[1,200]
 n:=210
 ap:=[(.tmp 5,200)]
 dec vs bs:=match vs,bs with | [.string t,.string r4,.slice none 0 0,.int .i64 aa,.slice (some ⟨1,0,some 1⟩) k2 cap2,.int .i64 L,.int .i64 i],[some ⟨d,251,false⟩,none]=>some (t,r4,.nil,aa,k2,cap2,L,i,d) | [.string t,.string r4,.slice (some ⟨200,0,some 1⟩) om oc,.int .i64 aa,.slice (some ⟨1,0,some 1⟩) k2 cap2,.int .i64 L,.int .i64 i],[some ⟨d,251,false⟩,some ⟨od,5,true⟩]=>some (t,r4,.own od om oc,aa,k2,cap2,L,i,d) | _,_=>none
 pre:=fun(t,r4,o,aa,k2,cap2,L,i,d)=>o.ok&& (jbw d k2 cap2&&decide (0≤i∧i≤k2∧k2≤1000∧L=k2∧0≤aa∧aa≤i∧aa+cN ((zc d k2).drop i.toNat)≤t.size∧o.z.length≤i))
 fin:=fun(t,r4,o,aa,k2,cap2,L,i,d) Z=>(o.is=false→gsGo ((zc d k2).drop i.toNat) ((bz t).drop aa.toNat)=[]→ ∀a' i',Z (.exit 0) [.string t,.string r4,.slice none 0 0,.int .i64 a',.slice (some ⟨1,0,some 1⟩) k2 cap2,.int .i64 L,.int .i64 i'] [some ⟨d,251,false⟩,none])∧(∀a' i' od' om' oc',jcm od' om' oc'=true→zc od' om'=o.z++gsGo ((zc d k2).drop i.toNat) ((bz t).drop aa.toNat)→Z (.exit 0) [.string t,.string r4,.slice (some ⟨200,0,some 1⟩) om' oc',.int .i64 a',.slice (some ⟨1,0,some 1⟩) k2 cap2,.int .i64 L,.int .i64 i'] [some ⟨d,251,false⟩,some ⟨od',5,true⟩])
def nf(e f:Y)(d:Exit→E→O→Prop)(l m:Int)(a b:E)(c g h j k:Nat)(i:Value):Prop:=bm (kf [] a b c 200&&true) d [iw [(c,200)] a,e8 [(c,200)] b] (.string e:: .string f::bv 200 g h::i::fk l m 1 j k)
theorem r67_0n(t:Y)(r4:Y)(aa:Int)(k2:Nat)(cap2:Nat)(L:Int)(i:Int)(d:E)(jk:Tmps)(R:Exit→E→O→Prop):(jbp Tryz.prog G37 noL Tryz.f205.ntmps (ja6 Tryz.f205 0) (tl S67_0.live (V67_0 (t,r4,.nil,aa,k2,cap2,L,i,d)) jk) (ml S67_0.mid (B67_0 (t,r4,.nil,aa,k2,cap2,L,i,d))) S67_0.n fun e t' m' _=>S67_0.out R e t' m')=(ja (ic d) R i L .i64 [none] d (jt::ak aa::bv 1 k2 cap2::az L i) k2 0 (iw [] d) (bif fw i d==2 then bm (ic d) R [iw [] d,none] (bk t (jt::ak aa::fk L i 1 k2 cap2) (S r4))else bif bq t aa then bw (fw i d !=0) true (fw i d !=0&&fw i d !=1) (bm (ic d) R [iw [] d,none] (bk t (jt::bu aa::fk L i 1 k2 cap2) (S r4))) (bif gx (ax t aa) 48 then bif ft (ax t aa) 48 57 then∀a:Nat,∀b:E,dv b a 1→nf t r4 R L i d (.int .u8 (ax t aa)::b) 248 1 a k2 cap2 (bu aa)else bif unK (ax t aa)then∀a:Nat,∀b:E,dv b a 1→nf t r4 R L i d (.int .u8 (aw (48+IntKind.u8.wrap (unD (ax t aa))) .u8)::b) 252 1 a k2 cap2 (bu aa)else∀a:Nat,∀b:E,dv b a 1→nf t r4 R L i d (al 48::b) 249 1 a k2 cap2 (bu aa)else False)else False) (S t) (S r4)):=by kernel_rfl
def qk(f g:Y)(h:Exit→E→O→Prop)(i j p:Int)(c k:E)(d e m n o:Nat)(l:Value):Prop:=bif ie c d e 1 then∀a:Nat,∀b:E,dv b a (e+1)→nf f g h i j k (e7 c e++ [l]++b) m (e+1) a n o (bu p)else False
theorem r67_0o(t:Y)(r4:Y)(od:E)(om:Nat)(oc:Nat)(aa:Int)(k2:Nat)(cap2:Nat)(L:Int)(i:Int)(d:E)(jk:Tmps)(R:Exit→E→O→Prop):(jbp Tryz.prog G37 noL Tryz.f205.ntmps (ja6 Tryz.f205 0) (tl S67_0.live (V67_0 (t,r4,(.own od om oc),aa,k2,cap2,L,i,d)) jk) (ml S67_0.mid (B67_0 (t,r4,(.own od om oc),aa,k2,cap2,L,i,d))) S67_0.n fun e t' m' _=>S67_0.out R e t' m')=(ja (kf [] d od 200 200&&true) R i L .i64 [e8 ij od] d (bv 200 om oc::ak aa::bv 1 k2 cap2::az L i) k2 0 (iw ij d) (bif fw i d==2 then nf t r4 R L i d od 200 om oc k2 cap2 (ak aa)else bif bq t aa then bw (fw i d !=0) true (fw i d !=0&&fw i d !=1) (nf t r4 R L i d od 200 om oc k2 cap2 (bu aa)) (bif gx (ax t aa) 48 then bif ft (ax t aa) 48 57 then qk t r4 R L i aa od d oc om 248 k2 cap2 (.int .u8 (ax t aa))else bif unK (ax t aa)then qk t r4 R L i aa od d oc om 252 k2 cap2 (.int .u8 (aw (48+IntKind.u8.wrap (unD (ax t aa))) .u8))else qk t r4 R L i aa od d oc om 249 k2 cap2 (al 48)else False)else False) (S t) (S r4)):=by kernel_rfl
theorem l67_0:LOKf Tryz.prog (oneL 0 S67_0.hA) Tryz.f205:=by
 refine jbe (h:=S67_0.hA) (by kernel_rfl) (jbv ok_G37 hmix (by kernel_rfl) (ja1 _) S67_0 V67_0 B67_0 (fun(t,r4,o,aa,k2,cap2,L,i,d)=>(k2-i).toNat) ?_ ?_ ?_)
 ·intro vs bs s h;simp only[S67_0]at h;split at h
  all_goals first | (cases h;exact⟨rfl,rfl⟩) | cases h | (split at h<;>first | (rename_i hq;cases h;have hq:=jah hq;subst hq;exact⟨rfl,rfl⟩) | cases h)
 ·exact fun⟨t,r4,o,aa,k2,cap2,L,i,d⟩ hp=>by
   simp only[S67_0,jaf]at hp;have hr:=jax.1 hp.2.1;cases o with
   | nil=>simp[V67_0,B67_0,S67_0,ja3,jb2,idsL,ids,Rw.v,Rw.b,jaq hr.plain]
   | own od om oc=>simp[V67_0,B67_0,S67_0,ja3,jb2,idsL,ids,Rw.v,Rw.b,jaq hr.plain,jaq (jat.1 hp.1).plain]
 ·intro⟨t,r4,o,aa,k2,cap2,L,i,d⟩ jk Z hp hf;simp only[S67_0]at hp hf;cases o with
  | nil=>
   rw[r67_0n];delta fv av b6 gz gy ct ja bw bm au bu bp ak cq bv fk e8 iw kf nf al dv aw ax e9 ft gx bk jt ic fw am bq az;simp only[jaf,jae]at hp;obtain⟨-,hR,hp⟩:=hp;have hr:=jax.1 hR;simp only[Rw.z,List.length_nil]at hp hf;have e0:0+i.toNat*1=i.toNat:=by omega
   rw[e0];apply cond_intro<;>intro h
   ·have h:=jab h;obtain⟨a1,a3⟩:=hr.at hp.1 (by omega);rw[a3,gsGo]at hf;rw[a3,cN]at hp;have hc:=cN_nn ((zc d k2).drop (i+1).toNat);rw[a1,w64 (n:=i+1) (by omega),w64 (n:=aa+1) (by omega)];generalize jau d i.toNat=r at*;refine c_t (jaa (by omega)) (c_t rfl (cond_intro (fun q=> ?_) (fun q=> ?_)))
    ·rw[q,cond_true]at hf hp;refine c_t (by rw[hr.good];rfl) ?_;rw[hr.rlb];exact⟨(t,r4,.nil,aa,k2,cap2,L,i+1,d),rfl,rfl,by simp only[S67_0,jaf,jae];exact⟨rfl,hR,by simp only[Rw.z,List.length_nil];omega⟩,by simp only;omega,hf⟩
    ·rw[q,cond_false]at hf hp;obtain⟨p1,p2,p3,p4,p5,p6,p7,p8⟩:=hp;rw[jb4 p5 (by omega),List.headD_cons,List.tail_cons]at hf;have hB:=jfw t aa.toNat;generalize jaj t aa.toNat=c at*;have hu:0≤unD c∧unD c≤9:=by unfold unD;split<;>omega
     rw[w8 (n:=unD c) (by omega),w8 (n:=48+unD c) (by omega)];refine c_t (jaa (by omega)) (c_t (by simp) (cond_intro (fun q2=> ?_) (fun q2=>c_t (by simp) (cond_intro (fun q3=> ?_) (fun q3=>cond_intro (fun q4=> ?_) (fun q4=> ?_))))))
     ·rw[q2,cond_true]at hf;refine c_t (by rw[hr.good];rfl) ?_;rw[hr.rlb];exact⟨(t,r4,.nil,aa+1,k2,cap2,L,i+1,d),rfl,rfl,by simp only[S67_0,jaf,jae];exact⟨rfl,hR,by simp only[Rw.z,List.length_nil];omega⟩,by simp only;omega,hf⟩
     ·rw[q2,cond_false]at hf;intro cap1 tail ht;obtain⟨h1,h2⟩:RowP (Value.int IntKind.u8 (c)::tail) 1 cap1∧zc (Value.int IntKind.u8 (c)::tail) 1=[c]:=jgo [c] ht;have hl1:=jba h1;generalize Value.int IntKind.u8 (c)::tail=od' at*
      have e:48+rdD c=c:=by
       have q:=q3;simp only[jaf,jae]at q;unfold rdD;rw[unK_dig q.1 q.2,q3];simp only[cond_true,cond_false];omega
      rw[e]at hf;refine c_t (by rw[hr.good,h1.good];rfl) ?_;rw[hr.rlb,h1.rlb];exact⟨(t,r4,.own od' (1) cap1,aa+1,k2,cap2,L,i+1,d),rfl,rfl,by simp only[S67_0,jaf,jae];exact⟨jat.2 h1,hR,by simp only[Rw.z,hl1];omega⟩,by simp only;omega,⟨fun q=>(by cases q),fun a' i' od'' om'' oc'' g1 g2=>hf.2 a' i' od'' om'' oc'' g1 (by rw[g2];simp only[Rw.z,h2,List.append_assoc,List.cons_append,List.nil_append])⟩⟩
     ·rw[q2,cond_false]at hf;intro cap1 tail ht;obtain⟨h1,h2⟩:RowP (Value.int IntKind.u8 (48+unD c)::tail) 1 cap1∧zc (Value.int IntKind.u8 (48+unD c)::tail) 1=[48+unD c]:=jgo [48+unD c] ht;have hl1:=jba h1;generalize Value.int IntKind.u8 (48+unD c)::tail=od' at*
      have e:48+rdD c=48+unD c:=by
       unfold rdD;rw[q4];rfl
      rw[e]at hf;refine c_t (by rw[hr.good,h1.good];rfl) ?_;rw[hr.rlb,h1.rlb];exact⟨(t,r4,.own od' (1) cap1,aa+1,k2,cap2,L,i+1,d),rfl,rfl,by simp only[S67_0,jaf,jae];exact⟨jat.2 h1,hR,by simp only[Rw.z,hl1];omega⟩,by simp only;omega,⟨fun q=>(by cases q),fun a' i' od'' om'' oc'' g1 g2=>hf.2 a' i' od'' om'' oc'' g1 (by rw[g2];simp only[Rw.z,h2,List.append_assoc,List.cons_append,List.nil_append])⟩⟩
     ·rw[q2,cond_false]at hf;intro cap1 tail ht;obtain⟨h1,h2⟩:RowP (Value.int IntKind.u8 (48)::tail) 1 cap1∧zc (Value.int IntKind.u8 (48)::tail) 1=[48]:=jgo [48] ht;have hl1:=jba h1;generalize Value.int IntKind.u8 (48)::tail=od' at*
      have e:48+rdD c=48:=by
       unfold rdD;rw[q4,q3];rfl
      rw[e]at hf;refine c_t (by rw[hr.good,h1.good];rfl) ?_;rw[hr.rlb,h1.rlb];exact⟨(t,r4,.own od' (1) cap1,aa+1,k2,cap2,L,i+1,d),rfl,rfl,by simp only[S67_0,jaf,jae];exact⟨jat.2 h1,hR,by simp only[Rw.z,hl1];omega⟩,by simp only;omega,⟨fun q=>(by cases q),fun a' i' od'' om'' oc'' g1 g2=>hf.2 a' i' od'' om'' oc'' g1 (by rw[g2];simp only[Rw.z,h2,List.append_assoc,List.cons_append,List.nil_append])⟩⟩
   ·have h:=jac h;rw[hr.end (by omega),gsGo]at hf;refine c_t (by rw[hr.good];rfl) ?_;rw[hr.rlb];exact hf.1 rfl rfl aa i
  | own od om oc=>
   rw[r67_0o];delta fv av b6 gz gy ct ja bw bm au bu bp ak cq bv fk e8 iw kf nf e7 dv jh ie qk al aw ax e9 ft gx fw am bq ij az;simp only[jaf,jae]at hp;obtain⟨ho,hR,hp⟩:=hp;have hr:=jax.1 hR;have ho:=jat.1 ho;have hzl:=jba ho;simp only[Rw.z,hzl]at hp hf;have e0:0+i.toNat*1=i.toNat:=by omega
   rw[e0];apply cond_intro<;>intro h
   ·have h:=jab h;obtain⟨a1,a3⟩:=hr.at hp.1 (by omega);rw[a3,gsGo]at hf;rw[a3,cN]at hp;have hc:=cN_nn ((zc d k2).drop (i+1).toNat);rw[a1,w64 (n:=i+1) (by omega),w64 (n:=aa+1) (by omega)];generalize jau d i.toNat=r at*;refine c_t (jaa (by omega)) (c_t rfl (cond_intro (fun q=> ?_) (fun q=> ?_)))
    ·rw[q,cond_true]at hf hp;refine c_t (by rw[hr.good,ho.good];rfl) ?_;rw[hr.rlb,ho.rlb];exact⟨(t,r4,.own od om oc,aa,k2,cap2,L,i+1,d),rfl,rfl,by simp only[S67_0,jaf,jae];exact⟨jat.2 ho,hR,by simp only[Rw.z,hzl];omega⟩,by simp only;omega,hf⟩
    ·rw[q,cond_false]at hf hp;obtain⟨p1,p2,p3,p4,p5,p6,p7,p8⟩:=hp;rw[jb4 p5 (by omega),List.headD_cons,List.tail_cons]at hf;have hB:=jfw t aa.toNat;generalize jaj t aa.toNat=c at*;have hu:0≤unD c∧unD c≤9:=by unfold unD;split<;>omega
     rw[w8 (n:=unD c) (by omega),w8 (n:=48+unD c) (by omega)];refine c_t (jaa (by omega)) (c_t (by simp) (cond_intro (fun q2=> ?_) (fun q2=>c_t (by simp) (cond_intro (fun q3=> ?_) (fun q3=>cond_intro (fun q4=> ?_) (fun q4=> ?_))))))
     ·rw[q2,cond_true]at hf;refine c_t (by rw[hr.good,ho.good];rfl) ?_;rw[hr.rlb,ho.rlb];exact⟨(t,r4,.own od om oc,aa+1,k2,cap2,L,i+1,d),rfl,rfl,by simp only[S67_0,jaf,jae];exact⟨jat.2 ho,hR,by simp only[Rw.z,hzl];omega⟩,by simp only;omega,hf⟩
     ·rw[q2,cond_false]at hf;refine c_t (ho.ask (k:=1) (by omega)) (fun cap1 tail ht=> ?_);obtain⟨h1,h2⟩:=ho.app1 (c) ht;have hl1:=jba h1;generalize List.take (om*1) od++ [Value.int IntKind.u8 (c)]++tail=od' at*
      have e:48+rdD c=c:=by
       have q:=q3;simp only[jaf,jae]at q;unfold rdD;rw[unK_dig q.1 q.2,q3];simp only[cond_true,cond_false];omega
      rw[e]at hf;refine c_t (by rw[hr.good,h1.good];rfl) ?_;rw[hr.rlb,h1.rlb];exact⟨(t,r4,.own od' (om+1) cap1,aa+1,k2,cap2,L,i+1,d),rfl,rfl,by simp only[S67_0,jaf,jae];exact⟨jat.2 h1,hR,by simp only[Rw.z,hl1];omega⟩,by simp only;omega,⟨fun q=>(by cases q),fun a' i' od'' om'' oc'' g1 g2=>hf.2 a' i' od'' om'' oc'' g1 (by rw[g2];simp only[Rw.z,h2,List.append_assoc,List.cons_append,List.nil_append])⟩⟩
     ·rw[q2,cond_false]at hf;refine c_t (ho.ask (k:=1) (by omega)) (fun cap1 tail ht=> ?_);obtain⟨h1,h2⟩:=ho.app1 (48+unD c) ht;have hl1:=jba h1;generalize List.take (om*1) od++ [Value.int IntKind.u8 (48+unD c)]++tail=od' at*
      have e:48+rdD c=48+unD c:=by
       unfold rdD;rw[q4];rfl
      rw[e]at hf;refine c_t (by rw[hr.good,h1.good];rfl) ?_;rw[hr.rlb,h1.rlb];exact⟨(t,r4,.own od' (om+1) cap1,aa+1,k2,cap2,L,i+1,d),rfl,rfl,by simp only[S67_0,jaf,jae];exact⟨jat.2 h1,hR,by simp only[Rw.z,hl1];omega⟩,by simp only;omega,⟨fun q=>(by cases q),fun a' i' od'' om'' oc'' g1 g2=>hf.2 a' i' od'' om'' oc'' g1 (by rw[g2];simp only[Rw.z,h2,List.append_assoc,List.cons_append,List.nil_append])⟩⟩
     ·rw[q2,cond_false]at hf;refine c_t (ho.ask (k:=1) (by omega)) (fun cap1 tail ht=> ?_);obtain⟨h1,h2⟩:=ho.app1 (48) ht;have hl1:=jba h1;generalize List.take (om*1) od++ [Value.int IntKind.u8 (48)]++tail=od' at*
      have e:48+rdD c=48:=by
       unfold rdD;rw[q4,q3];rfl
      rw[e]at hf;refine c_t (by rw[hr.good,h1.good];rfl) ?_;rw[hr.rlb,h1.rlb];exact⟨(t,r4,.own od' (om+1) cap1,aa+1,k2,cap2,L,i+1,d),rfl,rfl,by simp only[S67_0,jaf,jae];exact⟨jat.2 h1,hR,by simp only[Rw.z,hl1];omega⟩,by simp only;omega,⟨fun q=>(by cases q),fun a' i' od'' om'' oc'' g1 g2=>hf.2 a' i' od'' om'' oc'' g1 (by rw[g2];simp only[Rw.z,h2,List.append_assoc,List.cons_append,List.nil_append])⟩⟩
   ·have h:=jac h;rw[hr.end (by omega),gsGo]at hf;refine c_t (by rw[hr.good,ho.good];rfl) ?_;rw[hr.rlb,ho.rlb];exact hf.2 aa i od om oc (jat.2 ho) (by simp)
theorem v67(s:Y)(nb:Bool)(w:Int)(dg:Int)(sc:Int)(sg:Bool)(k:Nat)(cap:Nat)(dr:Int)(f:Int)(cr:Bool)(fl:Int)(fm:Int)(t:Y)(d:E)(R:Value→Prop):(jaz Tryz.prog G37 (oneL 0 S67_0.hA) Tryz.f205 [.pointer (some ⟨0,0,some 0⟩),S t] (vwF2 (fmL s nb w dg sc sg 1 k cap dr f cr fl fm) d) 2 (fun v _ _=>R v))=(bif jv [] d 210 then kz (S67_0.toLSpec.pre (t,(ao,(Rw.nil,((0:Int),(k,(cap,(natO k,((0:Int),rlbL [] d))))))))) (Rw.is Rw.nil=false→gsGo (ii 0 [] d k) (cl t)=([]:J)→Int→Int→km (rlbL [] d) 210 (R (S ByteArray.empty))) (Int→Int→(∀a:E,∀b:Nat,∀c:Nat,ly (gm a 210) (Rw.z Rw.nil) (gsGo (ii 0 [] d k) (cl t)) a (rlbL [] d) b c 210 R))else False):=by kernel_rfl
theorem fn67:Fn1 Tryz.prog 205 Tryz.f205:= .m Tryz.func205
theorem w_67(s:Y)(nb:Bool)(w:Int)(dg:Int)(sc:Int)(sg:Bool)(k:Nat)(cap:Nat)(dr:Int)(f:Int)(cr:Bool)(fl:Int)(fm:Int)(t:Y)(d:E)(hR:jbw d k cap=true)(hk:k≤1000)(hc:cN (zc d k)≤t.size)
  {R:Value→Prop} (hV:R (.string (sz (gsGo (zc d k) (bz t))))):
  jee Tryz.prog G37 (oneL 0 S67_0.hA) Tryz.f205 [.pointer (some ⟨0,0,some 0⟩),.string t] (vwF2 (fmL s nb w dg sc sg 1 k cap dr f cr fl fm) d) 2 (fun v _ _=>R v):=by
 rw[jee,v67];delta kz kp ay ly cl ii gm km ao jv;have h:=jax.1 hR;have z0:Int.toNat 0=0:=rfl;have hg:(jav [] d&&true&&true&& (ja3 210 d&&true))=true:=by rw[h.good];simp[ja3,idsL,jaq h.plain]
 have hg':(jav [] d&&true&& (ja3 210 d&&true))=true:=by rw[h.good];simp[ja3,idsL,jaq h.plain]
 have hi:(ja3 210 d&&true)=true:=by simp[ja3,idsL,jaq h.plain]
 simp only[h.rlb,z0,List.drop_zero];refine c_t (by first | exact hg | exact hg') (c_t ?_ ⟨fun _ hn a' i'=>c_t hi fun _=> ?_,fun a' i' od om oc g1 g2=> ?_⟩)
 ·show(Rw.nil.ok&& (jbw d k cap&&decide ((0:Int)≤0∧(0:Int)≤k∧k≤1000∧natO k=k∧(0:Int)≤0∧(0:Int)≤0∧0+cN ((zc d k).drop (Int.toNat 0))≤t.size∧((Rw.nil.z.length:Nat):Int)≤0)))=true;rw[hR,jca,z0,List.drop_zero];simp only[Bool.true_and,Rw.ok,Rw.z,List.length_nil,jae];exact⟨by omega,by omega,by omega,trivial,by omega,by omega,by omega,by omega⟩
 ·rw[hn]at hV;exact hV
 ·have ho:=jat.1 g1;have hio:(ja3 210 d&& (ja3 210 od&&true))=true:=by simp[ja3,idsL,jaq h.plain,jaq ho.plain]
  have s3:=ho.str;have g3:zc od om=gsGo (zc d k) (bz t):=by rw[g2];rfl
  rw[g3]at s3;exact c_t hio fun _=>c_t s3.1 (by rw[s3.2];exact hV)
def h67:E→Lk→Nat→(Value→Lk→Nat→Prop)→Prop:=fun args m n K=>match args with
 | [.pointer (some ⟨a,0,some 0⟩),.string t]=>match m a with
  | some ⟨[.string s,.bool nb,.int .i64 w,.int .i64 dg,.int .i64 sc,.bool sg,.slice (some ⟨y,0,some 1⟩) k cap,.int .u8 dr,.int .i64 f,.bool cr,.int .u8 fl,.int .i64 fm],156,own⟩=>match m y with
   | some ⟨d,251,own2⟩=>match cnd (jbw d k cap&&decide (k≤1000∧cN (zc d k)≤t.size))with
    | true=>∀e:Y,sz (gsGo (zc d k) (bz t))=e→K (.string e) m n
    | false=>False
   | _=>False
  | _=>False
 | _=>False
theorem h67_ok:jcz Tryz.prog 205 h67:=by
 refine jh5 ok_G37 hmix fn67 l67_0 fun args m n K h=> ?_
 unfold h67 at h;split at h
 case h_2=>exact h.elim
 rename_i a t;split at h
 case h_2=>exact h.elim
 rename_i s nb w dg sc sg y k cap dr f cr fl fm own hm;split at h
 case h_2=>exact h.elim
 rename_i d own2 hy;split at h
 case h_2=>exact h.elim
 rename_i hc;simp only[cnd,jaf,jae]at hc;obtain⟨h1,h2,h3⟩:=hc
 refine⟨[.pointer (some ⟨0,0,some 0⟩),.string t],_,2,rho2 a y,.string (sz (gsGo (zc d k) (bz t))),sub_F2 (jax.1 h1).plain hm hy,fun ι=>by simp[ren,ren1,rho2],jag,fun v hv j hj=> ?_,rfl,
  w_67 s nb w dg sc sg k cap dr f cr fl fm t d h1 h2 h3 (R:=fun v=>v= .string (sz (gsGo (zc d k) (bz t)))) rfl,h _ rfl⟩
 simp at hv;rcases hv with rfl | rfl
 ·have:j=0:=by simpa[ids]using hj
  omega
 ·simp[ids]at hj
def V71_0:Y×Bool×E×Nat×Nat×Int×Int→E:=fun(s,r,d,m,cap,L,i)=> [S s,B r,.slice (some ⟨300,0,some 1⟩) m cap,I L,I i]
def B71_0:Y×Bool×E×Nat×Nat×Int×Int→O:=fun(s,r,d,m,cap,L,i)=> [some ⟨d,5,false⟩]
def S71_0:LSpecA (Y×Bool×E×Nat×Nat×Int×Int) where
 live:=[0,4,15,16,17]
 mid:=[300]
 n:=310
 ap:=[(.tmp 15,300)]
 dec vs bs:=match vs,bs with | [.string s,.bool r,.slice (some ⟨300,0,some 1⟩) m cap,.int .i64 L,.int .i64 i],[some ⟨d,5,false⟩]=>some (s,r,d,m,cap,L,i) | _,_=>none
 pre:=fun(s,r,d,m,cap,L,i)=>vwOK d m&& ((bz s).all (hasZ [65,88,57]) &&decide (0≤i∧i≤m∧L=m∧s.size=m∧m≤1000))
 fin:=fun(s,r,d,m,cap,L,i) Z=>(bif onGo ((bz s).drop i.toNat) ((zc d m).drop i.toNat)then∀i',Z (.exit 0) [S s,B r,.slice (some ⟨300,0,some 1⟩) m cap,I L,I i'] [some ⟨d,5,false⟩]else∀i',Z .ret [S s,B false,.slice (some ⟨300,0,some 1⟩) m cap,I L,I i'] [some ⟨d,5,false⟩])
def r9(d e:Bool)(a:Y)(b:Int)(c:E):Bool:=bif ar a b 65 then br (!(bif decide (fw b c≥65)then decide (fw b c≤90) || ft (fw b c) 97 122 else ft (fw b c) 97 122)) (fw b c !=32 || d&&e) (d&&e)else d&&e
theorem r71_0(s:Y)(r:Bool)(d:E)(m:Nat)(cap:Nat)(L:Int)(i:Int)(jk:Tmps)(R:Exit→E→O→Prop):(jbp Tryz.prog G37 noL Tryz.f147.ntmps (ja6 Tryz.f147 0) (tl S71_0.live (V71_0 (s,r,d,m,cap,L,i)) jk) (ml S71_0.mid (B71_0 (s,r,d,m,cap,L,i))) S71_0.n fun e t' m' _=>S71_0.out R e t' m')=(ja (gv d 300 300) R i L .u8 [] d (bv 300 m cap::az L i) m 0 (k7 [] d 300) (bw (decide (fw i d≥48)) true (br (decide (fw i d≥65)) (decide (fw i d≤90) || gx (fw i d) 97) (gx (fw i d) 97)) (bif bq s i&&r9 (bq s i) (br (ar s i 57) (!ft (fw i d) 48 57 || true) true) s i d then lr (r9 (ar s i 57) (!ft (fw i d) 48 57&&fw i d !=32) s i d) (gv d 300 300) R [] (az L i) (cq L i) (k7 [] d 300) (S s) (B false) (bv 300 m cap) (S s) (B r) (bv 300 m cap)else False) False) (S s) (B r)):=by kernel_rfl
theorem l71_0:LOKf Tryz.prog (oneL 0 S71_0.hA) Tryz.f147:=by
 refine jbe (h:=S71_0.hA) (by kernel_rfl) (jbv ok_G37 hmix (by kernel_rfl) (ja1 _) S71_0 V71_0 B71_0 (fun(s,r,d,m,cap,L,i)=>(m-i).toNat) ?_ ?_ ?_)
 ·intro vs bs s h;simp only[S71_0]at h;split at h
  all_goals first | (cases h;exact⟨rfl,rfl⟩) | cases h | (split at h<;>first | (rename_i hq;cases h;have hq:=jah hq;subst hq;exact⟨rfl,rfl⟩) | cases h)
 ·exact fun⟨s,r,d,m,cap,L,i⟩ hp=>by
   simp only[S71_0,jaf]at hp;have hv:=jc0.1 hp.1;simp[V71_0,B71_0,S71_0,ja3,jb2,idsL,ids,jaq hv.plain]
 ·intro⟨s,r,d,m,cap,L,i⟩ jk Z hp hf;rw[r71_0];delta fv av b6 gz gy ct ja bw bm lr bv k7 au bu bp ak cq az gv br fw e9 ft ax ar r9 am bq gx;simp only[S71_0]at hp hf;simp only[jaf,jae]at hp;obtain⟨hV,hA,hp⟩:=hp;have hv:=jc0.1 hV;have e0:0+i.toNat*1=i.toNat:=by omega
  rw[e0];simp only[hv.rlb];have hg:∀ps,(jav ps d&&true&&true)=true:=fun ps=>by rw[goodL_plain hv.plain];rfl
  apply cond_intro<;>intro h
  ·have h:=jab h;obtain⟨a1,a2,a3⟩:=hv.at hp.1 (by omega)
   have hcb:jaj s i.toNat=65∨jaj s i.toNat=88∨jaj s i.toNat=57:=by
    have hm:jaj s i.toNat∈bz s:=List.drop_subset i.toNat (bz s) (by rw[jb4 hp.1 (by omega)];exact List.mem_cons_self);have:=List.all_eq_true.1 hA _ hm;have:=jbm.1 this;simp only[List.mem_cons,List.not_mem_nil,or_false]at this;omega
   rw[jb4 hp.1 (by omega),a3,onGo]at hf;rw[a1,w64 (n:=i+1) (by omega),jaa (show 0≤i∧i<(m:Int)by omega),jaa (show 0≤i∧i<(s.size:Int)by omega)];generalize jau d i.toNat=b at*;generalize jaj s i.toNat=c at*
   have el:(bif decide (b≥65)then decide (b≤90) || decide (b≥97) &&decide (b≤122)else decide (b≥97) &&decide (b≤122))=letZ b:=by
    unfold letZ;rw[Bool.eq_iff_iff];by_cases h1:b≥65<;>simp[h1] <;>omega
   have ed:(decide (b≥48) &&decide (b≤57))=je3 b:=by
    rw[Bool.eq_iff_iff];simp[je3]
   rw[el,ed]
   have key:(bif c==65 then bif !letZ b then b !=32 || c==57&& (!je3 b&&b !=32)else c==57&& (!je3 b&&b !=32)else c==57&& (!je3 b&&b !=32))= !oneZ c b:=by
    unfold oneZ;rcases hcb with rfl | rfl | rfl<;>by_cases h2:b=32<;>simp[h2] <;>cases letZ b<;>cases je3 b<;>simp
   rw[key];refine c_t rfl (c_t rfl (c_t (by simp) (c_t (by cases decide (b≥65) <;>simp) (c_t (by cases c==65<;>cases !letZ b<;>cases c==57<;>simp) (cond_intro (fun q=>c_t (hg _) ?_) (fun q=>c_t (hg _) ?_))))))
   ·have q:oneZ c b=false:=by simpa using q
    rw[q,Bool.false_and,cond_false]at hf;exact hf i
   ·have q:oneZ c b=true:=by simpa using q
    rw[q,Bool.true_and]at hf;exact⟨(s,r,d,m,cap,L,i+1),rfl,rfl,by simp only[S71_0,jaf,jae];exact⟨hV,hA,by omega⟩,by simp only;omega,hf⟩
  ·have h:=jac h;have hz:(bz s).drop i.toNat=[]:=List.drop_eq_nil_of_le (by rw[jal];omega);rw[hv.end (by omega),hz]at hf;exact c_t (hg _) (hf i)
def s71(s:Y)(t:Y):Bool×Value:=((bz s).all (hasZ [65,88,57]) &&decide (s.size≤1000∧t.size≤9223372036854775807),.bool (decide ((t.size:Int)=s.size) &&onGo (bz s) (bz t)))
theorem fn71:Fn1 Tryz.prog 147 Tryz.f147:= .m Tryz.func147
theorem v71(s:Y)(t:Y)(R:Value→Prop):jaz Tryz.prog G37 (oneL 0 S71_0.hA) Tryz.f147 [Enc.enc s,Enc.enc t] (fun _=>none) 0 (fun v _ _=>R v)=(bif am t !=am s then R (B false)else∀a:Nat,oy (S71_0.toLSpec.pre (s,(false,(j3 t 7 300,(t.size,(a,(natO t.size,(0:Int)))))))) (onGo (cl s) (lg t 7 300)) t a 7 300 310 (Int→(bif gm (j3 t 7 300) 310 then ji true R else False)) (Int→(bif gm (j3 t 7 300) 310 then ji false R else False))):=by kernel_rfl
theorem ok71:jam Tryz.prog 147 (sp2 s71):=by
 refine jcj ok_G37 hmix fn71 l71_0 jag fun s t hc=> ?_
 rw[ja0,v71];delta av ip gm jv jf oy ji j3 ii lg cl am
 try dsimp only[s71]
 obtain⟨hA,hc⟩:=Bool.and_eq_true_iff.1 hc;have hc:=jab hc;obtain⟨hv,hz⟩:=jk1 t;have hV:=jc0.2 hv;refine cond_intro (fun h=> ?_) (fun h=>fun cap _=> ?_)
 ·have h:¬(t.size:Int)=s.size:=by simpa using h
  rw[jad h];rfl
 ·have h:(t.size:Int)=s.size:=by simpa using h
  have hg:(jav [(7,300)] (Lib.strCells t) &&true&&true&& (ja3 310 (Lib.strCells t) &&true))=true:=by rw[goodL_plain hv.plain];simp[ja3,idsL,jaq hv.plain]
  have hi:(ja3 310 (Lib.strCells t) &&true)=true:=by simp[ja3,idsL,jaq hv.plain]
  have z0:Int.toNat 0=0:=rfl;simp only[hv.rlb,z0,List.drop_zero,hz];refine c_t hg (c_t ?_ ?_)
  ·show(vwOK (Lib.strCells t) t.size&& ((bz s).all (hasZ [65,88,57]) &&decide ((0:Int)≤0∧(0:Int)≤t.size∧natO t.size=t.size∧s.size=t.size∧t.size≤1000)))=true;rw[hV,hA,jca];simp only[Bool.true_and,jae];exact⟨by omega,by omega,trivial,by omega,by omega⟩
  ·rw[jaa h,Bool.true_and];refine cond_intro (fun q _=>c_t hi fun _=>by rw[q]) (fun q _=>c_t hi fun _=>by rw[q])
end Go.Px
end
noncomputable section
namespace Go.Px
open Go Go.Ab Go.Proofs Go.Shelf
theorem dec_from:∀(l:Yb)(a:Nat),dgL (zl l)=true→Lib.decFrom a l=some (numZ (zl l) a).toNat∧0≤numZ (zl l) a
 | [],a,_=>⟨rfl,Int.natCast_nonneg a⟩
 | b::r,a,h=>by
  have h:dgL ((b.toNat:Int)::zl r)=true:=h
  have h1:48≤b.toNat∧b.toNat≤57:=by
   simp only[dgL,List.all_cons,jaf,jae]at h;omega
  have h2:dgL (zl r)=true:=by
   simp only[dgL,List.all_cons,jaf]at h;exact h.2
  obtain⟨e1,e2⟩:=dec_from r (a*10+(b.toNat-48)) h2;have e:((a*10+(b.toNat-48):Nat):Int)=(a:Int)*10+((b.toNat:Int)-48):=by omega
  rw[e]at e1 e2;have hd:Lib.digitVal b=some (b.toNat-48):=by rw[Lib.digitVal,if_pos h1]
  refine⟨?_,e2⟩;rw[Lib.decFrom,hd];exact e1
theorem atoi_dig{s:Y}(h0:1≤s.size)(h:dgL (bz s)=true):Lib.atoi s.data.toList=some (dval (bz s)):=by
 have hb:bz s=zl s.data.toList:=rfl;have hl:s.data.toList.length=s.size:=rfl;rw[hb]at h ⊢;generalize s.data.toList=l at*;cases l with
 | nil=>simp at hl;omega
 | cons b r=>
  have h1:48≤b.toNat∧b.toNat≤57:=by
   have h:dgL ((b.toNat:Int)::zl r)=true:=h;simp only[dgL,List.all_cons,jaf,jae]at h;omega
  have n45:(b==45)=false:=by
   cases q:b==45 with
   | false=>rfl
   | true=>have:=eq_of_beq q;rw[this]at h1;revert h1;decide
  have n43:(b==43)=false:=by
   cases q:b==43 with
   | false=>rfl
   | true=>have:=eq_of_beq q;rw[this]at h1;revert h1;decide
  obtain⟨e1,e2⟩:=dec_from (b::r) 0 h;rw[Lib.atoi,n45,n43];show(Lib.decNat (b::r)).map (fun m:Nat=>(m:Int))=_;have:Lib.decNat (b::r)=Lib.decFrom 0 (b::r):=rfl;rw[this,e1,Option.map_some,dval];congr 1;exact Int.toNat_of_nonneg e2
def s68(s:Y):Bool×Value:=(decide (1≤s.size∧s.size≤18) &&dgL (bz s),.tuple ⟨[.int .i64 (dval (bz s)),.nilIface]⟩)
theorem ok68:jam Tryz.prog 206 (sp1 s68):=shelf1 c68 fun s hc w _=>by
 simp only[s68,jaf,jae]at hc;refine(Any.strconv_Atoi (ρ:=Tryz.lays172_ren) Tryz.lays172 s (dval (bz s)) hc.1.2 (atoi_dig hc.1.1 hc.2) w).mono fun e w' ⟨h1,t,h2⟩=>⟨h1,?_⟩
 subst h2;exact Lib.bytesWorld_below _ _ _
theorem jh4:∀(ro cs:J)(a:Int),okR ro→((gsGo ro cs).length:Int)=cdg ro∧dgL (gsGo ro cs)=true∧numZ (gsGo ro cs) a=rdGo (ro.map rmk) cs a
 | [],_,_,_=>⟨rfl,rfl,rfl⟩
 | r::rs,cs,a,hok=>by
  have hok':okR rs:=fun x hx=>hok x (List.mem_cons_of_mem _ hx)
  rw[gsGo,cdg,List.map_cons,rdGo];have hr:=rd_rng (cs.headD 0)
  have dig:∀l,dgL l=true→dgL ((48+rdD (cs.headD 0))::l)=true:=fun l h=>by
   simp only[dgL,List.all_cons,jaf,jae]at h ⊢;exact⟨by omega,h⟩
  have e:a*10+(48+rdD (cs.headD 0)-48)=a*10+rdD (cs.headD 0):=by omega
  rcases jc5 (hok r List.mem_cons_self)with rfl | rfl | rfl | rfl | rfl | rfl
  ·obtain⟨h1,h2,h3⟩:=jh4 rs cs.tail (a*10+rdD (cs.headD 0)) hok';refine⟨?_,dig _ h2,?_⟩
   ·show(((_::gsGo rs cs.tail).length:Nat):Int)=1+cdg rs;rw[List.length_cons];omega
   ·show numZ (_::gsGo rs cs.tail) a=rdGo (rs.map rmk) cs.tail (a*10+rdD (cs.headD 0));rw[numZ,e];exact h3
  ·obtain⟨h1,h2,h3⟩:=jh4 rs cs.tail (a*10+rdD (cs.headD 0)) hok';refine⟨?_,dig _ h2,?_⟩
   ·show(((_::gsGo rs cs.tail).length:Nat):Int)=1+cdg rs;rw[List.length_cons];omega
   ·show numZ (_::gsGo rs cs.tail) a=rdGo (rs.map rmk) cs.tail (a*10+rdD (cs.headD 0));rw[numZ,e];exact h3
  ·obtain⟨h1,h2,h3⟩:=jh4 rs cs a hok';exact⟨by simpa using h1,h2,h3⟩
  ·obtain⟨h1,h2,h3⟩:=jh4 rs cs.tail a hok';exact⟨by simpa using h1,h2,h3⟩
  ·obtain⟨h1,h2,h3⟩:=jh4 rs cs.tail a hok';exact⟨by simpa using h1,h2,h3⟩
  ·obtain⟨h1,h2,h3⟩:=jh4 rs cs.tail a hok';exact⟨by simpa using h1,h2,h3⟩
end Go.Px
end
noncomputable section
set_option maxHeartbeats 3200000
namespace Go.Px
open Go Go.Ab Go.Proofs Go.Shelf
def G38:Env:=(((Env.nil.addG 136 h62).addG 207 h64).addG 205 h67).add 206 (sp1 s68)
theorem ok_G38:jaw Tryz.prog G38:=jai (jao (jao (jao jap h62_ok) h64_ok) h67_ok) ok68
theorem cN_nv:∀(rs:J),okR rs→cN rs=nv (rs.map rmk)
 | [],_=>rfl
 | r::rs,hok=>by
  have hok':okR rs:=fun x hx=>hok x (List.mem_cons_of_mem _ hx)
  have ih:=cN_nv rs hok';rw[cN,List.map_cons,jf8];rcases jc5 (hok r List.mem_cons_self)with rfl | rfl | rfl | rfl | rfl | rfl<;>simp[rmk] <;>omega
theorem gs_use{s t:Y}(h:pN (bz s)=true):digZ (rdA (bz s) (bz t)) (pD (bz s)).toNat=gsGo (rolF (pS (bz s))) (bz t)∧0≤rdA (bz s) (bz t)∧rdA (bz s) (bz t)<tenZ (pD (bz s)).toNat∧dval (gsGo (rolF (pS (bz s))) (bz t))=rdA (bz s) (bz t)∧cN (rolF (pS (bz s)))=pW (bz s):=by
 have hl:=jfb s;obtain⟨f1,f2,f3,_⟩:=jhx hl h;obtain⟨g1,g2,g3⟩:=jh4 (rolF (pS (bz s))) (bz t) 0 f1;have hp:=je1 h;have hv:dval (gsGo (rolF (pS (bz s))) (bz t))=rdA (bz s) (bz t):=by rw[dval,g3,f2,rdA]
 have hlen:(gsGo (rolF (pS (bz s))) (bz t)).length=(pD (bz s)).toNat:=by omega
 have hr:=jdr _ g2;rw[hv,hlen]at hr;refine⟨by rw[←hv];exact jid _ _ hlen g2,hr.1,hr.2,hv,by rw[cN_nv _ f1,f2,pN_nv h]⟩
def s22(s:Y)(t:Y):Bool×Value:=(decide (s.size≤9223372036854775807∧t.size≤9223372036854775807),.tuple ⟨[.int .i64 (rdV (bz s) (bz t)).1,.int .i64 (rdV (bz s) (bz t)).2]⟩)
theorem fn22:Fn1 Tryz.prog 146 Tryz.f146:= .m Tryz.func146
theorem v22(s:Y)(t:Y)(R:Value→Prop):jaz Tryz.prog G38 noL Tryz.f146 [Enc.enc s,Enc.enc t] (fun _=>none) 0 (fun v _ _=>R v)=(d4 (pN (bz s)) s (∀a:Nat,∀b:Nat,∀c:E,jbw c a b=true→zc c a=rolF (pS (bz s))→(bif am t !=pW (bz s)then R (co [ak 31] (ak 0))else bif jbw c a b&&decide (a≤1000∧cN (zc c a)≤am t)then∀d:Y,sz (gsGo (zc c a) (bz t))=d→(bif g0 d 1 d.size 18&&dgL (bz d)then o3 d s c a b (∀e:Y,∀f:Int,sz (lu false s d c a).fst=e→(lu false s d c a).snd=f→(bif b5 e t then R (co [ak 0] (I (dval (bz d))))else bif pl d s c a b then∀g:Y,∀h:Int,sz (lu true s d c a).fst=g→(lu true s d c a).snd=h→fq (br (b5 g t) (pG (bz s) || true) true) (b5 g t&& (pG (bz s) &&decide (dval (bz d)>0))) (co [ak 0] (ep (0-dval (bz d)))) (co [ak 31] (ak 0)) R else False))else False)else False)) (R (co [ak 30] (ak 0)))):=by kernel_rfl
theorem ok22:jam Tryz.prog 146 (sp2 s22):=by
 refine jcj ok_G38 hmix fn22 jak jag fun s t hc=> ?_
 rw[ja0,v22];delta av b7 d4 co ak am fp pl o3 dx fq aw ep b5 br lu g0;have hc:(s.size≤9223372036854775807∧t.size≤9223372036854775807):=jab hc
 try dsimp only[s22]
 refine c_t (jaa hc.1) (cond_intro (fun h=> ?_) (fun h=> ?_))
 ·intro k cap d hR hz;obtain⟨u1,u2,u3,u4,u5⟩:=gs_use (t:=t) h;have hl:=jfb s;have hr:=jax.1 hR;have hk:k=(pS (bz s)).length:=by rw[←rol_len h,←hz,jbn hr]
  have hp:=je1 h;have bl:((bz t).length:Int)=t.size:=by rw[jal]
  apply cond_intro<;>intro hw
  ·have hw:¬(t.size:Int)=pW (bz s):=by simpa using hw
   rw[rdV,if_pos h,bl,if_neg hw]
  ·have hw:(t.size:Int)=pW (bz s):=by simpa using hw
   refine c_t (by rw[hR,hz,u5];simp only[Bool.true_and,jae];omega) fun e he=> ?_
   rw[hz,←u1]at he;have hdd:=jfj (pD (bz s)).toNat (rdA (bz s) (bz t));have be:bz e=digZ (rdA (bz s) (bz t)) (pD (bz s)).toNat:=by rw[←he,jcy (jg5 hdd)]
   have ze:e.size=(pD (bz s)).toNat:=by rw[←jal,be,jds]
   have hv:dval (bz e)=rdA (bz s) (bz t):=by rw[be,u1,u4]
   rw[hv,rdV,if_pos h,bl,if_pos hw];generalize rdA (bz s) (bz t)=m at*;have hm:((m.natAbs:Nat):Int)=m:=by omega
   have hm':(((0-m).natAbs:Nat):Int)=m:=by omega
   obtain⟨g1,g2⟩:=jk0 h hR hz (m:=m) (by omega);obtain⟨k1,k2⟩:=jk0 h hR hz (m:=0-m) (by omega);rw[hm,he]at g1 g2;rw[hm',he]at k2;have d0:decide (m<0)=false:=jad (by omega);rw[d0]at g2;have ht:tenZ (pD (bz s)).toNat≤1000000000:=jes (by omega)
   have hF:∀(a:Y)(n:Int),sz (jdn (pS (bz s)) (pW (bz s)) (pD (bz s)).toNat n)=a→(a.toList==t.toList)=decide (fdN (bz s) n=bz t):=fun a n e=>by
    rw[jcv,←e,jcy (jh7 hl.1 _ _ _)];rfl
   refine c_t (by rw[be,hdd,ze,Bool.and_true,jae];omega) (c_t g1 fun a1 l1 q1 q2=>cond_intro (fun p=> ?_) (fun p=>c_t g1 fun a2 l2 q3 q4=> ?_))
   ·rw[hF _ _ (by rw[←q1,g2])]at p;rw[if_pos (jab p)]
   ·rw[hF _ _ (by rw[←q1,g2])]at p;have p:=jac p;rw[if_neg p];refine c_t (by cases ByteArray.toList a2==ByteArray.toList t<;>simp) ?_;by_cases m0:m>0
    ·have d1:decide (0-m<0)=true:=jaa (by omega);rw[d1]at k2;rw[hF _ _ (by rw[←q3,k2]),w64 (n:=0-m) (by omega)];by_cases r1:fdN (bz s) (0-m)=bz t
     ·cases hG:pG (bz s)with
      | true=>
       have:(decide (fdN (bz s) (0-m)=bz t) && (true&&decide (m>0)))=true:=by rw[jaa r1,jaa m0];rfl
       rw[this,if_pos ⟨rfl,m0,r1⟩];rfl
      | false=>
       rw[Bool.false_and,Bool.and_false,if_neg (fun q=>by cases q.1)];rfl
     ·rw[jad r1,Bool.false_and,if_neg (fun q=>r1 q.2.2)];rfl
    ·rw[jad m0,Bool.and_false,Bool.and_false,if_neg (fun q=>m0 q.2.1)];rfl
 ·have h1:¬pN (bz s)=true:=by rw[h];simp
  rw[rdV,if_neg h1]
def G39:Env:=((((Env.nil.add 30 (sp2 s78)).addG 145 h70).addG 207 h64).add 147 (sp2 s71)).add 146 (sp2 s22)
theorem ok_G39:jaw Tryz.prog G39:=jai (jai (jao (jao (jai jap ok78) h70_ok) h64_ok) ok71) ok22
theorem ch_all{l:J}(h:vOK l=true)(hn:pN l=false):(pS l).all (hasZ [65,88,57])=true:=by
 have hc:je6 (exZ l)=true:=by
  simp only[vOK,jaf,Bool.or_eq_true]at h;simp only[pN]at hn;rcases h.2 with q | q
  ·exact q
  ·rw[h.1,q]at hn;cases hn
 rw[pS,if_pos h];simp only[je6,jaf]at hc;exact hc.1
theorem digZ_0{k:Nat}:digZ (((0:Int).natAbs:Nat):Int) k=rep1 48 k:=(rep48p (jds _ _)).2 ((dig_zero (n:=0) (by have:=jc6 k;omega)).2 rfl)
def s24(s:Y)(t:Y):Bool×Value:=(decide (s.size≤9223372036854775807∧t.size≤9223372036854775807),.bool (hoZ (bz s) (bz t)))
theorem fn24:Fn1 Tryz.prog 72 Tryz.f72:= .m Tryz.func72
theorem v24(s:Y)(t:Y)(R:Value→Prop):jaz Tryz.prog G39 noL Tryz.f72 [Enc.enc s,Enc.enc t] (fun _=>none) 0 (fun v _ _=>R v)=(d4 (vOK (bz s)) s (bif pN (bz s)then∀a:Nat,∀b:Nat,∀c:E,jbw c a b=true→zc c a=rolF (pS (bz s))→ay (g0 t s.size 9223372036854775807 9223372036854775807) (B ((rdV (bz s) (bz t)).snd==0)) R else ay ((bz (fp s)).all (hasZ [65,88,57]) &&g0 t (fp s).size 1000 9223372036854775807) (B (decide (am t=cw (fp s)) &&onGo (bz (fp s)) (bz t))) R) (R (B false))):=by kernel_rfl
theorem ok24:jam Tryz.prog 72 (sp2 s24):=by
 refine jcj ok_G39 hmix fn24 jak jag fun s t hc=> ?_
 rw[ja0,v24];delta av b7 d4 ay fp cw am g0;have hc:(s.size≤9223372036854775807∧t.size≤9223372036854775807):=jab hc
 try dsimp only[s24]
 refine c_t (jaa hc.1) (cond_intro (fun h=>cond_intro (fun hn=> ?_) (fun hn=> ?_)) (fun h=> ?_))
 ·intro k cap d _ _;refine c_t (jaa hc) ?_;rw[hoZ,if_pos h,if_pos hn];rfl
 ·have hl:=jfb s;have b1:bz (sz (pS (bz s)))=pS (bz s):=jcy hl.1;have z1:(sz (pS (bz s))).size=(pS (bz s)).length:=by rw[←jal,b1]
  have hn':¬pN (bz s)=true:=by rw[hn];simp
  rw[b1,z1,ch_all h hn];refine c_t (by simp only[Bool.true_and,jae];omega) ?_;rw[hoZ,if_pos h,if_neg hn',pCh h hn,jal]
 ·have h1:¬vOK (bz s)=true:=by rw[h];simp
  rw[hoZ,if_neg h1]
def s54(s:Y):Bool×Value:=(decide (s.size≤9223372036854775807),.tuple ⟨[.string (sz (zeS (bz s))),.int .i64 (pE (bz s))]⟩)
theorem fn54:Fn1 Tryz.prog 176 Tryz.f176:= .m Tryz.func176
theorem v54(s:Y)(R:Value→Prop):jaz Tryz.prog G39 noL Tryz.f176 [Enc.enc s] (fun _=>none) 0 (fun v _ _=>R v)=(d4 (vOK (bz s)) s (bif pN (bz s)then∀a:Nat,∀b:Nat,∀c:E,jbw c a b=true→zc c a=rolF (pS (bz s))→(bif j6 d9 (pD (bz s)) 1000 1000 then o3 (sz (repZ (bz d9) (pD (bz s)).toNat)) s c a b (∀d:Y,∀e:Int,sz (lu false s (sz (repZ (bz d9) (pD (bz s)).toNat)) c a).fst=d→(lu false s (sz (repZ (bz d9) (pD (bz s)).toNat)) c a).snd=e→R (.tuple ⟨bk d [] (ak 0)⟩))else False)else ay (j6 ⟨#[32]⟩ (pW (bz s)) 1000 1000) (co [ak 0] (S (sz (repZ (bz ⟨#[32]⟩) (pW (bz s)).toNat)))) R) (R (co [ak 30] cu))):=by kernel_rfl
theorem ok54:jam Tryz.prog 176 (sp1 s54):=by
 refine jby ok_G39 hmix fn54 jak jag fun s hc=> ?_
 rw[ja0,v54];delta av b7 d4 co ao cu ak ay j6 am fp pl o3 bk lu d9;have hc:(s.size≤9223372036854775807):=jab hc
 try dsimp only[s54]
 refine c_t (jaa hc) (cond_intro (fun h=>cond_intro (fun hn=> ?_) (fun hn=> ?_)) (fun h=> ?_))
 ·intro k cap d hR hz;have hp:=je1 hn
  have e48:repZ (bz (ByteArray.mk #[48])) (pD (bz s)).toNat=digZ (((0:Int).natAbs:Nat):Int) (pD (bz s)).toNat:=by
   rw[digZ_0];exact ji4 48 _
  obtain⟨g1,g2⟩:=jk0 hn hR hz (m:=0) (by have:=jc6 (pD (bz s)).toNat;omega);have d0:decide ((0:Int)<0)=false:=rfl;rw[d0]at g2;rw[e48];refine c_t (jaa ⟨by omega,by omega,by decide⟩) (c_t g1 fun t l h1 h2=> ?_);rw[g2]at h1;rw[zeS,if_pos h,if_pos hn,pE,if_pos h,←h1];rfl
 ·have hw:= @jjy s;have hn':¬pN (bz s)=true:=by rw[hn];simp
  refine c_t (jaa ⟨by omega,by omega,by decide⟩) ?_;have e32:bz (ByteArray.mk #[32])=[32]:=rfl;rw[zeS,if_pos h,if_neg hn',pE,if_pos h,e32,ji4]
 ·have h1:¬vOK (bz s)=true:=by rw[h];simp
  rw[zeS,if_neg h1,pE,if_neg h1,jf1]
end Go.Px
end
section
namespace Go.Fx
open Go Go.Ab
structure Ty where
 k:Int
 p:Int
 q:Int
 v:Bool
 s:Y
structure Vl where
 n:Int
 s:Y
instance:Enc Ty where
 enc t:= .agg ⟨[.int .i64 t.k,.int .i64 t.p,.int .i64 t.q,.bool t.v,.string t.s]⟩
 dec | .agg ⟨[.int .i64 k,.int .i64 p,.int .i64 q,.bool v,.string s]⟩=>some ⟨k,p,q,v,s⟩ | _=>none
 dec_some:=by
  intro v a h;split at h
  ·cases h;rfl
  ·cases h
 plain_enc _:=rfl
instance:Enc Vl where
 enc t:= .agg ⟨[.int .i64 t.n,.string t.s]⟩
 dec | .agg ⟨[.int .i64 n,.string s]⟩=>some ⟨n,s⟩ | _=>none
 dec_some:=by
  intro v a h;split at h
  ·cases h;rfl
  ·cases h
 plain_enc _:=rfl
abbrev I(n:Int):Value:= .int .i64 n
abbrev B(b:Bool):Value:= .bool b
def e0:Y:=⟨#[]⟩
def T0:Ty:=⟨0,0,0,false,⟨#[]⟩⟩
def V0:Vl:=⟨0,⟨#[]⟩⟩
abbrev tv(t:Ty):Value:= .agg ⟨[.int .i64 t.k,.int .i64 t.p,.int .i64 t.q,.bool t.v,.string t.s]⟩
abbrev vv(v:Vl):Value:= .agg ⟨[.int .i64 v.n,.string v.s]⟩
abbrev tup(l:E):Value:= .tuple ⟨l⟩
def most(k:Int):Int:=if k=1 then 9 else 31
def ja9(t:Ty):Prop:=(t.k=1∨t.k=2)∧1≤t.p∧t.p≤most t.k∧0≤t.q∧t.q≤t.p∧(t.k=2→t.q=0)∧t.v=false∧t.s.toList=[]
instance (t:Ty):Decidable (ja9 t):=by unfold ja9;infer_instance
def base(k:Int):Int:=if k=1 then 10 else 2
def pw(b n:Int):Int:=b^n.toNat
def bnd(t:Ty):Int:=pw (base t.k) t.p
def check(t:Ty):Int:=if ja9 t then 0 else 5
def Fit(v:Vl)(t:Ty):Prop:=v.s.toList=[]∧ -bnd t<v.n∧v.n<bnd t
instance (v:Vl)(t:Ty):Decidable (Fit v t):=by unfold Fit;infer_instance
def fits(v:Vl)(t:Ty):Int:=if ja9 t then(if Fit v t then 0 else 6)else 5
def scl(n d:Int):Int:=if 0≤d then n*pw 10 d else n.tdiv (pw 10 (-d))
def InB(n:Int)(t:Ty):Prop:= -bnd t<n∧n<bnd t
instance (n:Int)(t:Ty):Decidable (InB n t):=by unfold InB;infer_instance
def cutN(n:Int)(t:Ty):Int:=if InB n t then n else n.tmod (bnd t)
def cutC(n:Int)(t:Ty)(c:Int):Int:=if InB n t then 0 else c
def tensL:E:=[.int .i64 1,.int .i64 10,.int .i64 100,.int .i64 1000,.int .i64 10000,.int .i64 100000,.int .i64 1000000,.int .i64 10000000,.int .i64 100000000,.int .i64 1000000000,
 .int .i64 10000000000,.int .i64 100000000000,.int .i64 1000000000000,.int .i64 10000000000000,.int .i64 100000000000000,.int .i64 1000000000000000,.int .i64 10000000000000000,.int .i64 100000000000000000,.int .i64 1000000000000000000]
def R64(n:Int):Prop:= -9223372036854775808≤n∧n≤9223372036854775807
instance (n:Int):Decidable (R64 n):=by unfold R64;infer_instance
def zer(op b:Int):Prop:=(op=9∨op=10)∧b=0
instance (op b:Int):Decidable (zer op b):=by unfold zer;infer_instance
def Q18(n:Int):Prop:= -4000000000000000000≤n∧n≤4000000000000000000
instance (n:Int):Decidable (Q18 n):=by unfold Q18;infer_instance
def quoOK(a b up:Int):Prop:=b≠0∧ -18≤up∧up≤18∧Q18 a∧Q18 b∧(0≤up→Q18 (a*pw 10 up))∧(up<0→Q18 (b*pw 10 (-up)))
instance (a b up:Int):Decidable (quoOK a b up):=by unfold quoOK;infer_instance
def dvOK(op y:Int):Prop:=op=10→y≠0
instance (op y:Int):Decidable (dvOK op y):=by unfold dvOK;infer_instance
def rOK(n u:Int):Prop:=1≤u∧u≤1000000000∧ -4000000000000000000≤n∧n≤4000000000000000000
instance (n u:Int):Decidable (rOK n u):=by unfold rOK;infer_instance
theorem w64{n:Int}(h: -9223372036854775808≤n∧n≤9223372036854775807):IntKind.i64.wrap n=n:=by rw[IntKind.wrap_i64];omega
theorem str0(s:Y):(!s.toList==(ByteArray.mk #[]).toList)= !decide (s.toList=[]):=by
 have:(ByteArray.mk #[]).toList=[]:=by kernel_rfl
 rw[this];cases s.toList<;>rfl
end Go.Fx
namespace Go.Fx
open Go Go.Ab
theorem jbc(a b:Int):IntKind.i64.wrap (IntKind.i64.wrap a*b)=IntKind.i64.wrap (a*b):=by
 simp only[IntKind.wrap_i64]
 have h:((a+9223372036854775808)%18446744073709551616-9223372036854775808)*b=a*b+18446744073709551616*(-((a+9223372036854775808)/18446744073709551616)*b):=by
  have:=Int.emod_def (a+9223372036854775808) 18446744073709551616;rw[this];grind
 rw[h];omega
theorem jbh(b:Int){n:Int}(h:n≤0):pw b n=1:=by
 rw[pw,show n.toNat=0 by omega,Int.pow_zero]
theorem jbl(b:Int){n:Int}(h:0≤n):pw b (n+1)=pw b n*b:=by
 rw[pw,pw,show(n+1).toNat=n.toNat+1 by omega,Int.pow_succ]
theorem pw_add(b:Int){n m:Int}(h:0≤n)(h':0≤m):pw b (n+m)=pw b n*pw b m:=by
 rw[pw,pw,pw,show(n+m).toNat=n.toNat+m.toNat by omega,Int.pow_add]
theorem pw_pos{b:Int}(hb:1≤b)(n:Int):1≤pw b n:=by
 have:0<b^n.toNat:=Int.pow_pos (by omega);unfold pw;omega
theorem jki{b:Int}(hb:1≤b){n m:Int}(h:n≤m):pw b n≤pw b m:=by
 rcases Int.le_total n 0 with hn | hn
 ·rw[jbh b hn];exact pw_pos hb m
 ·have e:m=n+(m-n):=by omega
  rw[e,pw_add b hn (by omega)];have h1:=pw_pos hb n;have h2:=pw_pos hb (m-n);have:=Int.mul_le_mul_of_nonneg_left h2 (show 0≤pw b n by omega);omega
theorem pw10_18:pw 10 18=1000000000000000000:=by decide
theorem pw10_9:pw 10 9=1000000000:=by decide
theorem pw2_31:pw 2 31=2147483648:=by decide
end Go.Fx
namespace Go.Fx
open Go Go.Ab
theorem tens_nat:∀n:Nat,n<19→jb1 .i64 tensL n=true∧jau tensL n=10^n:=by decide
theorem tens_at{p:Int}(h:0≤p)(h':p<19):jb1 .i64 tensL p.toNat=true∧jau tensL p.toNat=pw 10 p:=tens_nat _ (by omega)
theorem shl_pw{p:Int}(h:0≤p)(h':p≤62):IntKind.i64.wrap (1*2^min p.toNat 64)=pw 2 p:=by
 have h1:=jki (b:=2) (by omega) h';have h2:=pw_pos (b:=2) (by omega) p;have h3:pw 2 62=4611686018427387904:=by decide
 rw[show min p.toNat 64=p.toNat by omega,Int.one_mul];exact w64 (by show _≤pw 2 p∧pw 2 p≤_;omega)
theorem jbx{b p:Int}(h:b=10∧p≤18∨b=2∧p≤62):IntKind.i64.wrap (pw b p)=pw b p:=by
 have h3:pw 2 62=4611686018427387904:=by decide
 have h4:=pw10_18;rcases h with⟨rfl,h⟩ | ⟨rfl,h⟩
 ·have h1:=jki (b:=10) (by omega) h;have h2:=pw_pos (b:=10) (by omega) p;exact w64 (by omega)
 ·have h1:=jki (b:=2) (by omega) h;have h2:=pw_pos (b:=2) (by omega) p;exact w64 (by omega)
end Go.Fx
namespace Go.Fx
open Go Go.Ab
theorem bnd_range{t:Ty}(h:ja9 t):2≤bnd t∧bnd t≤2147483648:=by
 obtain⟨hk,h1,h2,_⟩:=h;unfold bnd;rcases hk with hk | hk
 ·simp only[hk,most,base]at*;have a:=jki (b:=10) (by omega) h1;have b:=jki (b:=10) (by omega) (show t.p≤9 by simpa using h2);have c:=pw10_9;have d:pw 10 1=10:=by decide
  simp only[if_true];omega
 ·simp only[hk,most,base]at*;have a:=jki (b:=2) (by omega) h1;have b:=jki (b:=2) (by omega) (show t.p≤31 by simpa using h2);have c:=pw2_31;have d:pw 2 1=2:=by decide
  simp only[show¬((2:Int)=1)by decide,if_false];omega
end Go.Fx
namespace Go.Fx
end Go.Fx
namespace Go.Fx
open Go Go.Ab
theorem valid_r{t:Ty}(h:ja9 t):1≤t.p∧t.p≤31∧0≤t.q∧t.q≤t.p∧t.q≤9:=by grind [ja9,most]
end Go.Fx
namespace Go.Fx
open Go Go.Ab
end Go.Fx
end
section
namespace Go.Cv
open Go.Ab (jac jae jaf)
def dig(c:Int):Bool:=decide (48≤c∧c≤57)
def jcb(l:List Int):Bool:=l.all fun c=>decide (c=48∨c=49)
def jbu(l:List Int):Bool:=l.all dig
def trL(l:List Int):List Int:=l.dropWhile (· ==32)
def trR(l:List Int):List Int:=(l.reverse.dropWhile (· ==32)).reverse
def ahead(c:Int)(l:List Int):List Int:=l.takeWhile (· !=c)
def past(c:Int)(l:List Int):Option (List Int):=match l.dropWhile (· !=c)with
 | []=>none
 | _::r=>some r
def expD(l:List Int):Option Int:=if 1≤l.length∧l.length≤2∧jbu l=true then some (l.foldl (fun a c=>10*a+(c-48)) 0)else none
def expZ:List Int→Option Int
 | 43::l=>expD l
 | 45::l=>(expD l).map fun n=> -n
 | l=>expD l
abbrev Num:=Bool×List Int×Int
section
variable (ja4 : Bool → List Int → Int → Num) (binD : List Int → List Int)
def decR(neg:Bool)(l:List Int):Option Num:=
 match (match past 69 l with | none=>some 0 | some x=>expZ x)with
 | none=>none
 | some e=>
  let s:=ahead 69 l
  let whole:=ahead 46 s
  let part:=(past 46 s).getD []
  if whole++part≠ []∧jbu whole=true∧jbu part=true then some (ja4 neg (whole++part) (part.length-e))else none
def bodR(neg:Bool)(l:List Int):Option Num:=
 if 2≤l.length∧l.getLast?=some 66 then
  if l.length-1≤31∧jcb l.dropLast=true then some (ja4 neg (binD l.dropLast) 0)else none
 else decR ja4 neg l
def sgnR:List Int→Option Num
 | []=>some (false,[],0)
 | 45::l=>bodR ja4 binD true l
 | 43::l=>bodR ja4 binD false l
 | l=>bodR ja4 binD false l
def numR(l:List Int):Option Num:=sgnR ja4 binD (trR (trL l))
inductive St where
 | beg | bod (some pt:Bool) | exq (sg:Bool) (many:Nat) | beh | ded
structure Rd where
 neg:Bool:=false
 bin:Bool:=false
 down:Bool:=false
 ds:List Int:=[]
 sc:Int:=0
 pw:Int:=0
def bodN(r:Rd)(c:Int)(s p:Bool):St×Rd:=
 if dig c=true then(.bod true p,{r with ds:=r.ds++ [c],sc:=if p=true then r.sc+1 else r.sc})
 else if c=46∧p=false then(.bod s true,r)
 else if s=false then(.ded,r)
 else if c=69 then(.exq false 0,r)
 else if c=66∧p=false then(.beh,{r with bin:=true})
 else if c=32 then(.beh,r)else(.ded,r)
def jcc:St→Rd→Int→St×Rd
 | .beg,r,c=>if c=32 then(.beg,r)else if c=43∨c=45 then(.bod false false,{r with neg:=decide (c=45)})else bodN r c false false
 | .bod s p,r,c=>bodN r c s p
 | .exq sg m,r,c=>if dig c=true∧m<2 then(.exq true (m+1),{r with pw:=10*r.pw+(c-48)})
  else if(c=43∨c=45)∧sg=false then(.exq true 0,{r with down:=decide (c=45)})
  else if c=32∧0<m then(.beh,r)else(.ded,r)
 | .beh,r,c=>if c=32 then(.beh,r)else(.ded,r)
 | .ded,r,_=>(.ded,r)
def endP:St→Bool
 | .beg=>true
 | .bod s _=>s
 | .exq _ m=>decide (0<m)
 | .beh=>true
 | .ded=>false
def runP:List Int→St→Rd→Option Rd
 | [],st,r=>if endP st=true then some r else none
 | c::l,st,r=>runP l (jcc st r c).1 (jcc st r c).2
def finP(r:Rd):Option Num:=
 if r.bin=true then(if r.ds.length≤31∧jcb r.ds=true then some (ja4 r.neg (binD r.ds) 0)else none)
 else some (ja4 r.neg r.ds (r.sc-if r.down=true then -r.pw else r.pw))
def numP(l:List Int):Option Num:=(runP l .beg {}).bind (finP ja4 binD)
end
theorem jc4:∀(l:List Int)(r:Rd),runP l .ded r=none
 | [],_=>rfl
 | c::l,r=>by rw[runP];exact jc4 l r
theorem jf7:∀(l:List Int)(r:Rd),runP l .beh r=if l.all (· ==32)=true then some r else none
 | [],_=>rfl
 | c::l,r=>by
  rw[runP,jcc];by_cases h:c=32
  ·subst h;rw[if_pos rfl,jf7 l r];rfl
  ·rw[if_neg h,jc4,if_neg];simp[h]
theorem jhs(b:List Int)(hb:b.all (· ==32)=true):∀(l:List Int)(st:St)(r:Rd),runP (l++b) st r=runP l st r
 | [],st,r=>by
  cases b with
  | nil=>rfl
  | cons c b=>
   simp only[List.all_cons,jaf,beq_iff_eq]at hb;obtain⟨rfl,hb⟩:=hb;show runP b (jcc st r 32).1 (jcc st r 32).2=if endP st=true then some r else none
   cases st with
   | beg=>
    have ih:=jhs b hb [] .beg r;exact ih
   | bod s p=>
    cases s with
    | true=>
     show runP b (bodN r 32 true p).1 (bodN r 32 true p).2=_;cases p<;>exact(jf7 b r).trans (by rw[if_pos hb];rfl)
    | false=>
     show runP b (bodN r 32 false p).1 (bodN r 32 false p).2=_;cases p<;>exact jc4 b r
   | exq sg m=>
    show runP b (jcc (.exq sg m) r 32).1 (jcc (.exq sg m) r 32).2=_;have hd:dig 32=false:=by decide
    have e:jcc (.exq sg m) r 32=if 0<m then(.beh,r)else(.ded,r):=by
     rw[jcc,if_neg (fun q=>by rw[hd]at q;cases q.1),if_neg (fun q=>absurd q.1 (by decide))];by_cases h:0<m
     ·rw[if_pos ⟨rfl,h⟩,if_pos h]
     ·rw[if_neg (fun q=>h q.2),if_neg h]
    rw[e];by_cases h:0<m
    ·rw[if_pos h,jf7,if_pos hb];simp[endP,h]
    ·rw[if_neg h,jc4];simp[endP,h]
   | beh=>
    exact(jf7 b r).trans (by rw[if_pos hb];rfl)
   | ded=>exact jc4 b r
 | c::l,st,r=>by
  rw[List.cons_append,runP,runP,jhs b hb l]
theorem run_lead:∀(l:List Int),runP l .beg {}=runP (trL l) .beg {}
 | []=>rfl
 | c::l=>by
  by_cases h:c=32
  ·subst h;rw[show trL (32::l)=trL l from rfl,←run_lead l];rfl
  ·rw[show trL (c::l)=c::l from List.dropWhile_cons_of_neg (by simpa using h)]
theorem trR_spec(l:List Int):∃b:List Int,b.all (· ==32)=true∧l=trR l++b∧((trR l).getLast?≠some 32):=by
 refine⟨(l.reverse.takeWhile (· ==32)).reverse,?_,?_,?_⟩
 ·rw[List.all_reverse];exact List.all_takeWhile
 ·rw[trR,←List.reverse_append,List.takeWhile_append_dropWhile,List.reverse_reverse]
 ·rw[trR,List.getLast?_reverse];intro h;have:=List.head?_dropWhile_not (p:=(· ==(32:Int))) (l:=l.reverse);rw[h]at this;simp at this
theorem ji3:∀(d l:List Int)(s p:Bool)(r:Rd),jbu d=true→
  runP (d++l) (.bod s p) r=runP l (.bod (s || !d.isEmpty) p) {r with ds:=r.ds++d,sc:=if p=true then r.sc+d.length else r.sc}
 | [],l,s,p,r,_=>by
  cases p<;>simp
 | c::d,l,s,p,r,h=>by
  simp only[jbu,List.all_cons,jaf]at h
  have e:jcc (.bod s p) r c=(.bod true p,{r with ds:=r.ds++ [c],sc:=if p=true then r.sc+1 else r.sc}):=by
   rw[jcc,bodN,if_pos h.1]
  rw[List.cons_append,runP,e];have:=ji3 d l true p {r with ds:=r.ds++ [c],sc:=if p=true then r.sc+1 else r.sc} h.2;rw[this];have e2:r.sc+1+(d.length:Int)=r.sc+((d.length:Int)+1):=by omega
  cases p<;>simp[e2]
theorem split_digs(l:List Int):∃d v:List Int,l=d++v∧jbu d=true∧(v=[]∨ ∃c r,v=c::r∧dig c=false):=by
 refine⟨l.takeWhile dig,l.dropWhile dig,(List.takeWhile_append_dropWhile).symm,List.all_takeWhile,?_⟩;cases h:l.dropWhile dig with
 | nil=>exact .inl rfl
 | cons c r=>
  refine .inr ⟨c,r,rfl,?_⟩;have:=List.head?_dropWhile_not (p:=dig) (l:=l);rw[h]at this;simpa using this
theorem jjl{a b:List Int}:jbu (a++b)=(jbu a&&jbu b):=List.all_append
theorem run_exp(x:List Int)(hx:x.getLast?≠some 32)(r:Rd)(h0:r.pw=0∧r.down=false):
  (runP x (.exq false 0) r).map (fun r'=>(r'.neg,r'.bin,r'.ds,r'.sc,if r'.down=true then -r'.pw else r'.pw))=(expZ x).map fun e=>(r.neg,r.bin,r.ds,r.sc,e):=by
 have two:∀(l:List Int)(sg:Bool)(r:Rd),l.getLast?≠some 32→r.pw=0→(∀c t,l=c::t→sg=false→c≠43∧c≠45)→
   runP l (.exq sg 0) r=(expD l).map fun e=>{r with pw:=e}:=by
  intro l sg r hl hr hs
  match l with
  | []=>rfl
  | [a]=>
   rw[runP,jcc];cases ha:dig a with
   | true=>
    rw[if_pos ⟨rfl,by decide⟩];simp[runP,endP,expD,jbu,ha,hr]
   | false=>
    rw[if_neg (fun q=>by cases q.1),if_neg,if_neg (fun q=>absurd q.2 (by decide))]
    ·simp[runP,endP,expD,jbu,ha]
    ·intro q;have:=hs a [] rfl q.2;omega
  | [a,b]=>
   rw[runP,jcc];cases ha:dig a with
   | true=>
    rw[if_pos ⟨rfl,by decide⟩];show runP [b] (.exq true 1) _=_;rw[runP,jcc];cases hb:dig b with
    | true=>
     rw[if_pos ⟨rfl,by decide⟩];simp[runP,endP,expD,jbu,ha,hb,hr]
    | false=>
     have hb32:b≠32:=fun q=>hl (by rw[q];rfl)
     rw[if_neg (fun q=>by cases q.1),if_neg (fun q=>by cases q.2),if_neg (fun q=>hb32 q.1)];simp[runP,endP,expD,jbu,ha,hb]
   | false=>
    rw[if_neg (fun q=>by cases q.1),if_neg,if_neg (fun q=>absurd q.2 (by decide))]
    ·show runP [b] .ded r=_;rw[jc4];simp[expD,jbu,ha]
    ·intro q;have:=hs a [b] rfl q.2;omega
  | a::b::c::t=>
   have en:expD (a::b::c::t)=none:=by
    rw[expD,if_neg];intro q;have:=q.2.1;simp at this
   rw[en,runP,jcc];cases ha:dig a with
   | false=>
    rw[if_neg (fun q=>by cases q.1),if_neg,if_neg (fun q=>absurd q.2 (by decide))]
    ·exact jc4 _ _
    ·intro q;have:=hs a _ rfl q.2;omega
   | true=>
    rw[if_pos ⟨rfl,by decide⟩];show runP (b::c::t) (.exq true 1) _=none
    have hbl:∀r',runP (c::t) .beh r'=none:=fun r'=>by
     rw[jf7,if_neg];intro q
     have:(c::t).getLast?=some 32:=by
      have hne:c::t≠ []:=by simp
      rw[List.getLast?_eq_some_getLast hne];have:=List.all_eq_true.1 q _ (List.getLast_mem hne);rw[eq_of_beq this]
     refine hl ?_;rw[←this];simp[List.getLast?_cons_cons]
    rw[runP,jcc];cases hb:dig b with
    | false=>
     rw[if_neg (fun q=>by cases q.1),if_neg (fun q=>by cases q.2)];by_cases h32:b=32
     ·rw[if_pos ⟨h32,by decide⟩];exact hbl _
     ·rw[if_neg (fun q=>h32 q.1)];exact jc4 _ _
    | true=>
     rw[if_pos ⟨rfl,by decide⟩];show runP (c::t) (.exq true 2) _=none;rw[runP,jcc,if_neg (fun q=>absurd q.2 (by decide)),if_neg (fun q=>by cases q.2)];by_cases h32:c=32
     ·rw[if_pos ⟨h32,by decide⟩];have:=hbl;have e:=this {r with pw:=0};rw[runP,jcc,if_pos h32]at e;rw[jf7]at e ⊢;split at e
      ·cases e
      ·rename_i q;rw[if_neg q]
     ·rw[if_neg (fun q=>h32 q.1)];exact jc4 _ _
 obtain⟨hp,hd⟩:=h0
 match x,hx with
 | [],_=>rfl
 | c::l,hx=>
  by_cases h43:c=43
  ·subst h43
   have e:jcc (.exq false 0) r 43=(.exq true 0,{r with down:=false}):=by
    rw[jcc,if_neg (fun q=>absurd q.1 (by decide)),if_pos ⟨.inl rfl,rfl⟩];rfl
   have hl:l.getLast?≠some 32:=by
    intro q;cases l with
    | nil=>cases q
    | cons a t=>exact hx (by rw[List.getLast?_cons_cons];exact q)
   have tt:=two l true {r with down:=false} hl hp (fun _ _ _ q=>by cases q);rw[runP,e];show Option.map _ (runP l (.exq true 0) {r with down:=false})=(expD l).map _;rw[tt];cases expD l<;>simp
  ·by_cases h45:c=45
   ·subst h45
    have e:jcc (.exq false 0) r 45=(.exq true 0,{r with down:=true}):=by
     rw[jcc,if_neg (fun q=>absurd q.1 (by decide)),if_pos ⟨.inr rfl,rfl⟩];rfl
    have hl:l.getLast?≠some 32:=by
     intro q;cases l with
     | nil=>cases q
     | cons a t=>exact hx (by rw[List.getLast?_cons_cons];exact q)
    have tt:=two l true {r with down:=true} hl hp (fun _ _ _ q=>by cases q);rw[runP,e];show Option.map _ (runP l (.exq true 0) {r with down:=true})=((expD l).map _).map _;rw[tt];cases expD l<;>simp
   ·rw[two (c::l) false r hx hp (fun a t e _=>by cases e;exact⟨h43,h45⟩)]
    have:expZ (c::l)=expD (c::l):=by
     unfold expZ;split
     ·rename_i e;cases e;exact absurd rfl h43
     ·rename_i e;cases e;exact absurd rfl h45
     ·rfl
    rw[this];cases expD (c::l) <;>simp[hd]
theorem jdl{c:Int}:∀{l:List Int},c∉l→ahead c l=l∧past c l=none
 | [],_=>⟨rfl,rfl⟩
 | a::l,h=>by
  simp only[List.mem_cons,not_or]at h;have ha:(a !=c)=true:=by simpa using Ne.symm h.1
  obtain⟨h1,h2⟩:=jdl h.2;refine⟨?_,?_⟩
  ·show List.takeWhile _ (a::l)=_;rw[List.takeWhile_cons_of_pos (p:=fun x=>x !=c) ha];exact congrArg _ h1
  ·unfold past at h2 ⊢;rw[List.dropWhile_cons_of_pos (p:=fun x=>x !=c) ha];exact h2
theorem jde{c:Int}:∀{d:List Int}{r:List Int},c∉d→ahead c (d++c::r)=d∧past c (d++c::r)=some r
 | [],r,_=>by
  have:(c !=c)=false:=by simp
  refine⟨?_,?_⟩
  ·show List.takeWhile _ (c::r)=_;rw[List.takeWhile_cons_of_neg (p:=fun x=>x !=c) (by simp)]
  ·unfold past;rw[List.nil_append,List.dropWhile_cons_of_neg (p:=fun x=>x !=c) (by simp)]
 | a::d,r,h=>by
  simp only[List.mem_cons,not_or]at h;have ha:(a !=c)=true:=by simpa using Ne.symm h.1
  obtain⟨h1,h2⟩:=jde (r:=r) h.2;refine⟨?_,?_⟩
  ·show List.takeWhile _ (a::(d++c::r))=_;rw[List.takeWhile_cons_of_pos (p:=fun x=>x !=c) ha];exact congrArg _ h1
  ·unfold past at h2 ⊢;rw[List.cons_append,List.dropWhile_cons_of_pos (p:=fun x=>x !=c) ha];exact h2
theorem jd2{d:List Int}(h:jbu d=true){c:Int}(hc:dig c=false):c∉d:=fun q=>by
 have:=List.all_eq_true.1 h c q;rw[hc]at this;cases this
theorem jeq{c:Int}:∀{d l:List Int},c∉d→ahead c (d++l)=d++ahead c l
 | [],_,_=>rfl
 | a::d,l,h=>by
  simp only[List.mem_cons,not_or]at h;have ha:(a !=c)=true:=by simpa using Ne.symm h.1
  have:=jeq (l:=l) h.2;show List.takeWhile _ (a::(d++l))=_;rw[List.takeWhile_cons_of_pos (p:=fun x=>x !=c) ha];exact congrArg _ this
theorem jdj{c a:Int}(l:List Int)(h:a≠c):ahead c (a::l)=a::ahead c l:=
 jeq (d:=[a]) (by simpa using Ne.symm h)
section
variable {ja4 : Bool → List Int → Int → Num} {binD : List Int → List Int}
theorem dec_bad{d w:List Int}{c:Int}(hd:jbu d=true)(hc:dig c=false)(h69:c≠69)(h46:c≠46)(neg:Bool):decR ja4 neg (d++c::w)=none:=by
 have n69:(69:Int) ∉d:=jd2 hd (by decide);have n46:(46:Int) ∉d:=jd2 hd (by decide);unfold decR;split
 ·rfl
 ·dsimp only;rw[jeq n69,jdj _ h69,jeq n46,jdj _ h46,if_neg];intro q;have:=q.2.1;rw[jjl]at this;simp only[jbu,List.all_cons,hc,Bool.false_and,Bool.and_false]at this;cases this
theorem dec_bad2{d d2 w:List Int}{c:Int}(hd:jbu d=true)(hd2:jbu d2=true)(hc:dig c=false)(h69:c≠69)(neg:Bool):decR ja4 neg (d++46::(d2++c::w))=none:=by
 have n69:(69:Int) ∉d:=jd2 hd (by decide);have n46:(46:Int) ∉d:=jd2 hd (by decide);have m69:(69:Int) ∉d2:=jd2 hd2 (by decide);unfold decR;split
 ·rfl
 ·dsimp only;rw[jeq n69,jdj _ (by decide),jeq m69,jdj _ h69,(jde n46).1,(jde n46).2,if_neg];intro q;have:=q.2.2;rw[Option.getD_some,jjl]at this;simp only[jbu,List.all_cons,hc,Bool.false_and,Bool.and_false]at this;cases this
theorem drop_mem(d w:List Int)(c:Int)(h:w≠ []):c∈(d++c::w).dropLast:=by
 rw[List.dropLast_append_of_ne_nil (by simp),List.dropLast_cons_of_ne_nil h];simp
theorem bits_no{l:List Int}{c:Int}(h:c∈l)(hc:c≠48∧c≠49):jcb l=false:=by
 cases e:jcb l with
 | false=>rfl
 | true=>
  have:=List.all_eq_true.1 e c h;simp only[jae]at this;omega
theorem not_dig{c:Int}(h:dig c=false):c≠48∧c≠49:=by
 unfold dig at h;have:=jac h;omega
theorem jjq{d w:List Int}{c:Int}(hc:dig c=false)(hw:w≠ []∨c≠66)(neg:Bool):
  (bodR ja4 binD neg (d++c::w)=none∧(d++c::w).getLast?=some 66)∨(bodR ja4 binD neg (d++c::w)=decR ja4 neg (d++c::w)):=by
 unfold bodR;by_cases h:2≤(d++c::w).length∧(d++c::w).getLast?=some 66
 ·rw[if_pos h];left
  have hw:w≠ []:=by
   rcases hw with q | q
   ·exact q
   ·intro e;subst e;have:=h.2;simp at this;exact q this
  refine⟨?_,h.2⟩;rw[if_neg];intro q;rw[bits_no (drop_mem d w c hw) (not_dig hc)]at q;cases q.2
 ·rw[if_neg h];exact .inr rfl
theorem bod_bad{d w:List Int}{c:Int}(hd:jbu d=true)(hc:dig c=false)(h69:c≠69)(h46:c≠46)(hw:w≠ []∨c≠66)(neg:Bool):bodR ja4 binD neg (d++c::w)=none:=by
 rcases jjq (ja4:=ja4) (binD:=binD) (d:=d) hc hw neg with h | h
 ·exact h.1
 ·rw[h,dec_bad hd hc h69 h46]
theorem jkf{w:List Int}(h:w.getLast?≠some 32)(h0:w≠ [])(r:Rd):runP w .beh r=none:=by
 rw[jf7,if_neg];intro q;rw[List.getLast?_eq_some_getLast h0]at h;have:=List.all_eq_true.1 q _ (List.getLast_mem h0);exact h (congrArg some (eq_of_beq this))
theorem jdy{d w:List Int}{c:Int}(h:w≠ []):(d++c::w).getLast?=w.getLast?:=by
 cases w with
 | nil=>exact absurd rfl h
 | cons a t=>
  rw[List.getLast?_append,List.getLast?_cons_cons,List.getLast?_eq_some_getLast (l:=a::t) (by simp)];rfl
theorem exp_last{x:List Int}{e:Int}(h:expZ x=some e):x.getLast?≠some 66:=by
 have key:∀l:List Int,∀e,expD l=some e→l.getLast?≠some 66:=by
  intro l e h q;unfold expD at h;split at h
  ·rename_i hh;have hm:(66:Int)∈l:=List.mem_of_getLast? q;have:=List.all_eq_true.1 hh.2.2 66 hm;revert this;decide
  ·cases h
 unfold expZ at h;split at h
 ·rename_i l;intro q;cases l with
  | nil=>cases h
  | cons a t=>exact key _ _ h (by rw[List.getLast?_cons_cons]at q;exact q)
 ·rename_i l;intro q;cases hl:expD l with
  | none=>rw[hl]at h;cases h
  | some z=>
   cases l with
   | nil=>cases hl
   | cons a t=>exact key _ _ hl (by rw[List.getLast?_cons_cons]at q;exact q)
 ·exact key _ _ h
theorem fin_exp{x:List Int}(hx:x.getLast?≠some 32){r:Rd}(h:r.pw=0∧r.down=false∧r.bin=false):
  (runP x (.exq false 0) r).bind (finP ja4 binD)=(expZ x).map fun e=>ja4 r.neg r.ds (r.sc-e):=by
 have q:=run_exp x hx r ⟨h.1,h.2.1⟩;cases h1:runP x (.exq false 0) r with
 | none=>
  rw[h1]at q;cases h2:expZ x with
  | none=>rfl
  | some e=>rw[h2]at q;cases q
 | some r'=>
  rw[h1]at q;cases h2:expZ x with
  | none=>rw[h2]at q;cases q
  | some e=>
   rw[h2]at q;simp only[Option.map_some,Option.some.injEq,Prod.mk.injEq]at q;obtain⟨q1,q2,q3,q4,q5⟩:=q;show finP ja4 binD r'=some _;rw[finP,if_neg (by rw[q2,h.2.2];decide),q1,q3,q4,q5]
theorem run_body{u:List Int}(hu:u.getLast?≠some 32)(neg:Bool):(runP u (.bod false false) {neg:=neg}).bind (finP ja4 binD)=bodR ja4 binD neg u:=by
 obtain⟨d,v,rfl,hd,hv⟩:=split_digs u;have n69:(69:Int) ∉d:=jd2 hd (by decide);have n46:(46:Int) ∉d:=jd2 hd (by decide);rw[ji3 d v false false _ hd];simp only[List.nil_append,Bool.false_or,Bool.false_eq_true,if_false];rcases hv with rfl | ⟨c,w,rfl,hc⟩
 ·-- digits alone
  have hl:¬(2≤(d++ []).length∧(d++ []).getLast?=some 66):=by
   rw[List.append_nil];intro q;have:=List.mem_of_getLast? q.2;exact jd2 hd (by decide) this
  unfold bodR decR;rw[if_neg hl,List.append_nil,(jdl n69).1,(jdl n69).2];dsimp only;rw[(jdl n46).1,(jdl n46).2];cases d with
  | nil=>rfl
  | cons a t=>
   have hn:jbu []=true:=rfl;rw[if_pos ⟨by simp,hd,hn⟩];show finP ja4 binD _=_;simp[finP]
 ·have hw32:w≠ []→w.getLast?≠some 32:=fun h q=>hu (by rw[jdy h];exact q)
  rw[runP];show(runP w (bodN _ c _ _).1 (bodN _ c _ _).2).bind _=_;unfold bodN;rw[if_neg (by rw[hc];decide)];by_cases h46:c=46
  ·subst h46;rw[if_pos ⟨rfl,rfl⟩];obtain⟨d2,v2,rfl,hd2,hv2⟩:=split_digs w;have m69:(69:Int) ∉d2:=jd2 hd2 (by decide);dsimp only;rw[ji3 d2 v2 _ true _ hd2];simp only[if_true];rcases hv2 with rfl | ⟨c2,x,rfl,hc2⟩
   ·have hl:¬(2≤(d++46::(d2++ [])).length∧(d++46::(d2++ [])).getLast?=some 66):=by
     rw[List.append_nil];intro q;have:=List.mem_of_getLast? q.2;simp only[List.mem_append,List.mem_cons]at this;rcases this with q | q | q
     ·exact jd2 hd (by decide) q
     ·cases q
     ·exact jd2 hd2 (by decide) q
    unfold bodR decR;have no:(69:Int) ∉d++46::d2:=by simp[n69,m69]
    rw[if_neg hl,List.append_nil,(jdl no).1,(jdl no).2];dsimp only;rw[(jde n46).1,(jde n46).2];rw[Option.getD_some];by_cases he:d++d2=[]
    ·have h1:d=[]:=(List.append_eq_nil_iff.1 he).1;have h2:d2=[]:=(List.append_eq_nil_iff.1 he).2;subst h1 h2;rw[if_neg (fun q=>q.1 rfl)];rfl
    ·rw[if_pos ⟨he,hd,hd2⟩]
     have hs:(!d.isEmpty || !d2.isEmpty)=true:=by
      cases d with
      | nil=>cases d2 with
       | nil=>exact absurd rfl he
       | cons=>rfl
      | cons=>rfl
     rw[hs];show finP ja4 binD _=_;simp[finP]
   ·rw[runP];show(runP x (bodN _ c2 _ _).1 (bodN _ c2 _ _).2).bind _=_;unfold bodN;rw[if_neg (by rw[hc2];decide),if_neg (fun q=>by cases q.2)];have hx32:x≠ []→x.getLast?≠some 32:=fun h q=>hu (by rw[jdy (by simp),jdy h];exact q)
    have hne:d2++c2::x≠ []:=by simp
    by_cases h69:c2=69
    ·subst h69
     have hx:x.getLast?≠some 32:=by
      cases x with
      | nil=>simp
      | cons a t=>exact hx32 (by simp)
     have hR:bodR ja4 binD neg (d++46::(d2++69::x))=if d++d2=[]then none else(expZ x).map fun e=>ja4 neg (d++d2) (d2.length-e):=by
      have e1:decR ja4 neg (d++46::(d2++69::x))=if d++d2=[]then none else(expZ x).map fun e=>ja4 neg (d++d2) (d2.length-e):=by
       have no:(69:Int) ∉d++46::d2:=by simp[n69,m69]
       have ea:d++46::(d2++69::x)=(d++46::d2)++69::x:=by simp
       unfold decR;rw[ea,(jde no).1,(jde no).2];dsimp only;cases hx:expZ x with
       | none=>by_cases he:d++d2=[] <;>simp[he]
       | some e=>
        dsimp only;rw[(jde n46).1,(jde n46).2,Option.getD_some];by_cases he:d++d2=[]
        ·rw[if_pos he,if_neg (fun q=>q.1 he)]
        ·rw[if_neg he,if_pos ⟨he,hd,hd2⟩];rfl
      rcases jjq (ja4:=ja4) (binD:=binD) (d:=d) (w:=d2++69::x) (c:=46) (by decide) (.inl hne) neg with⟨h1,h2⟩ | h1
      ·rw[h1]
       have hxx:expZ x=none:=by
        cases hx:expZ x with
        | none=>rfl
        | some e=>
         have:=exp_last hx;rw[jdy hne]at h2;cases x with
         | nil=>simp at h2
         | cons a t=>rw[jdy (by simp)]at h2;exact absurd h2 this
       rw[hxx];split<;>rfl
      ·rw[h1,e1]
     rw[hR];by_cases he:d++d2=[]
     ·have h1:d=[]:=(List.append_eq_nil_iff.1 he).1;have h2:d2=[]:=(List.append_eq_nil_iff.1 he).2;subst h1 h2;show(runP x .ded _).bind _=_;rw[jc4,if_pos he];rfl
     ·have hs:(!d.isEmpty || !d2.isEmpty)=true:=by
       cases d with
       | nil=>cases d2 with
        | nil=>exact absurd rfl he
        | cons=>rfl
       | cons=>rfl
      rw[hs,if_neg (by decide),if_pos rfl,if_neg he];rw[fin_exp hx ⟨rfl,rfl,rfl⟩];simp
    ·have hR:bodR ja4 binD neg (d++46::(d2++c2::x))=none:=by
      rcases jjq (ja4:=ja4) (binD:=binD) (d:=d) (w:=d2++c2::x) (c:=46) (by decide) (.inl hne) neg with⟨h1,_⟩ | h1
      ·exact h1
      ·rw[h1,dec_bad2 hd hd2 hc2 h69]
     rw[hR];by_cases hs:(!d.isEmpty || !d2.isEmpty)=false
     ·rw[if_pos hs,jc4];rfl
     ·rw[if_neg hs,if_neg h69,if_neg (fun q=>by cases q.2)];by_cases h32:c2=32
      ·have hx0:x≠ []:=fun q=>hu (by subst q h32;rw[jdy (by simp)];simp)
       rw[if_pos h32,jkf (hx32 hx0) hx0];rfl
      ·rw[if_neg h32,jc4];rfl
  ·rw[if_neg (fun q=>h46 q.1)];by_cases h69:c=69
   ·subst h69
    have hw:w.getLast?≠some 32:=by
     cases w with
     | nil=>simp
     | cons a t=>exact hw32 (by simp)
    have hR:bodR ja4 binD neg (d++69::w)=if d=[]then none else(expZ w).map fun e=>ja4 neg d (0-e):=by
     have e1:decR ja4 neg (d++69::w)=if d=[]then none else(expZ w).map fun e=>ja4 neg d (0-e):=by
      unfold decR;rw[(jde n69).1,(jde n69).2];dsimp only;cases hx:expZ w with
      | none=>by_cases he:d=[] <;>simp[he]
      | some e=>
       dsimp only;rw[(jdl n46).1,(jdl n46).2,Option.getD_none,List.append_nil];by_cases he:d=[]
       ·rw[if_pos he,if_neg (fun q=>q.1 he)]
       ·rw[if_neg he,if_pos ⟨he,hd,rfl⟩];rfl
     rcases jjq (ja4:=ja4) (binD:=binD) (d:=d) (w:=w) (c:=69) (by decide) (.inr (by decide)) neg with⟨h1,h2⟩ | h1
     ·rw[h1]
      have hxx:expZ w=none:=by
       cases hx:expZ w with
       | none=>rfl
       | some e=>
        have:=exp_last hx;cases w with
        | nil=>simp at h2
        | cons a t=>rw[jdy (by simp)]at h2;exact absurd h2 this
      rw[hxx];split<;>rfl
     ·rw[h1,e1]
    rw[hR];cases d with
    | nil=>
     rw[if_pos rfl,if_pos rfl];show(runP w .ded _).bind _=none;rw[jc4];rfl
    | cons a t=>
     rw[if_neg (by simp),if_pos rfl,if_neg (by simp),fin_exp hw ⟨rfl,rfl,rfl⟩]
   ·by_cases h66:c=66∧w=[]
    ·obtain⟨rfl,rfl⟩:=h66;cases d with
     | nil=>rfl
     | cons a t=>
      rw[if_neg (by simp),if_neg (by decide),if_pos ⟨rfl,rfl⟩];unfold bodR;rw[if_pos ⟨by simp,List.getLast?_concat⟩];have e1:((a::t)++ [66]).dropLast=a::t:=List.dropLast_concat;have e2:((a::t)++ [(66:Int)]).length-1=(a::t).length:=by simp
      rw[e1,e2];show finP ja4 binD _=_;rw[finP,if_pos rfl]
    ·have hor:w≠ []∨c≠66:=by
      by_cases q:w=[]
      ·exact .inr fun e=>h66 ⟨e,q⟩
      ·exact .inl q
     rw[bod_bad hd hc h69 h46 hor];by_cases hs:(!d.isEmpty)=false
     ·rw[if_pos hs,jc4];rfl
     ·rw[if_neg hs,if_neg h69];by_cases hb:c=66
      ·have hw0:w≠ []:=fun q=>h66 ⟨hb,q⟩
       rw[if_pos ⟨hb,rfl⟩,jkf (hw32 hw0) hw0];rfl
      ·rw[if_neg (fun q=>hb q.1)];by_cases h32:c=32
       ·have hw0:w≠ []:=fun q=>hu (by subst q h32;simp)
        rw[if_pos h32,jkf (hw32 hw0) hw0];rfl
       ·rw[if_neg h32,jc4];rfl
theorem num_eq(hn:∀neg,ja4 neg [] 0=(false,[],0))(l:List Int):numP ja4 binD l=numR ja4 binD l:=by
 unfold numP numR;rw[run_lead];obtain⟨b,hb,e,hl⟩:=trR_spec (trL l)
 have hL:trL l≠ []→(trL l).head?≠some 32:=by
  intro _ q;have:=List.head?_dropWhile_not (p:=(· ==(32:Int))) (l:=l);unfold trL at q;rw[q]at this;simp at this
 rw[e,jhs b hb]
 have hh:(trR (trL l)).head?≠some 32:=by
  intro q
  have:(trL l).head?=some 32:=by
   rw[e];cases h:trR (trL l)with
   | nil=>rw[h]at q;cases q
   | cons a t=>rw[h]at q;exact q
  exact hL (fun z=>by rw[z]at this;cases this) this
 rw[←e];generalize trR (trL l)=u at*
 match u,hl,hh with
 | [],_,_=>
  show finP ja4 binD _=_;simp[finP,hn,sgnR]
 | c::t,hl,hh=>
  have hc:c≠32:=fun q=>hh (by rw[q];rfl)
  have ht:t.getLast?≠some 32:=by
   intro q;cases t with
   | nil=>cases q
   | cons a r=>exact hl (by rw[List.getLast?_cons_cons];exact q)
  rw[runP];by_cases h:c=43∨c=45
  ·have e:jcc .beg {} c=(.bod false false,{neg:=decide (c=45)}):=by
    rw[jcc,if_neg hc,if_pos h]
   rw[e];show(runP t (.bod false false) {neg:=decide (c=45)}).bind _=_;rw[run_body ht];rcases h with rfl | rfl<;>rfl
  ·have e:jcc .beg {} c=jcc (.bod false false) {} c:=by
    rw[jcc,if_neg hc,if_neg h];rfl
   rw[e];have:=run_body (ja4:=ja4) (binD:=binD) hl false;rw[runP]at this;rw[this];unfold sgnR;split
   ·rename_i q;cases q
   ·rename_i q;cases q;exact absurd (.inr rfl) h
   ·rename_i q;cases q;exact absurd (.inl rfl) h
   ·rfl
end
end Go.Cv
end
section
namespace Go.Cv
def trim0(l:List Int):List Int:=l.dropWhile (· ==48)
def rep48(n:Nat):List Int:=List.replicate n 48
def intP(ds:List Int)(sc q:Int):List Int:=if sc≤q then trim0 (ds++rep48 (q-sc).toNat)else trim0 (ds.take (max (ds.length-(sc-q)) 0).toNat)
def plcZ(ds:List Int)(sc q:Int):List Int:=if ds=[]then []else ds++rep48 (q-sc).toNat
def plcR(ds:List Int)(sc q:Int):List Int:=(plcZ ds sc q).take ((plcZ ds sc q).length-max 0 (min ((plcZ ds sc q).length:Int) (sc-q))).toNat
theorem trim_rep:∀n,trim0 (rep48 n)=[]
 | 0=>rfl
 | n+1=>by
  show List.dropWhile _ (48::rep48 n)=[]
  rw[List.dropWhile_cons_of_pos (p:=fun x=>x==48) (by decide)];exact trim_rep n
theorem trim_head{l:List Int}(h:l.head?≠some 48):trim0 l=l:=by
 cases l with
 | nil=>rfl
 | cons c r=>
  show List.dropWhile _ (c::r)=c::r;rw[List.dropWhile_cons_of_neg (p:=fun x=>x==48)];intro q;exact h (congrArg some (eq_of_beq q))
theorem place_eq{ds:List Int}{sc q:Int}(h0:ds=[]→sc=0)(hh:ds.head?≠some 48):intP ds sc q=plcR ds sc q:=by
 unfold intP plcR plcZ;by_cases he:ds=[]
 ·subst he;rw[if_pos rfl];split
  ·rw[List.nil_append,trim_rep,List.take_nil]
  ·rw[List.take_nil,List.take_nil];rfl
 ·rw[if_neg he];split
  ·rename_i h;have e:((ds++rep48 (q-sc).toNat).length-max 0 (min ((ds++rep48 (q-sc).toNat).length:Int) (sc-q))).toNat=(ds++rep48 (q-sc).toNat).length:=by omega
   rw[e,List.take_of_length_le (Nat.le_refl _),trim_head];cases ds with
   | nil=>exact absurd rfl he
   | cons c r=>exact hh
  ·rename_i h;have e:(q-sc).toNat=0:=by omega
   rw[e,show rep48 0=[]from rfl,List.append_nil];have e2:(max ((ds.length:Int)-(sc-q)) 0).toNat=((ds.length:Int)-max 0 (min (ds.length:Int) (sc-q))).toNat:=by omega
   rw[e2];generalize ((ds.length:Int)-max 0 (min (ds.length:Int) (sc-q))).toNat=k;refine trim_head ?_;cases ds with
   | nil=>exact absurd rfl he
   | cons c r=>
    cases k with
    | zero=>simp
    | succ k=>exact hh
end Go.Cv
end
noncomputable section
namespace Go.Cx
open Go Go.Ab Go.Proofs Go.Shelf Go.Px
open Go.Fx (Ty Vl)
structure Nu where
 g:Bool
 d:Y
 c:Int
instance:Enc Nu where
 enc t:= .agg ⟨[.bool t.g,.string t.d,.int .i64 t.c]⟩
 dec | .agg ⟨[.bool g,.string d,.int .i64 c]⟩=>some ⟨g,d,c⟩ | _=>none
 dec_some:=by
  intro v a h;split at h
  ·cases h;rfl
  ·cases h
 plain_enc _:=rfl
theorem c154:jbz Tryz.prog 154:=cal Tryz.func154 (by kernel_rfl) (by kernel_rfl)
theorem c131:jbz Tryz.prog 131:=cal Tryz.func131 (by kernel_rfl) (by kernel_rfl)
theorem c55:jbz Tryz.prog 55:=cal Tryz.func55 (by kernel_rfl) (by kernel_rfl)
theorem c30:jbz Tryz.prog 30:=cal Tryz.func30 (by kernel_rfl) (by kernel_rfl)
theorem c29:jbz Tryz.prog 29:=cal Tryz.func29 (by kernel_rfl) (by kernel_rfl)
def tlZ(l:J)(c:Int):J:=l.dropWhile (· ==c)
def trZ(l:J)(c:Int):J:=(l.reverse.dropWhile (· ==c)).reverse
noncomputable def s154 (s t : Y) : Bool × Value := (oneB t && asc (bz t), .string (szO (tlZ (bz s) ((bz t).getD 0 0))))
theorem ok154:jam Tryz.prog 154 (sp2 s154):=jd8 c154 fun s t hc w _=>by
 simp only[s154,jaf]at hc;obtain⟨c,h1,h2⟩:=jei hc.1;have hlt:c.toNat<128:=je0 hc.2 0 c (by rw[h1];rfl);have e:Enc.enc t=Value.string ⟨#[c]⟩:=congrArg Value.string h1;rw[e];refine(Any.strings_TrimLeft_one Tryz.lays161 s c hlt w).mono fun e w' ⟨h3,h4⟩=>⟨?_,jct h4⟩
 rw[h3,jhq];simp only[s154,Lib.trimLeftB,jcw,tlZ];rw[jft (q:=(· ==(bz t).getD 0 0)) (fun b=>by rw[←h2,Bool.eq_iff_iff,beq_iff_eq,beq_iff_eq,jlk]),bz_zl]
noncomputable def s131 (s t : Y) : Bool × Value := (decide (s.size ≤ 9223372036854775807) && (oneB t && asc (bz t)), .string (szO (trZ (bz s) ((bz t).getD 0 0))))
theorem ok131:jam Tryz.prog 131 (sp2 s131):=jd8 c131 fun s t hc w _=>by
 simp only[s131,jaf,jae]at hc;obtain⟨c,h1,h2⟩:=jei hc.2.1;have hlt:c.toNat<128:=je0 hc.2.2 0 c (by rw[h1];rfl);have e:Enc.enc t=Value.string ⟨#[c]⟩:=congrArg Value.string h1;rw[e];refine(Any.strings_TrimRight_one Tryz.lays162 s c hlt w hc.1).mono fun e w' ⟨h3,h4⟩=>⟨?_,jct h4⟩
 rw[h3,jhq];simp only[s131,Lib.trimRightB,jcw,trZ];rw[zl,List.map_reverse];have hq:∀b:UInt8,(b==c)=((b.toNat:Int)==(bz t).getD 0 0):=fun b=>by rw[←h2,Bool.eq_iff_iff,beq_iff_eq,beq_iff_eq,jlk]
 have:=jft (p:=(· ==c)) (q:=(· ==(bz t).getD 0 0)) hq s.data.toList.reverse;rw[zl,zl,List.map_reverse]at this;rw[this];rfl
noncomputable def s55 (s t : Y) : Bool × Value := (decide (s.size ≤ 9223372036854775807) && (decide (t.size ≤ 1000) && asc (bz t)), .string (szO (jch (bz s) (bz t))))
theorem ok55:jam Tryz.prog 55 (sp2 s55):=jd8 c55 fun s t hc w _=>by
 simp only[s55,jaf,jae]at hc;obtain⟨h1,h2,h3⟩:=hc;refine(Any.strings_Trim_laid Tryz.lays160 info128' s t w (by omega) (by omega) (je0 h3)).mono fun e w' ⟨h5,h6⟩=>⟨?_,h6⟩
 rw[h5,jhq,trim_zl];simp only[s55,jcw];rfl
def s30(s:Y)(n:Int):Bool×Value:=(decide (0≤n∧n≤1000∧s.size≤1000),.string (szO (repZ (bz s) n.toNat)))
theorem ok30:jam Tryz.prog 30 (sp2 s30):=jd8 c30 fun s n hc w _=>by
 obtain⟨h1,h2,h3⟩:=jab hc
 have e:Enc.enc n=Value.int .i64 (n.toNat:Int):=by
  show Value.int .i64 n=_;rw[Int.toNat_of_nonneg h1]
 rw[e];have hm:s.size*n.toNat≤1000*1000:=Nat.mul_le_mul h3 (by omega);refine(Any.strings_Repeat Tryz.lays105 Tryz.Builder_Extra_105 s n.toNat w (by omega) (by omega)).mono fun e w' ⟨h4,h5⟩=>⟨?_,h5⟩
 rw[h4,jhq,rep_zl];simp only[s30,jcw];rfl
def itoZ(n:Int):J:=zl (Lib.itoa n)
def s29(n:Int):Bool×Value:=(decide (-9223372036854775808≤n∧n≤9223372036854775807),.string (szO (itoZ n)))
theorem ok29:jam Tryz.prog 29 (sp1 s29):=shelf1 c29 fun n hc w ht=>by
 obtain⟨h0,h1⟩:=jab hc;refine(Any.strconv_Itoa (ρ:=Tryz.laysM171_ren) Tryz.laysM171 n h0 h1 w (tab_pow ht)).mono fun e w' ⟨h2,k,os,h3⟩=>⟨?_,by rw[h3];exact Lib.below_grow _ _ (Nat.le_refl _) _ _⟩
 rw[h2,jhq];simp only[s29,jcw];rfl
end Go.Cx
end
noncomputable section
set_option maxHeartbeats 3200000
namespace Go.Cx
open Go Go.Ab Go.Proofs Go.Shelf Go.Px Go.Cv
open Go.Fx (Ty Vl check ja9 most base pw bnd Fit fits tv vv tup V0 T0 jbh jbl jbc jbx str0)
def G0:Env:=Env.nil
theorem ok_G0:jaw Tryz.prog G0:=jap
theorem jj8(l:J):List.drop (Int.toNat 0) l=l:=rfl
def binG:J→Int→Int
 | [],a=>a
 | c::r,a=>binG r (2*a+(c-48))
theorem w8s{c:Int}(h:48≤c∧c<256):IntKind.wrap .u8 (c-48)=c-48:=w8 (by omega)
theorem bit_cases{s:Y}{i:Nat}(h:i<s.size)(hb:jcb (bz s)=true):jaj s i=48∨jaj s i=49:=by
 have hl:i<(bz s).length:=by rw[jal];exact h
 have e:jaj s i=(bz s)[i]:=by rw[jep,List.getD_eq_getElem?_getD,List.getElem?_eq_getElem hl];rfl
 rw[jcb,List.all_eq_true]at hb;have:=hb (bz s)[i] (List.getElem_mem hl);rw[e];simpa using this
theorem dig_cases{s:Y}{i:Nat}(h:i<s.size)(hb:jbu (bz s)=true):48≤jaj s i∧jaj s i≤57:=by
 have hl:i<(bz s).length:=by rw[jal];exact h
 have e:jaj s i=(bz s)[i]:=by rw[jep,List.getD_eq_getElem?_getD,List.getElem?_eq_getElem hl];rfl
 rw[jbu,List.all_eq_true]at hb;have:=hb (bz s)[i] (List.getElem_mem hl);rw[e];simpa[dig]using this
theorem bz_slice1{s:Y}:bz (s.extract 1 s.size)=(bz s).drop 1:=by
 rw[jb7,List.take_of_length_le (by rw[jal];omega)]
theorem jdo{s:Y}(n:Nat):bz (s.extract 0 n)=(bz s).take n:=by rw[jb7];rfl
theorem jcn(s:Y)(i j:Nat):(s.extract i j).size=min j s.size-i:=ByteArray.size_extract
theorem jcd(s:Y):(s.toList==(ByteArray.mk #[]).toList)=decide (bz s=[]):=by
 rw[jcv];rfl
def s152(c:U8):Bool×Value:=(true,B (c.n==32))
theorem fn152:Fn1 Tryz.prog 152 Tryz.f152:= .m Tryz.func152
theorem v152(c:U8)(R:Value→Prop):jaz Tryz.prog G0 noL Tryz.f152 [Enc.enc c] (fun _=>none) 0 (fun v _ _=>R v)=(R (B (U8.n c==32))):=by kernel_rfl
theorem ok152:jam Tryz.prog 152 (sp1 s152):=by
 refine jby ok_G0 hmix fn152 jak jag fun c hc=> ?_
 rw[ja0,v152]
 try dsimp only[s152]
def s213(c:U8):Bool×Value:=(true,B (dig c.n))
theorem fn213:Fn1 Tryz.prog 213 Tryz.f213:= .m Tryz.func213
theorem v213(c:U8)(R:Value→Prop):jaz Tryz.prog G0 noL Tryz.f213 [Enc.enc c] (fun _=>none) 0 (fun v _ _=>R v)=(bif decide (U8.n c≥48) || true then R (B (decide (U8.n c≥48) &&decide (U8.n c≤57)))else False):=by kernel_rfl
theorem ok213:jam Tryz.prog 213 (sp1 s213):=by
 refine jby ok_G0 hmix fn213 jak jag fun c hc=> ?_
 rw[ja0,v213]
 try dsimp only[s213]
 refine c_t (by simp) ?_;show Value.bool _=Value.bool _;congr 1;rw[Bool.eq_iff_iff];simp[dig]
def s192(c:U8):Bool×Value:=(true,B (dig c.n))
theorem fn192:Fn1 Tryz.prog 192 Tryz.f192:= .m Tryz.func192
theorem v192(c:U8)(R:Value→Prop):jaz Tryz.prog G0 noL Tryz.f192 [Enc.enc c] (fun _=>none) 0 (fun v _ _=>R v)=(bif decide (U8.n c≥48) || true then R (B (decide (U8.n c≥48) &&decide (U8.n c≤57)))else False):=by kernel_rfl
theorem ok192:jam Tryz.prog 192 (sp1 s192):=by
 refine jby ok_G0 hmix fn192 jak jag fun c hc=> ?_
 rw[ja0,v192]
 try dsimp only[s192]
 refine c_t (by simp) ?_;show Value.bool _=Value.bool _;congr 1;rw[Bool.eq_iff_iff];simp[dig]
def s141(k:Int):Bool×Value:=(true,I (most k))
theorem fn141:Fn1 Tryz.prog 141 Tryz.f141:= .m Tryz.func141
theorem v141(k:Int)(R:Value→Prop):jaz Tryz.prog G0 noL Tryz.f141 [Enc.enc k] (fun _=>none) 0 (fun v _ _=>R v)=(bif k==1 then R (I 9)else R (I 31)):=by kernel_rfl
theorem ok141:jam Tryz.prog 141 (sp1 s141):=by
 refine jby ok_G0 hmix fn141 jak jag fun k hc=> ?_
 rw[ja0,v141]
 try dsimp only[s141]
 repeat' apply cond_intro<;>intro h
 all_goals grind [s141,most]
def s208(k:Int):Bool×Value:=(true,I (base k))
theorem fn208:Fn1 Tryz.prog 208 Tryz.f208:= .m Tryz.func208
theorem v208(k:Int)(R:Value→Prop):jaz Tryz.prog G0 noL Tryz.f208 [Enc.enc k] (fun _=>none) 0 (fun v _ _=>R v)=(bif k==1 then R (I 10)else R (I 2)):=by kernel_rfl
theorem ok208:jam Tryz.prog 208 (sp1 s208):=by
 refine jby ok_G0 hmix fn208 jak jag fun k hc=> ?_
 rw[ja0,v208]
 try dsimp only[s208]
 repeat' apply cond_intro<;>intro h
 all_goals grind [s208,base]
def G1:Env:=Env.nil.add 141 (sp1 s141)
theorem ok_G1:jaw Tryz.prog G1:=jai jap ok141
def s66(t:Ty):Bool×Value:=(true,I (check t))
theorem fn66:Fn1 Tryz.prog 66 Tryz.f66:= .m Tryz.func66
def b4(a:Fx.Ty)(b:Int):Bool:=Fx.Ty.k a==b
def pm(b:Bool)(a:Fx.Ty):Bool:=decide (Fx.Ty.p a>Fx.most (Fx.Ty.k a)) || (b8 (Fx.Ty.q a) 0 || (decide (Fx.Ty.q a>Fx.Ty.p a) || br (b4 a 2) (Fx.Ty.q a !=0 || (Fx.Ty.v a || b)) (Fx.Ty.v a || b)))
theorem v66(t:Ty)(R:Value→Prop):jaz Tryz.prog G1 noL Tryz.f66 [Enc.enc t] (fun _=>none) 0 (fun v _ _=>R v)=(fq (br (!b4 t 1) (!b4 t 2 || (b8 (Fx.Ty.p t) 1 || pm true t)) (b8 (Fx.Ty.p t) 1 || pm true t)) (br (!b4 t 1) (!b4 t 2 || (b8 (Fx.Ty.p t) 1 || pm (!b5 (Fx.Ty.s t) ao) t)) (b8 (Fx.Ty.p t) 1 || pm (!b5 (Fx.Ty.s t) ao) t)) (ak 5) (ak 0) R):=by kernel_rfl
theorem ok66:jam Tryz.prog 66 (sp1 s66):=by
 refine jby ok_G1 hmix fn66 jak jag fun t hc=> ?_
 rw[ja0,v66];delta dx fq ak br b4 b8 pm b5 ao
 try dsimp only[s66]
 repeat' apply cond_intro<;>intro h
 all_goals grind [s66,check,ja9,str0]
def s142(t:Ty):Bool×Value:=(true,I (check t))
theorem fn142:Fn1 Tryz.prog 142 Tryz.f142:= .m Tryz.func142
def oe(a b c:Bool)(d:Value→Prop):Prop:=fq (bif a then b else true) (a&&c) (ak 0) (ak 5) d
theorem v142(t:Ty)(R:Value→Prop):jaz Tryz.prog G1 noL Tryz.f142 [Enc.enc t] (fun _=>none) 0 (fun v _ _=>R v)=(bw (Fx.Ty.v t) true (Fx.Ty.v t || !b5 (Fx.Ty.s t) ao) (R (ak 5)) (jy (b4 t 1) (ns (decide (Fx.Ty.q t≥0)) (Fx.Ty.p t)) true (b4 t 1&& (decide (Fx.Ty.p t≥1) && (decide (Fx.Ty.p t≤9) &&ft (Fx.Ty.q t) 0 (Fx.Ty.p t)))) (R (ak 0)) (oe (b4 t 2) (br (decide (Fx.Ty.p t≥1)) (decide (Fx.Ty.p t≤31) || true) true) (decide (Fx.Ty.p t≥1) && (decide (Fx.Ty.p t≤31) &&Fx.Ty.q t==0)) R))):=by kernel_rfl
theorem ok142:jam Tryz.prog 142 (sp1 s142):=by
 refine jby ok_G1 hmix fn142 jak jag fun t hc=> ?_
 rw[ja0,v142];delta av bw br jy dx fq ak oe b4 e9 ft ns b5 ao
 try dsimp only[s142]
 repeat' apply cond_intro<;>intro h
 all_goals grind [s142,check,ja9,str0,most]
def G2:Env:=(Env.nil.add 66 (sp1 s66)).add 142 (sp1 s142)
theorem ok_G2:jaw Tryz.prog G2:=jai (jai jap ok66) ok142
def s85(t:Ty):Bool×Value:=(true,B (decide (ja9 t)))
theorem fn85:Fn1 Tryz.prog 85 Tryz.f85:= .m Tryz.func85
theorem v85(t:Ty)(R:Value→Prop):jaz Tryz.prog G2 noL Tryz.f85 [Enc.enc t] (fun _=>none) 0 (fun v _ _=>R v)=(R (B (check t==0))):=by kernel_rfl
theorem ok85:jam Tryz.prog 85 (sp1 s85):=by
 refine jby ok_G2 hmix fn85 jak jag fun t hc=> ?_
 rw[ja0,v85]
 try dsimp only[s85]
 show Value.bool _=Value.bool _;congr 1;rw[check];split<;>simp_all
def s68(t:Ty):Bool×Value:=(true,B (decide (ja9 t)))
theorem fn68:Fn1 Tryz.prog 68 Tryz.f68:= .m Tryz.func68
theorem v68(t:Ty)(R:Value→Prop):jaz Tryz.prog G2 noL Tryz.f68 [Enc.enc t] (fun _=>none) 0 (fun v _ _=>R v)=(R (B (check t==0))):=by kernel_rfl
theorem ok68:jam Tryz.prog 68 (sp1 s68):=by
 refine jby ok_G2 hmix fn68 jak jag fun t hc=> ?_
 rw[ja0,v68]
 try dsimp only[s68]
 show Value.bool _=Value.bool _;congr 1;rw[check];split<;>simp_all
def V178_0:Int×Int×Int×Int×Int→E:=fun(b,k,r,x,i)=> [I b,I k,I r,I x,I i]
def B178_0:Int×Int×Int×Int×Int→O:=fun _=> []
def S178_0:LSpec (Int×Int×Int×Int×Int) where
 live:=[0,1,4,5,6]
 mid:=[]
 n:=40
 dec vs bs:=match vs,bs with | [.int .i64 b,.int .i64 k,.int .i64 r,.int .i64 x,.int .i64 i],[]=>some (b,k,r,x,i) | _,_=>none
 pre:=fun(b,k,r,x,i)=>decide (0≤i∧i≤max k 0∧k≤1000) &&x==IntKind.i64.wrap (pw b i)
 fin:=fun(b,k,r,x,i) Z=>Z (.exit 0) [I b,I k,I r,I (IntKind.i64.wrap (pw b k)),I (max k 0)] []
theorem r178_0(b:Int)(k:Int)(r:Int)(x:Int)(i:Int)(jk:Tmps)(R:Exit→E→O→Prop):(jbp Tryz.prog G2 noL Tryz.f178.ntmps (ja6 Tryz.f178 0) (tl S178_0.live (V178_0 (b,k,r,x,i)) jk) (ml S178_0.mid (B178_0 (b,k,r,x,i))) S178_0.n fun e t' m' _=>R e (List.map t' S178_0.live) (List.map m' S178_0.mid))=(mw R i k [] (ak k::ak r::kw (x*b)::bp i) (ak k::ak r::az x i) 0 (ak b)):=by kernel_rfl
theorem l178_0:LOKf Tryz.prog (oneL 0 S178_0.h) Tryz.f178:=by
 refine jbe (h:=S178_0.h) (by kernel_rfl) (ja7 ok_G2 hmix (by kernel_rfl) (ja1 _) S178_0 V178_0 B178_0 (fun(b,k,r,x,i)=>(k-i).toNat) ?_ ?_ ?_)
 ·intro vs bs s h;simp only[S178_0]at h;split at h
  all_goals first | (cases h;exact⟨rfl,rfl⟩) | cases h | (split at h<;>first | (rename_i hq;cases h;have hq:=jah hq;subst hq;exact⟨rfl,rfl⟩) | cases h)
 ·exact fun _ _ _ h=>h
 ·intro⟨b,k,r,x,i⟩ jk Z hp hf;rw[r178_0];delta ct mw ak az au bu bp kw;simp only[S178_0]at hp hf
  repeat' apply cond_intro<;>intro h
  ·have h:=jab h;simp only[jaf,jae,beq_iff_eq]at hp;have hw:IntKind.i64.wrap (i+1)=i+1:=w64 (by omega);refine⟨(b,k,r,IntKind.i64.wrap (x*b),i+1),by rw[hw];rfl,rfl,?_,by simp only;omega,hf⟩;simp only[S178_0,jaf,jae,beq_iff_eq];exact⟨by omega,by rw[hp.2,jbc,jbl b hp.1.1]⟩
  ·have h:=jac h;simp only[jaf,jae,beq_iff_eq]at hp;show Z _ _ _;obtain rfl:i=max k 0:=by omega
   rw[hp.2];rcases Int.le_total k 0 with hk | hk
   ·rw[show max k 0=0 by omega]at hp ⊢;rw[jbh b hk,←jbh b (Int.le_refl 0)]at hf;rw[show max k 0=0 by omega]at hf;exact hf
   ·rw[show max k 0=k by omega]at hf ⊢;exact hf
def s178(b:Int)(k:Int):Bool×Value:=(decide (k≤1000),I (IntKind.i64.wrap (pw b k)))
theorem fn178:Fn1 Tryz.prog 178 Tryz.f178:= .m Tryz.func178
theorem v178(b:Int)(k:Int)(R:Value→Prop):jaz Tryz.prog G2 (oneL 0 S178_0.h) Tryz.f178 [Enc.enc b,Enc.enc k] (fun _=>none) 0 (fun v _ _=>R v)=(go (S178_0.pre (b,(k,((0:Int),((1:Int),(0:Int)))))) (R (kw (Fx.pw b k))) Tmps):=by kernel_rfl
theorem ok178:jam Tryz.prog 178 (sp2 s178):=by
 refine jcj ok_G2 hmix fn178 l178_0 jag fun b k hc=> ?_
 rw[ja0,v178];delta go kw;have hc:(k≤1000):=jab hc
 try dsimp only[s178]
 refine cond_intro (fun _ _=>rfl) (fun h=> ?_);have h1:IntKind.i64.wrap (pw b 0)=1:=by rw[jbh b (Int.le_refl 0)];rfl
 simp only[S178_0,h1,Bool.and_eq_false_iff,decide_eq_false_iff_not,beq_eq_false_iff_ne]at h;omega
def G3:Env:=((Env.nil.add 192 (sp1 s192)).add 208 (sp1 s208)).add 178 (sp2 s178)
theorem ok_G3:jaw Tryz.prog G3:=jai (jai (jai jap ok192) ok208) ok178
def s148(t:Ty):Bool×Value:=(decide (t.p≤1000),I (IntKind.i64.wrap (bnd t)))
theorem fn148:Fn1 Tryz.prog 148 Tryz.f148:= .m Tryz.func148
theorem v148(t:Ty)(R:Value→Prop):jaz Tryz.prog G3 noL Tryz.f148 [Enc.enc t] (fun _=>none) 0 (fun v _ _=>R v)=(ay (decide (Fx.Ty.p t≤1000)) (ep (Fx.pw (Fx.base (Fx.Ty.k t)) (Fx.Ty.p t))) R):=by kernel_rfl
theorem ok148:jam Tryz.prog 148 (sp1 s148):=by
 refine jby ok_G3 hmix fn148 jak jag fun t hc=> ?_
 rw[ja0,v148];delta ay aw ep;have hc:(t.p≤1000):=jab hc
 try dsimp only[s148]
 exact c_t (jaa hc) rfl
def V135_0:Y×Bool×Int→E:=fun(s,b,i)=> [S s,B b,I i]
def B135_0:Y×Bool×Int→O:=fun _=> []
def S135_0:LSpec (Y×Bool×Int) where
 live:=[0,2,3]
 mid:=[]
 n:=60
 dec vs bs:=match vs,bs with | [.string s,.bool b,.int .i64 i],[]=>some (s,b,i) | _,_=>none
 pre:=fun(s,b,i)=>decide (0≤i∧i≤s.size∧s.size≤9223372036854775807)
 fin:=fun(s,b,i) Z=>(bif jbu ((bz s).drop i.toNat)then Z (.exit 0) [S s,B b,I s.size] []else(∀i',Z .ret [S s,B false,I i'] []))
theorem r135_0(s:Y)(b:Bool)(i:Int)(jk:Tmps)(R:Exit→E→O→Prop):(jbp Tryz.prog G3 noL Tryz.f135.ntmps (ja6 Tryz.f135 0) (tl S135_0.live (V135_0 (s,b,i)) jk) (ml S135_0.mid (B135_0 (s,b,i))) S135_0.n fun e t' m' _=>R e (List.map t' S135_0.live) (List.map m' S135_0.mid))=(lc (bq s i) (!dig (ax s i)) s s R i [] (bp i) [ak i] (B false) (ak i) (B b)):=by kernel_rfl
theorem l135_0:LOKf Tryz.prog (oneL 0 S135_0.h) Tryz.f135:=by
 refine jbe (h:=S135_0.h) (by kernel_rfl) (ja7 ok_G3 hmix (by kernel_rfl) (ja1 _) S135_0 V135_0 B135_0 (fun(s,b,i)=>(s.size-i).toNat) ?_ ?_ ?_)
 ·intro vs bs s h;simp only[S135_0]at h;split at h
  all_goals first | (cases h;exact⟨rfl,rfl⟩) | cases h | (split at h<;>first | (rename_i hq;cases h;have hq:=jah hq;subst hq;exact⟨rfl,rfl⟩) | cases h)
 ·exact fun _ _ _ h=>h
 ·intro⟨s,b,i⟩ jk Z hp hf;rw[r135_0];delta kj am dw lc ak au bu bp ax bq;simp only[S135_0]at hp hf;simp only[jae]at hp;apply cond_intro<;>intro h
  ·have h:=jab h;rw[jb4 hp.1 h,jbu,List.all_cons]at hf;refine c_t (jaa (by omega)) ?_;apply cond_intro<;>intro hd
   ·have e:dig (jaj s i.toNat)=false:=by simpa using hd
    rw[e]at hf;exact hf i
   ·have e:dig (jaj s i.toNat)=true:=by simpa using hd
    rw[e,Bool.true_and]at hf;rw[w64 (by omega)];exact⟨(s,b,i+1),rfl,rfl,by simp only[S135_0,jae];omega,by simp only;omega,hf⟩
  ·have h:=jac h;rw[jce (by omega)]at hf;obtain rfl:i=s.size:=by omega
   exact hf
def s135(s:Y):Bool×Value:=(decide (s.size≤9223372036854775807),B (jbu (bz s)))
theorem fn135:Fn1 Tryz.prog 135 Tryz.f135:= .m Tryz.func135
theorem v135(s:Y)(R:Value→Prop):jaz Tryz.prog G3 (oneL 0 S135_0.h) Tryz.f135 [Enc.enc s] (fun _=>none) 0 (fun v _ _=>R v)=(my (Cx.S135_0.pre (s,(false,(0:Int)))) (jbu (cl s)) R):=by kernel_rfl
theorem ok135:jam Tryz.prog 135 (sp1 s135):=by
 refine jby ok_G3 hmix fn135 l135_0 jag fun s hc=> ?_
 rw[ja0,v135];delta ji my cl;have hc:(s.size≤9223372036854775807):=jab hc
 try dsimp only[s135]
 refine c_t (by simp only[S135_0,jae];omega) ?_;rw[jj8];refine cond_intro (fun h=> ?_) (fun h _=> ?_)
 ·rw[h];exact fun _=>rfl
 ·rw[h];exact fun _=>rfl
def V74_0:Y×Bool×Int→E:=fun(s,b,i)=> [S s,B b,I i]
def B74_0:Y×Bool×Int→O:=fun _=> []
def S74_0:LSpec (Y×Bool×Int) where
 live:=[0,2,3]
 mid:=[]
 n:=60
 dec vs bs:=match vs,bs with | [.string s,.bool b,.int .i64 i],[]=>some (s,b,i) | _,_=>none
 pre:=fun(s,b,i)=>decide (0≤i∧i≤s.size∧s.size≤9223372036854775807)
 fin:=fun(s,b,i) Z=>(bif jcb ((bz s).drop i.toNat)then Z (.exit 0) [S s,B b,I s.size] []else(∀i',Z .ret [S s,B false,I i'] []))
theorem r74_0(s:Y)(b:Bool)(i:Int)(jk:Tmps)(R:Exit→E→O→Prop):(jbp Tryz.prog G3 noL Tryz.f74.ntmps (ja6 Tryz.f74 0) (tl S74_0.live (V74_0 (s,b,i)) jk) (ml S74_0.mid (B74_0 (s,b,i))) S74_0.n fun e t' m' _=>R e (List.map t' S74_0.live) (List.map m' S74_0.mid))=(lc (kx (ax s i !=48) true s s i i) (ax s i !=48&&ax s i !=49) s s R i [] (bp i) [ak i] (B false) (ak i) (B b)):=by kernel_rfl
theorem l74_0:LOKf Tryz.prog (oneL 0 S74_0.h) Tryz.f74:=by
 refine jbe (h:=S74_0.h) (by kernel_rfl) (ja7 ok_G3 hmix (by kernel_rfl) (ja1 _) S74_0 V74_0 B74_0 (fun(s,b,i)=>(s.size-i).toNat) ?_ ?_ ?_)
 ·intro vs bs s h;simp only[S74_0]at h;split at h
  all_goals first | (cases h;exact⟨rfl,rfl⟩) | cases h | (split at h<;>first | (rename_i hq;cases h;have hq:=jah hq;subst hq;exact⟨rfl,rfl⟩) | cases h)
 ·exact fun _ _ _ h=>h
 ·intro⟨s,b,i⟩ jk Z hp hf;rw[r74_0];delta kj am dw lc ak au bu bp ax br bq kx;simp only[S74_0]at hp hf;simp only[jae]at hp;apply cond_intro<;>intro h
  ·have h:=jab h;rw[jb4 hp.1 h,jcb,List.all_cons]at hf;refine c_t (by rw[jaa (show 0≤i∧i<(s.size:Int)by omega)];simp) ?_;apply cond_intro<;>intro hd
   ·have e:decide (jaj s i.toNat=48∨jaj s i.toNat=49)=false:=by rw[decide_eq_false_iff_not];simp at hd;omega
    rw[e]at hf;exact hf i
   ·have e:decide (jaj s i.toNat=48∨jaj s i.toNat=49)=true:=by rw[jae];simp at hd;omega
    rw[e,Bool.true_and]at hf;rw[w64 (by omega)];exact⟨(s,b,i+1),rfl,rfl,by simp only[S74_0,jae];omega,by simp only;omega,hf⟩
  ·have h:=jac h;rw[jce (by omega)]at hf;obtain rfl:i=s.size:=by omega
   exact hf
def s74(s:Y):Bool×Value:=(decide (s.size≤9223372036854775807),B (jcb (bz s)))
theorem fn74:Fn1 Tryz.prog 74 Tryz.f74:= .m Tryz.func74
theorem v74(s:Y)(R:Value→Prop):jaz Tryz.prog G3 (oneL 0 S74_0.h) Tryz.f74 [Enc.enc s] (fun _=>none) 0 (fun v _ _=>R v)=(my (Cx.S74_0.pre (s,(false,(0:Int)))) (jcb (cl s)) R):=by kernel_rfl
theorem ok74:jam Tryz.prog 74 (sp1 s74):=by
 refine jby ok_G3 hmix fn74 l74_0 jag fun s hc=> ?_
 rw[ja0,v74];delta ji my cl;have hc:(s.size≤9223372036854775807):=jab hc
 try dsimp only[s74]
 refine c_t (by simp only[S74_0,jae];omega) ?_;rw[jj8];refine cond_intro (fun h=> ?_) (fun h _=> ?_)
 ·rw[h];exact fun _=>rfl
 ·rw[h];exact fun _=>rfl
def V156_0:Y×Int×Int×Int→E:=fun(s,c,r,i)=> [S s,C8 c,I r,I i]
def B156_0:Y×Int×Int×Int→O:=fun _=> []
def S156_0:LSpec (Y×Int×Int×Int) where
 live:=[0,1,4,5]
 mid:=[]
 n:=60
 dec vs bs:=match vs,bs with | [.string s,.int .u8 c,.int .i64 r,.int .i64 i],[]=>some (s,c,r,i) | _,_=>none
 pre:=fun(s,c,r,i)=>decide (0≤i∧i≤s.size∧s.size≤9223372036854775807)
 fin:=fun(s,c,r,i) Z=>(bif hasZ ((bz s).drop i.toNat) c then Z .ret [S s,C8 c,I (i+(Cv.ahead c ((bz s).drop i.toNat)).length),I (i+(Cv.ahead c ((bz s).drop i.toNat)).length)] []else Z (.exit 0) [S s,C8 c,I r,I s.size] [])
theorem r156_0(s:Y)(c:Int)(r:Int)(i:Int)(jk:Tmps)(R:Exit→E→O→Prop):(jbp Tryz.prog G3 noL Tryz.f156.ntmps (ja6 Tryz.f156 0) (tl S156_0.live (V156_0 (s,c,r,i)) jk) (ml S156_0.mid (B156_0 (s,c,r,i))) S156_0.n fun e t' m' _=>R e (List.map t' S156_0.live) (List.map m' S156_0.mid))=(lc (bq s i) (ar s i c) s s R i [ak i] (cq r i) (az r i) (al c) (ak i) (al c)):=by kernel_rfl
theorem l156_0:LOKf Tryz.prog (oneL 0 S156_0.h) Tryz.f156:=by
 refine jbe (h:=S156_0.h) (by kernel_rfl) (ja7 ok_G3 hmix (by kernel_rfl) (ja1 _) S156_0 V156_0 B156_0 (fun(s,c,r,i)=>(s.size-i).toNat) ?_ ?_ ?_)
 ·intro vs bs s h;simp only[S156_0]at h;split at h
  all_goals first | (cases h;exact⟨rfl,rfl⟩) | cases h | (split at h<;>first | (rename_i hq;cases h;have hq:=jah hq;subst hq;exact⟨rfl,rfl⟩) | cases h)
 ·exact fun _ _ _ h=>h
 ·intro⟨s,c,r,i⟩ jk Z hp hf;rw[r156_0];delta kj am dw lc al ak az au bu bp cq ax ar bq;simp only[S156_0]at hp hf;simp only[jae]at hp;apply cond_intro<;>intro h
  ·have h:=jab h;rw[jb4 hp.1 h]at hf;refine c_t (jaa (by omega)) ?_;apply cond_intro<;>intro hd
   ·have hd:jaj s i.toNat=c:=by simpa using hd
    have e1:hasZ (jaj s i.toNat::(bz s).drop (i+1).toNat) c=true:=by simp[hasZ,hd]
    have e2:Cv.ahead c (jaj s i.toNat::(bz s).drop (i+1).toNat)=[]:=by simp[Cv.ahead,hd]
    rw[e1,e2]at hf;simp at hf;exact hf
   ·have hd:¬jaj s i.toNat=c:=by simpa using hd
    have e1:hasZ (jaj s i.toNat::(bz s).drop (i+1).toNat) c=hasZ ((bz s).drop (i+1).toNat) c:=by simp[hasZ,hd]
    rw[e1,jdj _ hd]at hf;rw[w64 (by omega)];refine⟨(s,c,r,i+1),rfl,rfl,by simp only[S156_0,jae];omega,by simp only;omega,?_⟩
    have e3:i+(jaj s i.toNat::Cv.ahead c ((bz s).drop (i+1).toNat)).length=i+1+((Cv.ahead c ((bz s).drop (i+1).toNat)).length:Int):=by
     rw[List.length_cons];omega
    rw[e3]at hf;exact hf
  ·have h:=jac h;rw[jce (by omega)]at hf;obtain rfl:i=s.size:=by omega
   exact hf
def s156(s:Y)(c:U8):Bool×Value:=(decide (s.size≤9223372036854775807),I (Cv.ahead c.n (bz s)).length)
theorem fn156:Fn1 Tryz.prog 156 Tryz.f156:= .m Tryz.func156
theorem v156(s:Y)(c:U8)(R:Value→Prop):jaz Tryz.prog G3 (oneL 0 S156_0.h) Tryz.f156 [Enc.enc s,Enc.enc c] (fun _=>none) 0 (fun v _ _=>R v)=(ip (S156_0.pre (s,(U8.n c,((0:Int),(0:Int))))) (hasZ (cl s) (U8.n c)) (Tmps→R (I (0+((Cv.ahead (U8.n c) (cl s)).length:Int)))) (Tmps→R (I (am s)))):=by kernel_rfl
theorem ok156:jam Tryz.prog 156 (sp2 s156):=by
 refine jcj ok_G3 hmix fn156 l156_0 jag fun s c hc=> ?_
 rw[ja0,v156];delta av ip am cl;have hc:(s.size≤9223372036854775807):=jab hc
 try dsimp only[s156]
 refine c_t (by simp only[S156_0,jae];omega) ?_;rw[jj8];apply cond_intro<;>intro h
 ·exact fun _=>by simp
 ·have:c.n∉bz s:=fun q=>by rw[jbm.2 q]at h;cases h
  rw[(jdl this).1,jal];exact fun _=>rfl
def V82_0:Y×Int×Int×Int→E:=fun(s,r,n,i)=> [S s,C64 r,C64 n,I i]
def B82_0:Y×Int×Int×Int→O:=fun _=> []
def S82_0:LSpec (Y×Int×Int×Int) where
 live:=[0,2,3,4]
 mid:=[]
 n:=60
 dec vs bs:=match vs,bs with | [.string s,.int .u64 r,.int .u64 n,.int .i64 i],[]=>some (s,r,n,i) | _,_=>none
 pre:=fun(s,r,n,i)=>decide (0≤i∧i≤s.size∧s.size≤64∧0≤n∧n<2^i.toNat) &&jcb (bz s)
 fin:=fun(s,r,n,i) Z=>Z (.exit 0) [S s,C64 r,C64 (binG ((bz s).drop i.toNat) n),I s.size] []
theorem r82_0(s:Y)(r:Int)(n:Int)(i:Int)(jk:Tmps)(R:Exit→E→O→Prop):(jbp Tryz.prog G3 noL Tryz.f82.ntmps (ja6 Tryz.f82 0) (tl S82_0.live (V82_0 (s,r,n,i)) jk) (ml S82_0.mid (B82_0 (s,r,n,i))) S82_0.n fun e t' m' _=>R e (List.map t' S82_0.live) (List.map m' S82_0.mid))=(bif dw s i then bm (bq s i) R [] (bk s (.int .u64 (aw (ny n 2 (ax s i) .u64 .u8) .u64)::bp i) (.int .u64 r))else R (.exit 0) (bk s [.int .u64 n,ak i] (.int .u64 r)) []):=by kernel_rfl
theorem l82_0:LOKf Tryz.prog (oneL 0 S82_0.h) Tryz.f82:=by
 refine jbe (h:=S82_0.h) (by kernel_rfl) (ja7 ok_G3 hmix (by kernel_rfl) (ja1 _) S82_0 V82_0 B82_0 (fun(s,r,n,i)=>(s.size-i).toNat) ?_ ?_ ?_)
 ·intro vs bs s h;simp only[S82_0]at h;split at h
  all_goals first | (cases h;exact⟨rfl,rfl⟩) | cases h | (split at h<;>first | (rename_i hq;cases h;have hq:=jah hq;subst hq;exact⟨rfl,rfl⟩) | cases h)
 ·exact fun _ _ _ h=>h
 ·intro⟨s,r,n,i⟩ jk Z hp hf;rw[r82_0];delta bk ak bm au bu bp aw ny ax am bq dw;simp only[S82_0]at hp hf;simp only[jaf,jae]at hp;obtain⟨hp,hb⟩:=hp;apply cond_intro<;>intro h
  ·have h:=jab h;rw[jb4 hp.1 h,binG]at hf;refine c_t (jaa (by omega)) ?_;have hc:=bit_cases (s:=s) (i:=i.toNat) (by omega) hb
   have h2:(2:Int) ^ (i+1).toNat=2*2^i.toNat:=by
    rw[show(i+1).toNat=i.toNat+1 by omega,Int.pow_succ,Int.mul_comm]
   have h3:(2:Int) ^ (i+1).toNat≤2^64:=by
    have:(2:Nat) ^ (i+1).toNat≤2^64:=Nat.pow_le_pow_right (by omega) (by omega);have h':((2^ (i+1).toNat:Nat):Int)≤((2^64:Nat):Int):=Int.ofNat_le.2 this;simpa using h'
   have h4:(2:Int) ^64=18446744073709551616:=by decide
   rw[w64 (n:=i+1) (by omega),w8s (by omega),wu64 (n:=jaj s i.toNat-48) (by omega),wu64 (n:=n*2) (by omega),wu64 (by omega),Int.mul_comm n 2];exact⟨(s,r,2*n+(jaj s i.toNat-48),i+1),rfl,rfl,by simp only[S82_0,jaf,jae];exact⟨by omega,hb⟩,by simp only;omega,hf⟩
  ·have h:=jac h;rw[jce (by omega)]at hf;obtain rfl:i=s.size:=by omega
   exact hf
def s82(s:Y):Bool×Value:=(jcb (bz s) &&decide (s.size≤64),C64 (binG (bz s) 0))
theorem fn82:Fn1 Tryz.prog 82 Tryz.f82:= .m Tryz.func82
theorem v82(s:Y)(R:Value→Prop):jaz Tryz.prog G3 (oneL 0 S82_0.h) Tryz.f82 [Enc.enc s] (fun _=>none) 0 (fun v _ _=>R v)=(go (S82_0.pre (s,((0:Int),((0:Int),(0:Int))))) (R (.int .u64 (binG (cl s) 0))) Tmps):=by kernel_rfl
theorem ok82:jam Tryz.prog 82 (sp1 s82):=by
 refine jby ok_G3 hmix fn82 l82_0 jag fun s hc=> ?_
 rw[ja0,v82];delta go cl
 try dsimp only[s82]
 simp only[s82,jaf,jae]at hc;refine c_t (by simp only[S82_0,jaf,jae];exact⟨by simp;omega,hc.1⟩) ?_;exact fun _=>rfl
def G4:Env:=((Env.nil.add 142 (sp1 s142)).add 148 (sp1 s148)).add 135 (sp1 s135)
theorem ok_G4:jaw Tryz.prog G4:=jai (jai (jai jap ok142) ok148) ok135
def nz(l:J):J:=trZ (tlZ l 48) 48
def ja4(g:Bool)(l:J)(q:Int):Num:=if nz l=[]then(false,[],0)else(g,nz l,q-((tlZ l 48).length-(nz l).length))
def binD(l:J):J:=decZ (binG l 0)
def decG:J→Int→Int
 | [],a=>a
 | c::r,a=>decG r (10*a+(c-48))
abbrev numV(x:Num):Value:= .agg ⟨[.bool x.1,.string (szO x.2.1),.int .i64 x.2.2]⟩
def num0:Num:=(false,[],0)
def rdN(l:J):Option Num:=if 255<l.length then none else numR ja4 binD l
theorem jkd(c:Int)(l:J):tlZ (c::l) c=tlZ l c:=by simp[tlZ]
theorem tl_ne{c d:Int}(h:d≠c)(l:J):tlZ (d::l) c=d::l:=by simp[tlZ,h]
theorem tr_snoc(c:Int)(l:J):trZ (l++ [c]) c=trZ l c:=by simp[trZ]
theorem tr_ne{c d:Int}(h:d≠c)(l:J):trZ (l++ [d]) c=l++ [d]:=by simp[trZ,h]
theorem jjv(l:J)(c:Int):(trZ l c).length≤l.length:=by
 rw[trZ,List.length_reverse];exact Nat.le_trans (List.dropWhile_sublist _).length_le (by rw[List.length_reverse];omega)
theorem jg3(l:J)(c:Int):(tlZ l c).length≤l.length:=(List.dropWhile_sublist _).length_le
theorem trL_eq(l:J):trL l=tlZ l 32:=rfl
theorem trR_eq(l:J):trR l=trZ l 32:=rfl
theorem jgz{s:Y}{n:Int}(h:(s.size:Int)=n+1)(h0:0≤n):bz s=bz (s.extract 0 n.toNat)++ [jaj s n.toNat]:=by
 have e:=List.take_append_drop n.toNat (bz s);have d:=jb4 (s:=s) (i:=n) h0 (by omega);rw[jce (s:=s) (i:=n+1) (by omega)]at d;rw[jdo,←d,e]
theorem jed{s:Y}(h:0<s.size):bz s=jaj s 0::bz (s.extract 1 s.size):=by
 rw[bz_slice1];exact jb4 (s:=s) (i:=0) (by omega) (by omega)
theorem jg7{s:Y}(h:s.size=0):bz s=[]:=List.length_eq_zero_iff.1 (by rw[jal];exact h)
theorem jgn{s:Y}{l:J}(h:bz s=l):s=szO l:=by rw[jcw,←h,jf6]
theorem jci(l:J):(szO l).size=l.length:=by rw[jcw,jcf]
def V79_0:Y×Y→E:=fun(s,r)=> [S s,S r]
def B79_0:Y×Y→O:=fun _=> []
def S79_0:LSpec (Y×Y) where
 live:=[0,2]
 mid:=[]
 n:=60
 dec vs bs:=match vs,bs with | [.string s,.string r],[]=>some (s,r) | _,_=>none
 pre:=fun(s,r)=>decide (s.size≤9223372036854775807)
 fin:=fun(s,r) Z=>∀s':Y,bz s'=tlZ (bz s) 32→Z (.exit 0) [S s',S r] []
def nh(b c d:Bool)(a h l:Y)(e:Exit→E→O→Prop)(f:O)(i m:E)(j:Nat)(g k:Value):Prop:=bif br (decide (am a>0)) (b&&true) true then bif decide (am a>0) &&c then bm d e f (g:: .string h::i)else e (.exit j) (k:: .string l::m) f else False
theorem r79_0(s:Y)(r:Y)(jk:Tmps)(R:Exit→E→O→Prop):(jbp Tryz.prog G4 noL Tryz.f79.ntmps (ja6 Tryz.f79 0) (tl S79_0.live (V79_0 (s,r)) jk) (ml S79_0.mid (B79_0 (s,r))) S79_0.n fun e t' m' _=>R e (List.map t' S79_0.live) (List.map m' S79_0.mid))=(nh (bq s 0) (ar s 0 32) (d5 0 1 (am s) (am s) (am s)) s r r R [] [] [] 0 (S (jl s 1)) (S s)):=by kernel_rfl
theorem l79_0:∀t m n K,S79_0.h t m n K→Ab.Sem Tryz.prog Tryz.f79.ntmps (.loop (ja6 Tryz.f79 0)) t m n K:=by
 refine ja7 ok_G4 hmix (by kernel_rfl) (ja1 _) S79_0 V79_0 B79_0 (fun(s,r)=>s.size) ?_ ?_ ?_
 ·intro vs bs s h;simp only[S79_0]at h;split at h
  all_goals first | (cases h;exact⟨rfl,rfl⟩) | cases h | (split at h<;>first | (rename_i hq;cases h;have hq:=jah hq;subst hq;exact⟨rfl,rfl⟩) | cases h)
 ·exact fun _ _ _ h=>h
 ·intro⟨s,r⟩ jk Z hp hf;rw[r79_0];delta bm am br nh jl d5 ax ar bq;simp only[S79_0]at hp hf;have hp:s.size≤9223372036854775807:=jab hp;have hx:(decide ((s.size:Int)>0))=true→0<s.size:=fun h=>by have:=jab h;omega
  refine c_t (by rcases Nat.eq_zero_or_pos s.size with q | q<;>simp[q]) (cond_intro (fun h=> ?_) (fun h=> ?_))
  ·simp only[jaf]at h;have h0:=hx h.1;have hc:jaj s 0=32:=by simpa using h.2
   rw[jed h0,hc,jkd]at hf;refine c_t (by simp;try omega) ?_;exact⟨(s.extract 1 s.size,r),rfl,rfl,by simp only[S79_0,jae,jcn];omega,by simp only[jcn];omega,hf⟩
  ·refine hf s ?_;rcases Nat.eq_zero_or_pos s.size with h0 | h0
   ·rw[jg7 h0];rfl
   ·rw[jed h0];refine(tl_ne (fun q=> ?_) _).symm;simp[q,h0]at h
def V79_2:Y×Y→E:=fun(s,r)=> [S s,S r]
def B79_2:Y×Y→O:=fun _=> []
def S79_2:LSpec (Y×Y) where
 live:=[0,2]
 mid:=[]
 n:=60
 dec vs bs:=match vs,bs with | [.string s,.string r],[]=>some (s,r) | _,_=>none
 pre:=fun(s,r)=>decide (s.size≤9223372036854775807)
 fin:=fun(s,r) Z=>∀s':Y,bz s'=trZ (bz s) 32→Z (.exit 2) [S s',S r] []
theorem r79_2(s:Y)(r:Y)(jk:Tmps)(R:Exit→E→O→Prop):(jbp Tryz.prog G4 noL Tryz.f79.ntmps (ja6 Tryz.f79 2) (tl S79_2.live (V79_2 (s,r)) jk) (ml S79_2.mid (B79_2 (s,r))) S79_2.n fun e t' m' _=>R e (List.map t' S79_2.live) (List.map m' S79_2.mid))=(nh (b6 (gq s 1) (am s)) (jaj s (gq s 1).toNat==32) (ky s 1) s r r R [] [] [] 2 (S (ib s 1)) (S s)):=by kernel_rfl
theorem l79_2:∀t m n K,S79_2.h t m n K→Ab.Sem Tryz.prog Tryz.f79.ntmps (.loop (ja6 Tryz.f79 2)) t m n K:=by
 refine ja7 ok_G4 hmix (by kernel_rfl) (ja1 _) S79_2 V79_2 B79_2 (fun(s,r)=>s.size) ?_ ?_ ?_
 ·intro vs bs s h;simp only[S79_2]at h;split at h
  all_goals first | (cases h;exact⟨rfl,rfl⟩) | cases h | (split at h<;>first | (rename_i hq;cases h;have hq:=jah hq;subst hq;exact⟨rfl,rfl⟩) | cases h)
 ·exact fun _ _ _ h=>h
 ·intro⟨s,r⟩ jk Z hp hf;rw[r79_2];delta bm am br nh aw gq ib d5 ky b6;simp only[S79_2]at hp hf;have hp:s.size≤9223372036854775807:=jab hp;have hl:∀h:0<s.size,IntKind.i64.wrap ((s.size:Int)-1)=((s.size-1:Nat):Int):=fun h=>by rw[w64 (by omega)];omega
  refine c_t (by
    rcases Nat.eq_zero_or_pos s.size with q | q
    ·simp[q]
    ·rw[hl q];simp
     try omega) (cond_intro (fun h=> ?_) (fun h=> ?_))
  ·simp only[jaf]at h;have h0:0<s.size:=by have:=jab h.1;omega
   rw[hl h0]at h ⊢;have hb:=jgz (s:=s) (n:=((s.size-1:Nat):Int)) (by omega) (by omega);rw[Int.toNat_natCast]at hb;have hc:jaj s (s.size-1)=32:=by simpa using h.2
   rw[hc]at hb;have hb':=hb;rw[hb,tr_snoc]at hf;refine c_t (by simp;try omega) ?_;exact⟨(s.extract 0 (s.size-1),r),rfl,rfl,by simp only[S79_2,jae,jcn];omega,by simp only[jcn];omega,hf⟩
  ·have hz:bz s=trZ (bz s) 32:=by
    rcases Nat.eq_zero_or_pos s.size with h0 | h0
    ·rw[jg7 h0];rfl
    ·have hb:=jgz (s:=s) (n:=((s.size-1:Nat):Int)) (by omega) (by omega);rw[Int.toNat_natCast]at hb;rw[hb];refine(tr_ne (fun q=> ?_) _).symm;rw[hl h0]at h;simp[q,h0]at h
   exact hf s hz
theorem lok79:LOKf Tryz.prog (twoL 0 S79_0.h 2 S79_2.h) Tryz.f79:=jeu (by kernel_rfl) (by kernel_rfl) l79_0 l79_2
def s79(s:Y):Bool×Value:=(decide (s.size≤9223372036854775807),S (szO (trZ (tlZ (bz s) 32) 32)))
theorem fn79:Fn1 Tryz.prog 79 Tryz.f79:= .m Tryz.func79
theorem v79(s:Y)(R:Value→Prop):jaz Tryz.prog G4 (twoL 0 S79_0.h 2 S79_2.h) Tryz.f79 [Enc.enc s] (fun _=>none) 0 (fun v _ _=>R v)=(bif S79_0.pre (s,ao)then∀a:Y,bz a=tlZ (bz s) 32→Tmps→(bif S79_2.pre (a,ao)then∀b:Y,bz b=trZ (bz a) 32→Tmps→R (S b)else False)else False):=by kernel_rfl
theorem ok79:jam Tryz.prog 79 (sp1 s79):=by
 refine jby ok_G4 hmix fn79 lok79 jag fun s hc=> ?_
 rw[ja0,v79];delta ao;have hc:(s.size≤9223372036854775807):=jab hc
 try dsimp only[s79]
 refine c_t (jaa hc) fun s1 h1 _=> ?_
 have hs:s1.size≤s.size:=by rw[←jal,←jal,h1];exact jg3 _ _
 refine c_t (jaa (by omega)) fun s2 h2 _=> ?_
 rw[h1]at h2;rw[jgn h2]
def V80_0:Bool×Y×Int×Y×Bool×Int→E:=fun(g,s,q,x,xb,xi)=> [B g,S s,I q,.pointer (some ⟨0,0,some 0⟩)]
def B80_0:Bool×Y×Int×Y×Bool×Int→O:=fun(g,s,q,x,xb,xi)=> [some ⟨[B xb,S x,I xi],33,true⟩]
def S80_0:LSpec (Bool×Y×Int×Y×Bool×Int) where
 live:=[0,1,2,6]
 mid:=[0]
 n:=60
 dec vs bs:=match vs,bs with | [.bool g,.string s,.int .i64 q,.pointer (some ⟨0,0,some 0⟩)],[some ⟨[.bool xb,.string x,.int .i64 xi],33,true⟩]=>some (g,s,q,x,xb,xi) | _,_=>none
 pre:=fun(g,s,q,x,xb,xi)=>decide (s.size≤9223372036854775807)
 fin:=fun(g,s,q,x,xb,xi) Z=>∀s':Y,bz s'=tlZ (bz s) 48→Z (.exit 0) [B g,S s',I q,.pointer (some ⟨0,0,some 0⟩)] [some ⟨[B xb,S x,I xi],33,true⟩]
def fx(a:Bool)(b:Y)(c:Int):Option Blk:=some (.mk [.bool a,.string b,ak c] 33 true)
theorem r80_0(g:Bool)(s:Y)(q:Int)(x:Y)(xb:Bool)(xi:Int)(jk:Tmps)(R:Exit→E→O→Prop):(jbp Tryz.prog G4 noL Tryz.f80.ntmps (ja6 Tryz.f80 0) (tl S80_0.live (V80_0 (g,s,q,x,xb,xi)) jk) (ml S80_0.mid (B80_0 (g,s,q,x,xb,xi))) S80_0.n fun e t' m' _=>R e (List.map t' S80_0.live) (List.map m' S80_0.mid))=(nh (bq s 0) (ar s 0 48) (d5 0 1 (am s) (am s) (am s)) s (jl s 1) s R [fx xb x xi] [ak q,aq 0] [ak q,aq 0] 0 (B g) (B g)):=by kernel_rfl
theorem l80_0:∀t m n K,S80_0.h t m n K→Ab.Sem Tryz.prog Tryz.f80.ntmps (.loop (ja6 Tryz.f80 0)) t m n K:=by
 refine ja7 ok_G4 hmix (by kernel_rfl) (ja1 _) S80_0 V80_0 B80_0 (fun(g,s,q,x,xb,xi)=>s.size) ?_ ?_ ?_
 ·intro vs bs s h;simp only[S80_0]at h;split at h
  all_goals first | (cases h;exact⟨rfl,rfl⟩) | cases h | (split at h<;>first | (rename_i hq;cases h;have hq:=jah hq;subst hq;exact⟨rfl,rfl⟩) | cases h)
 ·exact fun _ _ _ h=>h
 ·intro⟨g,s,q,x,xb,xi⟩ jk Z hp hf;rw[r80_0];delta bm am br nh aq ak fx jl d5 ax ar bq;simp only[S80_0]at hp hf;have hp:s.size≤9223372036854775807:=jab hp;have hx:(decide ((s.size:Int)>0))=true→0<s.size:=fun h=>by have:=jab h;omega
  refine c_t (by rcases Nat.eq_zero_or_pos s.size with q | q<;>simp[q]) (cond_intro (fun h=> ?_) (fun h=> ?_))
  ·simp only[jaf]at h;have h0:=hx h.1;have hc:jaj s 0=48:=by simpa using h.2
   rw[jed h0,hc,jkd]at hf;refine c_t (by simp;try omega) ?_;exact⟨(g,s.extract 1 s.size,q,x,xb,xi),rfl,rfl,by simp only[S80_0,jae,jcn];omega,by simp only[jcn];omega,hf⟩
  ·refine hf s ?_;rcases Nat.eq_zero_or_pos s.size with h0 | h0
   ·rw[jg7 h0];rfl
   ·rw[jed h0];refine(tl_ne (fun q=> ?_) _).symm;simp[q,h0]at h
def V80_2:Bool×Y×Int×Y×Bool×Int→E:=fun(g,s,q,x,xb,xi)=> [B g,S s,I q,.pointer (some ⟨0,0,some 0⟩)]
def B80_2:Bool×Y×Int×Y×Bool×Int→O:=fun(g,s,q,x,xb,xi)=> [some ⟨[B xb,S x,I xi],33,true⟩]
def S80_2:LSpec (Bool×Y×Int×Y×Bool×Int) where
 live:=[0,1,2,6]
 mid:=[0]
 n:=60
 dec vs bs:=match vs,bs with | [.bool g,.string s,.int .i64 q,.pointer (some ⟨0,0,some 0⟩)],[some ⟨[.bool xb,.string x,.int .i64 xi],33,true⟩]=>some (g,s,q,x,xb,xi) | _,_=>none
 pre:=fun(g,s,q,x,xb,xi)=>decide (s.size≤1000000∧ -2000000+s.size≤q∧q≤2000000)
 fin:=fun(g,s,q,x,xb,xi) Z=>∀s':Y,bz s'=trZ (bz s) 48→Z (.exit 2) [B g,S s',I (q-((s.size:Int)-s'.size)),.pointer (some ⟨0,0,some 0⟩)] [some ⟨[B xb,S x,I xi],33,true⟩]
theorem r80_2(g:Bool)(s:Y)(q:Int)(x:Y)(xb:Bool)(xi:Int)(jk:Tmps)(R:Exit→E→O→Prop):(jbp Tryz.prog G4 noL Tryz.f80.ntmps (ja6 Tryz.f80 2) (tl S80_2.live (V80_2 (g,s,q,x,xb,xi)) jk) (ml S80_2.mid (B80_2 (g,s,q,x,xb,xi))) S80_2.n fun e t' m' _=>R e (List.map t' S80_2.live) (List.map m' S80_2.mid))=(nh (b6 (gq s 1) (am s)) (jaj s (gq s 1).toNat==48) (ky s 1) s (ib s 1) s R [fx xb x xi] [I (cm q 1),aq 0] [ak q,aq 0] 2 (B g) (B g)):=by kernel_rfl
theorem l80_2:∀t m n K,S80_2.h t m n K→Ab.Sem Tryz.prog Tryz.f80.ntmps (.loop (ja6 Tryz.f80 2)) t m n K:=by
 refine ja7 ok_G4 hmix (by kernel_rfl) (ja1 _) S80_2 V80_2 B80_2 (fun(g,s,q,x,xb,xi)=>s.size) ?_ ?_ ?_
 ·intro vs bs s h;simp only[S80_2]at h;split at h
  all_goals first | (cases h;exact⟨rfl,rfl⟩) | cases h | (split at h<;>first | (rename_i hq;cases h;have hq:=jah hq;subst hq;exact⟨rfl,rfl⟩) | cases h)
 ·exact fun _ _ _ h=>h
 ·intro⟨g,s,q,x,xb,xi⟩ jk Z hp hf;rw[r80_2];delta bm am br nh aq ak cm fx aw gq ib d5 ky b6;simp only[S80_2]at hp hf;have hp:s.size≤1000000∧ -2000000+s.size≤q∧q≤2000000:=jab hp;have hl:∀h:0<s.size,IntKind.i64.wrap ((s.size:Int)-1)=((s.size-1:Nat):Int):=fun h=>by rw[w64 (by omega)];omega
  refine c_t (by
    rcases Nat.eq_zero_or_pos s.size with q | q
    ·simp[q]
    ·rw[hl q];simp
     try omega) (cond_intro (fun h=> ?_) (fun h=> ?_))
  ·simp only[jaf]at h;have h0:0<s.size:=by have:=jab h.1;omega
   rw[hl h0]at h ⊢;have hb:=jgz (s:=s) (n:=((s.size-1:Nat):Int)) (by omega) (by omega);rw[Int.toNat_natCast]at hb;have hc:jaj s (s.size-1)=48:=by simpa using h.2
   rw[hc]at hb;have hb':=hb;rw[hb,tr_snoc]at hf;refine c_t (by simp;try omega) ?_;rw[w64 (by omega)];refine⟨(g,s.extract 0 (s.size-1),q-1,x,xb,xi),rfl,rfl,by simp only[S80_2,jae,jcn];omega,by simp only[jcn];omega,fun s' e=> ?_⟩;have e2:q-1-(((s.extract 0 (s.size-1)).size:Int)-s'.size)=q-((s.size:Int)-s'.size):=by rw[jcn];omega
   rw[e2];exact hf s' e
  ·have hz:bz s=trZ (bz s) 48:=by
    rcases Nat.eq_zero_or_pos s.size with h0 | h0
    ·rw[jg7 h0];rfl
    ·have hb:=jgz (s:=s) (n:=((s.size-1:Nat):Int)) (by omega) (by omega);rw[Int.toNat_natCast]at hb;rw[hb];refine(tr_ne (fun q=> ?_) _).symm;rw[hl h0]at h;simp[q,h0]at h
   have e:=hf s hz;rw[show q-((s.size:Int)-s.size)=q by omega]at e;exact e
theorem lok80:LOKf Tryz.prog (twoL 0 S80_0.h 2 S80_2.h) Tryz.f80:=jeu (by kernel_rfl) (by kernel_rfl) l80_0 l80_2
def s80(g:Bool)(s:Y)(q:Int):Bool×Value:=(decide (s.size≤1000∧ -100000≤q∧q≤100000),numV (ja4 g (bz s) q))
theorem fn80:Fn1 Tryz.prog 80 Tryz.f80:= .m Tryz.func80
def kr:E:=[.bool false,cu,ak 0]
theorem v80(g:Bool)(s:Y)(q:Int)(R:Value→Prop):jaz Tryz.prog G4 (twoL 0 S80_0.h 2 S80_2.h) Tryz.f80 [Enc.enc g,Enc.enc s,Enc.enc q] (fun _=>none) 0 (fun v _ _=>R v)=(bif Cx.S80_0.pre (g,(s,(q,(ao,(false,(0:Int))))))then∀a:Y,bz a=tlZ (bz s) 48→Tmps→(bif S80_2.pre (g,(a,(q,(ao,(false,(0:Int))))))then∀b:Y,bz b=trZ (bz a) 48→Tmps→dx (b5 b ao) (b9 kr) (b9 (B g::bk b [] (I (q-(am a-am b))))) R else False)else False):=by kernel_rfl
theorem ok80:jam Tryz.prog 80 (sp3 s80):=by
 refine jgf ok_G4 hmix fn80 lok80 jag fun g s q hc=> ?_
 rw[ja0,v80];delta dx b9 bk am ak ao cu kr b5;have hc:(s.size≤1000∧ -100000≤q∧q≤100000):=jab hc
 try dsimp only[s80]
 refine c_t (jaa (by omega)) fun s1 h1 _=> ?_
 have hs:s1.size≤s.size:=by rw[←jal,←jal,h1];exact jg3 _ _
 refine c_t (jaa (by omega)) fun s2 h2 _=> ?_
 rw[h1]at h2;have l1:(s1.size:Int)=(tlZ (bz s) 48).length:=by rw[←jal,h1]
 have l2:(s2.size:Int)=(nz (bz s)).length:=by rw[←jal,h2];rfl
 have h2:bz s2=nz (bz s):=h2;rw[jcd,h2];apply cond_intro<;>intro h
 ·have h:=jab h;rw[ja4,if_pos h];show _=Value.agg ⟨[.bool false,.string (szO []),.int .i64 0]⟩;rw[jcw];rfl
 ·have h:=jac h;rw[ja4,if_neg h,l1,l2,jgn h2]
def V157_0:Y×Int×Bool×Bool×Int×Int→E:=fun(s,r,rb,ng,n,i)=> [S s,I r,B rb,B ng,I n,I i]
def B157_0:Y×Int×Bool×Bool×Int×Int→O:=fun _=> []
def S157_0:LSpec (Y×Int×Bool×Bool×Int×Int) where
 live:=[0,2,3,4,5,6]
 mid:=[]
 n:=60
 dec vs bs:=match vs,bs with | [.string s,.int .i64 r,.bool rb,.bool ng,.int .i64 n,.int .i64 i],[]=>some (s,r,rb,ng,n,i) | _,_=>none
 pre:=fun(s,r,rb,ng,n,i)=>decide (0≤i∧i≤s.size∧s.size≤2∧0≤n∧(i=0→n=0)∧(i=1→n<10)∧n<100) &&jbu (bz s)
 fin:=fun(s,r,rb,ng,n,i) Z=>Z (.exit 0) [S s,I r,B rb,B ng,I (decG ((bz s).drop i.toNat) n),I s.size] []
theorem r157_0(s:Y)(r:Int)(rb:Bool)(ng:Bool)(n:Int)(i:Int)(jk:Tmps)(R:Exit→E→O→Prop):(jbp Tryz.prog G4 noL Tryz.f157.ntmps (ja6 Tryz.f157 0) (tl S157_0.live (V157_0 (s,r,rb,ng,n,i)) jk) (ml S157_0.mid (B157_0 (s,r,rb,ng,n,i))) S157_0.n fun e t' m' _=>R e (List.map t' S157_0.live) (List.map m' S157_0.mid))=(bif dw s i then bm (bq s i) R [] (S s::gp rb r (I (jm s 10 n i)::bp i) (B ng))else R (.exit 0) (S s::gp rb r (az n i) (B ng)) []):=by kernel_rfl
theorem l157_0:LOKf Tryz.prog (oneL 0 S157_0.h) Tryz.f157:=by
 refine jbe (h:=S157_0.h) (by kernel_rfl) (ja7 ok_G4 hmix (by kernel_rfl) (ja1 _) S157_0 V157_0 B157_0 (fun(s,r,rb,ng,n,i)=>(s.size-i).toNat) ?_ ?_ ?_)
 ·intro vs bs s h;simp only[S157_0]at h;split at h
  all_goals first | (cases h;exact⟨rfl,rfl⟩) | cases h | (split at h<;>first | (rename_i hq;cases h;have hq:=jah hq;subst hq;exact⟨rfl,rfl⟩) | cases h)
 ·exact fun _ _ _ h=>h
 ·intro⟨s,r,rb,ng,n,i⟩ jk Z hp hf;rw[r157_0];delta ak gp az bm au bu bp aw k9 ax jm am bq dw;simp only[S157_0]at hp hf;simp only[jaf,jae]at hp;obtain⟨hp,hb⟩:=hp;apply cond_intro<;>intro h
  ·have h:=jab h;rw[jb4 hp.1 h,decG]at hf;refine c_t (jaa (by omega)) ?_;have hc:=dig_cases (s:=s) (i:=i.toNat) (by omega) hb;rw[w64 (n:=i+1) (by omega),w8s (by omega),w64 (n:=jaj s i.toNat-48) (by omega),w64 (n:=10*n) (by omega),w64 (by omega)];exact⟨(s,r,rb,ng,10*n+(jaj s i.toNat-48),i+1),rfl,rfl,by simp only[S157_0,jaf,jae];exact⟨by omega,hb⟩,by simp only;omega,hf⟩
  ·have h:=jac h;rw[jce (by omega)]at hf;obtain rfl:i=s.size:=by omega
   exact hf
theorem jgx:∀(l:J)(a:Int),decG l a=l.foldl (fun a c=>10*a+(c-48)) a
 | [],_=>rfl
 | c::l,a=>jgx l _
theorem expD_size{s:Y}:expD (bz s)=if 1≤s.size∧s.size≤2∧jbu (bz s)=true then some (decG (bz s) 0)else none:=by
 rw[expD,jal,jgx]
theorem decG_rng{l:J}(h:jbu l=true)(h2:l.length≤2):0≤decG l 0∧decG l 0≤99:=by
 match l,h,h2 with
 | [],_,_=>simp[decG]
 | [a],h,_=>
  simp[jbu,dig]at h;simp only[decG];omega
 | [a,b],h,_=>
  simp[jbu,dig]at h;simp only[decG];omega
 | _::_::_::_,_,h2=>simp at h2
theorem exb{s:Y}:(decide ((s.size:Int)<1) || (decide ((s.size:Int)>2) || !jbu (bz s)))= !(expD (bz s)).isSome:=by
 rw[expD_size,Bool.eq_iff_iff];simp only[Bool.or_eq_true,jae,Bool.not_eq_true'];split
 ·rename_i h;simp[h.2.2];omega
 ·rename_i h;simp only[Option.isSome_none,true_iff,iff_true];cases hd:jbu (bz s)
  ·simp
  ·simp only[hd,and_true]at h;simp;omega
theorem jgj{c:Int}{l:J}:expZ (c::l)=if c=45 then(expD l).map (fun n=> -n)else if c=43 then expD l else expD (c::l):=by
 by_cases h:c=45
 ·subst h;rfl
 ·by_cases h2:c=43
  ·subst h2;rfl
  ·rw[if_neg h,if_neg h2];unfold expZ;split
   ·rename_i q;cases q;exact absurd rfl h2
   ·rename_i q;cases q;exact absurd rfl h
   ·rfl
theorem jgi{s:Y}{e:Int}(h:expD (bz s)=some e):e=decG (bz s) 0∧0≤e∧e≤99∧1≤s.size∧s.size≤2∧jbu (bz s)=true:=by
 rw[expD_size]at h;split at h
 ·rename_i q;cases h;have:=decG_rng q.2.2 (by rw[jal];omega);exact⟨rfl,this.1,this.2,q⟩
 ·cases h
theorem lim_or{s:Y}(h:s.size≤9223372036854775807):(decide ((s.size:Int)<1) || (decide ((s.size:Int)>2) || decide (s.size≤9223372036854775807) &&true))=true:=by simp[h]
def s157(s:Y):Bool×Value:=(decide (s.size≤9223372036854775807),tup [I ((expZ (bz s)).getD 0),B (expZ (bz s)).isSome])
theorem fn157:Fn1 Tryz.prog 157 Tryz.f157:= .m Tryz.func157
def sa(d:Bool)(b:Y)(a:Int)(e:Prop)(c:Value→Prop):Prop:=bif b8 a 1 || (decide (a>2) || b7 b&&true)then bif b8 a 1 || (decide (a>2) || !jbu (bz b))then c (du jw (ak 0))else go (S157_0.pre (b,((0:Int),(false,(d,((0:Int),(0:Int))))))) e Tmps else False
theorem v157(s:Y)(R:Value→Prop):jaz Tryz.prog G4 (oneL 0 S157_0.h) Tryz.f157 [Enc.enc s] (fun _=>none) 0 (fun v _ _=>R v)=(jy (decide (am s>0)) (bq s 0&& (ar s 0 43 || bq s 0&&true)) true (decide (am s>0) && (ar s 0 43 || ar s 0 45)) (fu (d5 0 1 (am s) (am s) (am s)) s 0 (sa (ar s 0 45) (jl s 1) (cw (jl s 1)) (dx (ar s 0 45) (du jb (ep (0-decG (cl (jl s 1)) 0))) (du jb (I (decG (cl (jl s 1)) 0))) R) R) False) (sa false s (am s) (R (du jb (I (decG (cl s) 0)))) R)):=by kernel_rfl
theorem ok157:jam Tryz.prog 157 (sp1 s157):=by
 refine jby ok_G4 hmix fn157 l157_0 jag fun s hc=> ?_
 rw[ja0,v157];delta av br jy go du ak jw b8 b7 sa cl jb am bq fu dx jl aw ep ax ar cw d5;have hc:(s.size≤9223372036854775807):=jab hc
 try dsimp only[s157]
 refine c_t (by rcases Nat.eq_zero_or_pos s.size with q | q<;>simp[q]) (cond_intro (fun h=> ?_) (fun h=> ?_))
 ·simp only[jaf,Bool.or_eq_true,jae,beq_iff_eq]at h;have h0:0<s.size:=by omega
  have h:jaj s 0=43∨jaj s 0=45:=h.2;have hs1:(s.extract 1 s.size).size≤9223372036854775807:=by rw[jcn];omega
  refine c_t (by simp;omega) (c_t (by simp;omega) (c_t (lim_or hs1) ?_));have hz:=jgj (c:=jaj s 0) (l:=bz (s.extract 1 s.size));rw[←jed h0]at hz;rw[Int.toNat_one];rw[exb];generalize s.extract 1 s.size=s1 at*;cases he:expD (bz s1)with
  | none=>
   have:expZ (bz s)=none:=by
    rw[hz,he];rcases h with h | h
    ·rw[if_neg (by omega),if_pos (by exact h)]
    ·rw[if_pos (by exact h)];rfl
   rw[this];exact c_t rfl rfl
  | some e=>
   obtain⟨e1,e2,e3,e4,e5,e6⟩:=jgi he;refine c_f rfl (c_t (by simp only[S157_0,jaf,jae];exact⟨by simp;omega,e6⟩) fun x=> ?_);rw[jj8,←e1];apply cond_intro<;>intro q
   ·have q:jaj s 0=45:=eq_of_beq q;rw[hz,if_pos q,he,w64 (by omega),Int.zero_sub];rfl
   ·have q:¬jaj s 0=45:=by simpa using q
    have q2:jaj s 0=43:=h.resolve_right q;rw[hz,if_neg q,if_pos q2,he];rfl
 ·refine c_t (lim_or hc) ?_;rw[exb]
  have hz:expZ (bz s)=expD (bz s):=by
   rcases Nat.eq_zero_or_pos s.size with q | q
   ·rw[jg7 q];rfl
   ·have q':((s.size:Int)>0):=by omega
    simp only[q',decide_true,Bool.true_and,Bool.or_eq_false_iff,beq_eq_false_iff_ne]at h;have hz:=jgj (c:=jaj s 0) (l:=bz (s.extract 1 s.size));rw[←jed q,if_neg (by exact h.2),if_neg (by exact h.1)]at hz;exact hz
  rw[hz];cases he:expD (bz s)with
  | none=>exact c_t rfl rfl
  | some e=>
   obtain⟨e1,e2,e3,e4,e5,e6⟩:=jgi he;refine c_f rfl (c_t (by simp only[S157_0,jaf,jae];exact⟨by simp;omega,e6⟩) fun x=> ?_);rw[jj8,←e1];rfl
def s73(v:Vl)(t:Ty):Bool×Value:=(true,I (Fx.fits v t))
theorem fn73:Fn1 Tryz.prog 73 Tryz.f73:= .m Tryz.func73
theorem v73(v:Vl)(t:Ty)(R:Value→Prop):jaz Tryz.prog G4 noL Tryz.f73 [Enc.enc v,Enc.enc t] (fun _=>none) 0 (fun v _ _=>R v)=(bif Fx.check t !=0 then R (I (Fx.check t))else fq (!b5 (Fx.Vl.s v) ao || decide (Fx.Ty.p t≤1000) && (decide (Fx.Vl.n v≥IntKind.i64.wrap (Fx.bnd t)) || decide (Fx.Ty.p t≤1000) &&true)) (!b5 (Fx.Vl.s v) ao || (decide (Fx.Vl.n v≥IntKind.i64.wrap (Fx.bnd t)) || decide (Fx.Vl.n v≤cv 0 (IntKind.i64.wrap (Fx.bnd t))))) (ak 6) (ak 0) R):=by kernel_rfl
theorem ok73:jam Tryz.prog 73 (sp2 s73):=by
 refine jcj ok_G4 hmix fn73 jak jag fun v t hc=> ?_
 rw[ja0,v73];delta dx fq ak aw cv b5 ao
 try dsimp only[s73]
 rw[str0];by_cases hv:ja9 t
 ·obtain⟨h1,h2,h3,h4⟩:=Fx.valid_r hv;have hb:=Fx.bnd_range hv;have hc:check t=0:=if_pos hv;rw[hc,w64 (n:=bnd t) (by omega),w64 (n:=0-bnd t) (by omega),jaa (show t.p≤1000 by omega)];refine c_f rfl (c_t (by simp) ?_);unfold Fx.fits;rw[if_pos hv];apply cond_intro<;>intro h
  ·rw[if_neg];intro hf;unfold Fit at hf;simp[hf.1]at h;omega
  ·rw[if_pos];unfold Fit;simp at h;grind
 ·have hc:check t=5:=if_neg hv;rw[hc];refine c_t rfl ?_;unfold Fx.fits;rw[if_neg hv]
def chk4(t:Ty):Int:=if ja9 t then 0
 else if t.k=3∧t.q=0∧bz t.s=[]∧0≤t.p∧t.p≤255 then 0
 else if t.k=4∧t.q=0∧bz t.s=[]∧t.v=false∧0≤t.p∧t.p≤64 then 0
 else if t.k=5∧t.p=0∧t.q=0∧t.v=false∧pE (bz t.s)=0 then 0
 else if t.k=6∧t.q=0∧bz t.s=[]∧t.p=0∧t.v=false then 0 else 5
def is4(v:Vl)(t:Ty):Bool:=
 if t.k=1∨t.k=2 then Fx.fits v t==0
 else if t.k=3 then decide (v.n=0∧((v.s.size:Int)=t.p∨t.v=true∧(v.s.size:Int)<t.p))
 else if t.k=4 then decide (v.n=0∧(v.s.size:Int)=t.p) &&jcb (bz v.s)
 else if t.k=5 then decide (v.n=0) &&hoZ (bz t.s) (bz v.s)
 else decide (bz v.s=[]∧0≤v.n∧v.n≤524288)
def fit4(v:Vl)(t:Ty):Int:=if chk4 t≠0 then chk4 t else if is4 v t=true then 0 else 6
def G30:Env:=(Env.nil.add 68 (sp1 s68)).add 69 (sp1 Px.s48)
theorem ok_G30:jaw Tryz.prog G30:=jai (jai jap ok68) Px.ok48
def s21(t:Ty):Bool×Value:=(decide (t.s.size≤9223372036854775807),I (chk4 t))
theorem fn21:Fn1 Tryz.prog 21 Tryz.f21:= .m Tryz.func21
def dy(a:Fx.Ty):J:=bz (Fx.Ty.s a)
theorem v21(t:Ty)(R:Value→Prop):jaz Tryz.prog G30 noL Tryz.f21 [Enc.enc t] (fun _=>none) 0 (fun v _ _=>R v)=(bif decide (Fx.ja9 t)then R (ak 0)else bw (Fx.Ty.q t==0) true (b4 t 3) (oe (Fx.Ty.q t==0&&b5 (Fx.Ty.s t) ao) (gx (Fx.Ty.p t) 0) (ft (Fx.Ty.p t) 0 255) R) (bif b4 t 4 then oe (Fx.Ty.q t==0&&b5 (Fx.Ty.s t) ao) (br (!Fx.Ty.v t) (gx (Fx.Ty.p t) 0) true) (!Fx.Ty.v t&&ft (Fx.Ty.p t) 0 64) R else bif b4 t 5 then oe (Fx.Ty.p t==0) (br (Fx.Ty.q t==0) (bif !Fx.Ty.v t then b7 (Fx.Ty.s t) &&true else true) true) (Fx.Ty.q t==0&& (!Fx.Ty.v t&&pE (dy t)==0)) R else bif b4 t 6 then oe (Fx.Ty.q t==0&&b5 (Fx.Ty.s t) ao) (Fx.Ty.p t==0 || true) (Fx.Ty.p t==0&& !Fx.Ty.v t) R else R (ak 5))):=by kernel_rfl
theorem ok21:jam Tryz.prog 21 (sp1 s21):=by
 refine jby ok_G30 hmix fn21 jak jag fun t hc=> ?_
 rw[ja0,v21];delta av bw ak dx fq oe b5 ao b4 dy br b7 e9 ft gx;have hc:(t.s.size≤9223372036854775807):=jab hc
 try dsimp only[s21]
 rw[jcd];unfold chk4;by_cases hv:ja9 t
 ·rw[if_pos hv];exact c_t (jaa hv) rfl
 rw[if_neg hv];refine c_f (jad hv) (c_t (Bool.or_true _) ?_);simp only[Bool.or_true,Bool.and_true,Bool.cond_self,jaa hc]
 repeat' apply cond_intro<;>intro h
 all_goals first | (exfalso;simp at h;done) | (congr 1;grind)
def G31:Env:=(((Env.nil.add 74 (sp1 s74)).add 73 (sp2 s73)).add 75 (sp2 Px.s25)).add 21 (sp1 s21)
theorem ok_G31:jaw Tryz.prog G31:=jai (jai (jai (jai jap ok74) ok73) Px.ok25) ok21
def s23(v:Vl)(t:Ty):Bool×Value:=(decide (t.s.size≤9223372036854775807∧v.s.size≤9223372036854775807),I (fit4 v t))
theorem fn23:Fn1 Tryz.prog 23 Tryz.f23:= .m Tryz.func23
def pf(a b c:Bool)(d:Value→Prop):Prop:=fq (br a b true) (!(a&&c)) (ak 6) (ak 0) d
def i6(a:Fx.Vl):J:=bz (Fx.Vl.s a)
def ql(d:Bool)(a:Fx.Ty)(b:Fx.Vl)(e:Prop)(c:Value→Prop):Prop:=bif b4 a 3 then pf (Fx.Vl.n b==0) (cw (Fx.Vl.s b)==Fx.Ty.p a || (Fx.Ty.v a || true)) (cw (Fx.Vl.s b)==Fx.Ty.p a || Fx.Ty.v a&&b8 (cw (Fx.Vl.s b)) (Fx.Ty.p a)) c else bif b4 a 4 then pf (Fx.Vl.n b==0) (bif cw (Fx.Vl.s b)==Fx.Ty.p a then d&&true else true) (cw (Fx.Vl.s b)==Fx.Ty.p a&&jcb (i6 b)) c else bif b4 a 5 then pf (Fx.Vl.n b==0) (g0 (Fx.Vl.s b) (Fx.Ty.s a).size 9223372036854775807 9223372036854775807&&true) (hoZ (dy a) (i6 b)) c else bif b4 a 6 then pf (b5 (Fx.Vl.s b) ao) (gx (Fx.Vl.n b) 0) (ft (Fx.Vl.n b) 0 524288) c else e
theorem v23(v:Vl)(t:Ty)(R:Value→Prop):jaz Tryz.prog G31 noL Tryz.f23 [Enc.enc v,Enc.enc t] (fun _=>none) 0 (fun v _ _=>R v)=(d4 (chk4 t !=0) (Fx.Ty.s t) (R (I (chk4 t))) (bif b4 t 1 then dx (!Fx.fits v t==0) (ak 6) (ak 0) R else bif b4 t 2 then dx (!Fx.fits v t==0) (ak 6) (ak 0) R else ql (b7 (Fx.Vl.s v)) t v (R (ak 6)) R)):=by kernel_rfl
theorem ok23:jam Tryz.prog 23 (sp2 s23):=by
 refine jcj ok_G31 hmix fn23 jak jag fun v t hc=> ?_
 rw[ja0,v23];delta av b7 d4 dx fq ak br pf e9 ft gx b5 ao b4 i6 dy g0 cw b8 ql;have hc:(t.s.size≤9223372036854775807∧v.s.size≤9223372036854775807):=jab hc
 try dsimp only[s23]
 rw[jcd];unfold fit4 is4;refine c_t (jaa hc.1) ?_
 have hk:chk4 t=0→t.k=1∨t.k=2∨t.k=3∨t.k=4∨t.k=5∨t.k=6:=fun h=>by
  unfold chk4 at h;have hv:ja9 t→t.k=1∨t.k=2:=fun h=>h.1
  grind
 apply cond_intro<;>intro h
 ·rw[if_pos (by simpa using h)]
 have h0:chk4 t=0:=by simpa using h
 rw[if_neg (fun z=>z h0)];have hk:=hk h0;simp only[Bool.or_true,Bool.and_true,Bool.cond_self,jaa hc.2,jaa hc]
 repeat' apply cond_intro<;>intro h
 all_goals first | (exfalso;simp at h;done) | (congr 1;grind)
def H1:Env:=(Env.nil.add 154 (sp2 s154)).add 131 (sp2 s131)
theorem ok_H1:jaw Tryz.prog H1:=jai (jai jap ok154) ok131
theorem isB_tl{l:J}(h:IsB l)(c:Int):IsB (tlZ l c):=fun x hx=>h x ((List.dropWhile_sublist _).subset hx)
theorem isB_tr{l:J}(h:IsB l)(c:Int):IsB (trZ l c):=fun x hx=>by
 rw[trZ,List.mem_reverse]at hx;exact h x (List.mem_reverse.1 ((List.dropWhile_sublist _).subset hx))
theorem jcp{l:J}(h:IsB l):bz (szO l)=l:=by rw[jcw,jcy h]
theorem je9:szO []=⟨#[]⟩:=jcw []
def dz(n:Int):J:=if n=0 then []else decZ n
theorem jko{n:Int}(h:0<n):dz n=dz (n/10)++ [48+n%10]:=by
 obtain⟨k,rfl⟩:∃k:Nat,n=(k:Int):=⟨n.toNat,by omega⟩
 have hu:∀j:Nat,j<10→((UInt8.ofNat (48+j)).toNat:Int)=48+j:=fun j hj=>by rw[UInt8.toNat_ofNat'];omega
 rw[dz,if_neg (by omega),decZ,Int.toNat_natCast,Lib.decDigits];by_cases h1:k<10
 ·have e:(k:Int)/10=0:=by omega
  rw[dif_pos h1,dz,e,if_pos rfl,zl,List.map_cons,List.map_nil,hu k h1,List.nil_append];congr 1;omega
 ·have e:(k:Int)/10=((k/10:Nat):Int):=by omega
  rw[dif_neg h1,dz,e,if_neg (by omega),decZ,Int.toNat_natCast,zl,List.map_append,List.map_cons,List.map_nil,hu (k%10) (by omega)];rfl
theorem row_pre{d:E}{m cap:Nat}(h:RowP d m cap)(x:Int){tail:E}{cap':Nat}(ht:jay tail cap' (1+m) 1=true):
  RowP ([.int .u8 x]++d.take m++tail) (1+m) cap'∧zc ([.int .u8 x]++d.take m++tail) (1+m)=x::zc d m:=by
 obtain⟨t1,t2,t3,t4⟩:=je8 ht;have hz:=jba h;have:=jjx (x::zc d m) (tail:=tail) (cap:=cap') t1 (by simp only[List.length_cons,hz];omega) t4;simp only[List.length_cons,hz]at this;rw[h.take,Nat.add_comm 1 m];exact this
def s77(g:Bool)(s:Y)(q:Int):Bool×Value:=(decide (s.size≤100000∧ -100000≤q∧q≤100000),numV (ja4 g (bz s) q))
theorem fn77:Fn1 Tryz.prog 77 Tryz.f77:= .m Tryz.func77
def mj(a:Y):Y:=szO (tlZ (bz a) (lv 48))
theorem v77(g:Bool)(s:Y)(q:Int)(R:Value→Prop):jaz Tryz.prog H1 noL Tryz.f77 [Enc.enc g,Enc.enc s,Enc.enc q] (fun _=>none) 0 (fun v _ _=>R v)=(fq (dp (mj s) && (oneB d9&&asc (bz d9))) (b5 (szO (trZ (bz (mj s)) (lv 48))) ao) (b9 kr) (b9 (B g::bk (szO (trZ (bz (mj s)) (lv 48))) [] (ep (q-cm (cw (mj s)) (cw (szO (trZ (bz (mj s)) (lv 48)))))))) R):=by kernel_rfl
theorem ok77:jam Tryz.prog 77 (sp3 s77):=by
 refine jgf ok_H1 hmix fn77 jak jag fun g s q hc=> ?_
 rw[ja0,v77];delta dx fq b9 bk aw ep cm cw lv mj ak ao cu kr b5 d9 dp;have hc:(s.size≤100000∧ -100000≤q∧q≤100000):=jab hc
 try dsimp only[s77]
 have d:(bz ⟨#[48]⟩).getD 0 0=48:=rfl;have iA:IsB (tlZ (bz s) 48):=isB_tl (jdq s) 48;have eA:bz (szO (tlZ (bz s) 48))=tlZ (bz s) 48:=jcp iA;have h1:=jg3 (bz s) 48;rw[jal]at h1;have h2:=jjv (tlZ (bz s) 48) 48;rw[d,eA,jci];refine c_t (by rw[jaa (show(tlZ (bz s) 48).length≤9223372036854775807 by omega),Bool.true_and];kernel_rfl) ?_;rw[jcd,jcp (isB_tr iA 48),jci];apply cond_intro<;>intro h
 ·have h:nz (bz s)=[]:=jab h;rw[ja4,if_pos h];show _=Value.agg ⟨[.bool false,.string (szO []),.int .i64 0]⟩;rw[je9]
 ·have h:¬nz (bz s)=[]:=jac h;rw[ja4,if_neg h,w64 (n:=((tlZ (bz s) 48).length:Int)-(trZ (tlZ (bz s) 48) 48).length) (by omega),w64 (by omega)];rfl
def V78_0:Y×Y×Int×Int×Int→E:=fun(s,r,n,L,i)=> [S s,S r,C64 n,I L,I i]
def B78_0:Y×Y×Int×Int×Int→O:=fun _=> []
def S78_0:LSpec (Y×Y×Int×Int×Int) where
 live:=[0,2,3,7,8]
 mid:=[]
 n:=60
 dec vs bs:=match vs,bs with | [.string s,.string r,.int .u64 n,.int .i64 L,.int .i64 i],[]=>some (s,r,n,L,i) | _,_=>none
 pre:=fun(s,r,n,L,i)=>decide (0≤i∧i≤L∧L=s.size∧s.size≤64∧0≤n∧n<2^i.toNat) &&jcb (bz s)
 fin:=fun(s,r,n,L,i) Z=>Z (.exit 0) [S s,S r,C64 (binG ((bz s).drop i.toNat) n),I L,I L] []
theorem r78_0(s:Y)(r:Y)(n:Int)(L:Int)(i:Int)(jk:Tmps)(R:Exit→E→O→Prop):(jbp Tryz.prog H1 noL Tryz.f78.ntmps (ja6 Tryz.f78 0) (tl S78_0.live (V78_0 (s,r,n,L,i)) jk) (ml S78_0.mid (B78_0 (s,r,n,L,i))) S78_0.n fun e t' m' _=>R e (List.map t' S78_0.live) (List.map m' S78_0.mid))=(bif ct i L then bm (bq s i) R [] (bk s (.int .u64 (aw (ny 2 n (ax s i) .u64 .u8) .u64)::cq L i) (S r))else R (.exit 0) (bk s (.int .u64 n::az L i) (S r)) []):=by kernel_rfl
theorem l78_0:∀t m n K,S78_0.h t m n K→Ab.Sem Tryz.prog Tryz.f78.ntmps (.loop (ja6 Tryz.f78 0)) t m n K:=by
 refine ja7 ok_H1 hmix (by kernel_rfl) (ja1 _) S78_0 V78_0 B78_0 (fun(s,r,n,L,i)=>(s.size-i).toNat) ?_ ?_ ?_
 ·intro vs bs s h;simp only[S78_0]at h;split at h
  all_goals first | (cases h;exact⟨rfl,rfl⟩) | cases h | (split at h<;>first | (rename_i hq;cases h;have hq:=jah hq;subst hq;exact⟨rfl,rfl⟩) | cases h)
 ·exact fun _ _ _ h=>h
 ·intro⟨s,r,n,L,i⟩ jk Z hp hf;rw[r78_0];delta bk ak az bm au bu bp cq aw ny ax am bq ct;simp only[S78_0]at hp hf;simp only[jaf,jae]at hp;obtain⟨hp,hb⟩:=hp;apply cond_intro<;>intro h
  ·have h:=jab h;rw[jb4 hp.1 (by omega),binG]at hf;refine c_t (jaa (by omega)) ?_;have hc:=bit_cases (s:=s) (i:=i.toNat) (by omega) hb
   have h2:(2:Int) ^ (i+1).toNat=2*2^i.toNat:=by
    rw[show(i+1).toNat=i.toNat+1 by omega,Int.pow_succ,Int.mul_comm]
   have h3:(2:Int) ^ (i+1).toNat≤2^64:=by
    have:(2:Nat) ^ (i+1).toNat≤2^64:=Nat.pow_le_pow_right (by omega) (by omega);have h':((2^ (i+1).toNat:Nat):Int)≤((2^64:Nat):Int):=Int.ofNat_le.2 this;simpa using h'
   have h4:(2:Int) ^64=18446744073709551616:=by decide
   rw[w64 (n:=i+1) (by omega),w8s (by omega),wu64 (n:=jaj s i.toNat-48) (by omega),wu64 (n:=2*n) (by omega),wu64 (by omega)];exact⟨(s,r,2*n+(jaj s i.toNat-48),L,i+1),rfl,rfl,by simp only[S78_0,jaf,jae];exact⟨by omega,hb⟩,by simp only;omega,hf⟩
  ·have h:=jac h;rw[jce (by omega)]at hf;obtain rfl:i=L:=by omega
   exact hf
def V78_2:Int×Rw→E:=fun(n,o)=> [C64 n,o.v 200]
def B78_2:Int×Rw→O:=fun(n,o)=> [o.b]
def S78_2:LSpecA (Int×Rw) where
 live:=[3,5]
 mid:=[200]
 n:=210
 ap:=[(.tmp 5,200)]
 dec vs bs:=match vs,bs with
  | [.int .u64 n,.slice none 0 0],[none]=>some (n,.nil)
  | [.int .u64 n,.slice (some ⟨200,0,some 1⟩) m cap],[some ⟨d,5,true⟩]=>some (n,.own d m cap)
  | _,_=>none
 pre:=fun(n,o)=>o.ok&&decide (0≤n∧(o.is=true→o.z≠ [])∧o.z.length≤20∧n<10^ (20-o.z.length))
 fin:=fun(n,o) Z=>(dz n++o.z=[]→Z (.exit 2) [C64 0,.slice none 0 0] [none])∧(∀d' m' cap',jcm d' m' cap'=true→zc d' m'=dz n++o.z→dz n++o.z≠ []→Z (.exit 2) [C64 0,.slice (some ⟨200,0,some 1⟩) m' cap'] [some ⟨d',5,true⟩])
theorem r78_2n(n:Int)(jk:Tmps)(R:Exit→E→O→Prop):(jbp Tryz.prog H1 noL Tryz.f78.ntmps (ja6 Tryz.f78 2) (tl S78_2.live (V78_2 (n,.nil)) jk) (ml S78_2.mid (B78_2 (n,.nil))) S78_2.n fun e t' m' _=>S78_2.out R e t' m')=(bif f9 n then∀a:Nat,∀b:E,dv b a (1+0)→og R n 10 .u64 (.int .u8 (aw (IntKind.u64.wrap (48+n.tmod 10)) .u8)::b) [] 218 (bv 200 1 a)else R (.exit 2) [.int .u64 n,jt] [none]):=by kernel_rfl
theorem r78_2o(n:Int)(d:E)(m:Nat)(cap:Nat)(jk:Tmps)(R:Exit→E→O→Prop):(jbp Tryz.prog H1 noL Tryz.f78.ntmps (ja6 Tryz.f78 2) (tl S78_2.live (V78_2 (n,.own d m cap)) jk) (ml S78_2.mid (B78_2 (n,.own d m cap))) S78_2.n fun e t' m' _=>S78_2.out R e t' m')=(bif f9 n then bif Nat.ble (0+m*1) d.length&& ((d.drop 0).take (m*1)).all jf4&&jb0 (1+m) 1 then∀a:Nat,∀b:E,dv b a (1+m)→og R n 10 .u64 (.int .u8 (aw (IntKind.u64.wrap (48+n.tmod 10)) .u8)::((d.drop 0).take (m*1)++b)) [] 218 (bv 200 (1+m) a)else False else fv (gv d 200 200) R [] [] 2 (e8 ij d) (.int .u64 n) (bv 200 m cap)):=by kernel_rfl
theorem l78_2:∀t m n K,S78_2.hA t m n K→Ab.Sem Tryz.prog Tryz.f78.ntmps (.loop (ja6 Tryz.f78 2)) t m n K:=by
 refine jbv ok_H1 hmix (by kernel_rfl) (ja1 _) S78_2 V78_2 B78_2 (fun(n,o)=>n.toNat) ?_ ?_ ?_
 ·intro vs bs s h;simp only[S78_2]at h;split at h
  all_goals first | (cases h;exact⟨rfl,rfl⟩) | cases h | (split at h<;>first | (rename_i hq;cases h;have hq:=jah hq;subst hq;exact⟨rfl,rfl⟩) | cases h)
 ·exact fun⟨n,o⟩ hp=>by
   simp only[S78_2,jaf]at hp;cases o with
   | nil=>simp[V78_2,B78_2,S78_2,ja3,jb2,idsL,ids,Rw.v,Rw.b]
   | own d m cap=>simp[V78_2,B78_2,S78_2,ja3,jb2,idsL,ids,Rw.v,Rw.b,jaq (jat.1 hp.1).plain]
 ·intro⟨n,o⟩ jk Z hp hf;simp only[S78_2]at hp hf;simp only[jaf,jae]at hp;obtain⟨hr,h0,his,h20,hlt⟩:=hp
  have hten:0<n→o.z.length<20∧n/10<10^ (20-(o.z.length+1)):=fun hn=>by
   rcases Nat.lt_or_ge o.z.length 20 with q | q
   ·refine⟨q,?_⟩;rw[show 20-o.z.length=(20-(o.z.length+1))+1 by omega,Int.pow_succ]at hlt;omega
   ·rw[show 20-o.z.length=0 by omega]at hlt;omega
  have hw:IntKind.u8.wrap (IntKind.u64.wrap (48+n.tmod 10))=48+n%10:=by
   rw[Int.tmod_eq_emod_of_nonneg h0,wu64 (by omega),w8 (by omega)]
  have hq:n<18446744073709551616*10→IntKind.u64.wrap (n.tdiv 10)=n/10:=fun h=>by
   rw[Int.tdiv_eq_ediv_of_nonneg h0,wu64 (by omega)]
  have h64:n<18446744073709551616*10:=by
   have:(10:Int) ^ (20-o.z.length)≤10^20:=by
    have:(10:Nat) ^ (20-o.z.length)≤10^20:=Nat.pow_le_pow_right (by omega) (by omega);have h':((10^ (20-o.z.length):Nat):Int)≤((10^20:Nat):Int):=Int.ofNat_le.2 this;simpa using h'
   have h5:(10:Int) ^20=100000000000000000000:=by decide
   omega
  cases o with
  | nil=>
   rw[r78_2n];delta jt bm e8 og bv aw dv f9;rw[hw,hq h64];apply cond_intro<;>intro h
   ·have h:n>0:=jab h;intro cap tail ht;obtain⟨g1,g2⟩:=jgo [48+n%10] (tail:=tail) (cap':=cap) ht;have g1:RowP (.int .u8 (48+n%10)::tail) 1 cap:=g1;have g2:zc (.int .u8 (48+n%10)::tail) 1=[48+n%10]:=g2;rw[g1.good,g1.rlb];refine c_t rfl ⟨(n/10,.own _ 1 cap),rfl,rfl,?_,by simp only;omega,?_⟩
    ·simp only[S78_2,jaf,jae];refine⟨jat.2 g1,by omega,?_⟩;simp only[Rw.z,g2];exact⟨fun _=>by simp,by simp,(hten h).2⟩
    ·have e:dz (n/10)++(Rw.own (.int .u8 (48+n%10)::tail) 1 cap).z=dz n++Rw.nil.z:=by
      rw[jko h];simp only[Rw.z,g2,List.append_nil]
     simp only[S78_2];rw[e];exact hf
   ·have h:n=0:=by have:=jac h;omega
    subst h;exact hf.1 rfl
  | own d m cap=>
   rw[r78_2o];delta fv bv e8 ij gv bm og aw dv f9;rw[hw,hq h64];have hr:RowP d m cap:=jat.1 hr;have hzl:=jba hr;have hm:m≤20:=by rw[←hzl];exact h20
   apply cond_intro<;>intro h
   ·have h:n>0:=jab h
    refine c_t (by
     have e1:Nat.ble (0+m*1) d.length=true:=by rw[Nat.ble_eq];have:=hr.len;have:=hr.le;omega
     have e2:(List.take (m*1) (List.drop 0 d)).all jf4=true:=by
      rw[Nat.mul_one,List.drop_zero,hr.take];exact cz_cell _
     have e3:jb0 (1+m) 1=true:=by simp only[jb0,jaf,Nat.ble_eq];omega
     rw[e1,e2,e3];rfl) fun cap1 tail ht=> ?_
    obtain⟨g1,g2⟩:=row_pre hr (48+n%10) ht;have g1:RowP (.int .u8 (48+n%10)::(List.take (m*1) (List.drop 0 d)++tail)) (1+m) cap1:=by rw[Nat.mul_one];exact g1
    have g2:zc (.int .u8 (48+n%10)::(List.take (m*1) (List.drop 0 d)++tail)) (1+m)=(48+n%10)::zc d m:=by rw[Nat.mul_one];exact g2
    rw[g1.good,g1.rlb];refine c_t rfl ⟨(n/10,.own _ (1+m) cap1),rfl,rfl,?_,by simp only;omega,?_⟩
    ·simp only[S78_2,jaf,jae];refine⟨jat.2 g1,by omega,?_⟩;simp only[Rw.z,g2,List.length_cons];exact⟨fun _=>by simp,by have:=(hten h).1;simp only[Rw.z]at this;omega,(hten h).2⟩
    ·have e:dz (n/10)++(Rw.own (.int .u8 (48+n%10)::(List.take (m*1) (List.drop 0 d)++tail)) (1+m) cap1).z=dz n++(Rw.own d m cap).z:=by
      rw[jko h];simp only[Rw.z,g2,List.append_assoc,List.cons_append,List.nil_append]
     simp only[S78_2];rw[e];exact hf
   ·have h:n=0:=by have:=jac h;omega
    subst h;rw[hr.good,hr.rlb];refine c_t rfl ?_;exact hf.2 d m cap (jat.2 hr) rfl (his rfl)
theorem bin_lt:∀(l:J)(a:Int),jcb l=true→0≤a→0≤binG l a∧binG l a<(a+1)*2^l.length
 | [],a,_,h=>by simp[binG];omega
 | c::r,a,hb,h=>by
  simp only[jcb,List.all_cons,jaf,jae]at hb;obtain⟨h1,h2⟩:=bin_lt r (2*a+(c-48)) hb.2 (by omega);rw[binG];refine⟨h1,Int.lt_of_lt_of_le h2 ?_⟩;rw[List.length_cons,Int.pow_succ,Int.mul_comm (2^r.length) 2,←Int.mul_assoc];exact Int.mul_le_mul_of_nonneg_right (by omega) (Int.le_of_lt (Int.pow_pos (by omega)))
theorem jiv{l:J}(hb:jcb l=true)(h:l.length≤64):0≤binG l 0∧binG l 0<18446744073709551616:=by
 obtain⟨h1,h2⟩:=bin_lt l 0 hb (by omega);refine⟨h1,Int.lt_of_lt_of_le h2 ?_⟩;have:(2:Nat) ^l.length≤2^64:=Nat.pow_le_pow_right (by omega) h;have h':((2^l.length:Nat):Int)≤((2^64:Nat):Int):=Int.ofNat_le.2 this;have h4:(2:Int) ^64=18446744073709551616:=by decide
 simp at h';omega
theorem lok78:LOKf Tryz.prog (twoL 0 S78_0.h 2 S78_2.hA) Tryz.f78:=jeu (by kernel_rfl) (by kernel_rfl) l78_0 l78_2
def s78(s:Y):Bool×Value:=(jcb (bz s) &&decide (s.size≤64),S (szO (dz (binG (bz s) 0))))
theorem fn78:Fn1 Tryz.prog 78 Tryz.f78:= .m Tryz.func78
theorem v78(s:Y)(R:Value→Prop):jaz Tryz.prog H1 (twoL 0 S78_0.h 2 S78_2.hA) Tryz.f78 [Enc.enc s] (fun _=>none) 0 (fun v _ _=>R v)=(go (S78_0.pre (s,(ao,((0:Int),(am s,(0:Int)))))) (kz (S78_2.toLSpec.pre (binG (cl s) 0,Rw.nil)) (Decidable.rec (fun a:Not (Eq (Cx.binG (List.drop (Int.toNat 0) (Px.bz s)) 0) 0)=>decZ (binG (cl s) 0)) (fun a:Eq (Cx.binG (List.drop (Int.toNat 0) (Px.bz s)) 0) 0=> []) ((binG (cl s) 0).instDecidableEq 0)++([]:J)=([]:J)→Tmps→R (S ByteArray.empty)) (∀a:E,∀b:Nat,∀c:Nat,jcm a b c=true→zc a b=dz (binG (cl s) 0)++Rw.z Rw.nil→Decidable.rec (fun d:Not (Eq (Cx.binG (List.drop (Int.toNat 0) (Px.bz s)) 0) 0)=>decZ (binG (cl s) 0)) (fun d:Eq (Cx.binG (List.drop (Int.toNat 0) (Px.bz s)) 0) 0=> []) ((binG (cl s) 0).instDecidableEq 0)++([]:J)≠([]:J)→jr a 210 (ay (jbf a 0 b) (S (jbb a 0 b)) R))) Tmps):=by kernel_rfl
theorem ok78:jam Tryz.prog 78 (sp1 s78):=by
 refine jby ok_H1 hmix fn78 lok78 jag fun s hc=> ?_
 rw[ja0,v78];delta go kz gm jr ay cl am ao
 try dsimp only[s78]
 simp only[s78,jaf,jae]at hc;obtain⟨hb,hl⟩:=hc;obtain⟨b1,b2⟩:=jiv (l:=bz s) hb (by rw[jal];exact hl);refine c_t (by simp only[S78_0,jaf,jae];exact⟨by simp;omega,hb⟩) fun _=> ?_
 refine c_t ?_ ⟨fun hz _=> ?_,fun d' m' cap' hr hz hne=> ?_⟩
 ·simp only[S78_2,jaf,jae];refine⟨rfl,b1,⟨(fun h=>by cases h),⟨by simp[Rw.z],?_⟩⟩⟩;have h5:(10:Int) ^20=100000000000000000000:=by decide
  show binG (bz s) 0<10^20;omega
 ·have hz:dz (binG (bz s) 0)++ []=[]:=hz;rw[List.append_nil]at hz;rw[hz,je9];rfl
 ·have hr:=jat.1 hr;have hz:zc d' m'=dz (binG (bz s) 0)++ []:=hz;rw[List.append_nil]at hz;refine c_t (by rw[jbj hr.plain];rfl) fun _=>c_t hr.str.1 ?_
  rw[hr.str.2,hz,jcw]
end Go.Cx
end
section
namespace Go.Cv
def je4:St→Bool
 | .ded=>true
 | _=>false
def runQ:List Int→St→Rd→Option (St×Rd)
 | [],st,r=>some (st,r)
 | c::l,st,r=>if je4 (jcc st r c).1=true then none else runQ l (jcc st r c).1 (jcc st r c).2
theorem run_Q:∀(l:List Int)(st:St)(r:Rd),je4 st=false→runP l st r=(runQ l st r).bind fun x=>if endP x.1=true then some x.2 else none
 | [],st,r,_=>rfl
 | c::l,st,r,_=>by
  rw[runP,runQ];by_cases h:je4 (jcc st r c).1=true
  ·rw[if_pos h];cases hs:(jcc st r c).1 with
   | ded=>rw[jc4];rfl
   | _=>rw[hs]at h;cases h
  ·rw[if_neg h];exact run_Q l _ _ (by simpa using h)
section
variable {l : List Int} {r : Rd} {c : Int}
theorem q_beg1(h:c=32):runQ (c::l) .beg r=runQ l .beg r:=by simp[runQ,jcc,h,je4]
theorem q_beg2(h:c=43∨c=45):runQ (c::l) .beg r=runQ l (.bod false false) {r with neg:=decide (c=45)}:=by
 have h1:¬c=32:=by omega
 simp[runQ,jcc,h,h1,je4]
theorem q_beg3(h1:¬c=32)(h:¬(c=43∨c=45)):runQ (c::l) .beg r=runQ (c::l) (.bod false false) r:=by
 simp only[runQ,jcc,if_neg h,if_neg h1];rfl
variable {s p : Bool}
theorem q_bod1(h:dig c=true):runQ (c::l) (.bod s p) r=runQ l (.bod true p) {r with ds:=r.ds++ [c],sc:=if p=true then r.sc+1 else r.sc}:=by
 simp[runQ,jcc,bodN,h,je4]
theorem q_bod2(h:c=46):runQ (c::l) (.bod s false) r=runQ l (.bod s true) r:=by
 subst h;simp[runQ,jcc,bodN,dig,je4]
theorem q_bod3(h:dig c=false)(h2:¬(c=46∧p=false)):runQ (c::l) (.bod false p) r=none:=by
 simp only[runQ,jcc,bodN,h,h2];simp[je4]
theorem q_bod4(h:c=69):runQ (c::l) (.bod true p) r=runQ l (.exq false 0) r:=by
 subst h;simp[runQ,jcc,bodN,dig,je4]
theorem q_bod5(h:c=66):runQ (c::l) (.bod true false) r=runQ l .beh {r with bin:=true}:=by
 subst h;simp[runQ,jcc,bodN,dig,je4]
theorem q_bod6(h:c=32):runQ (c::l) (.bod true p) r=runQ l .beh r:=by
 subst h;simp[runQ,jcc,bodN,dig,je4]
theorem q_bod7(h:dig c=false)(h2:¬(c=46∧p=false))(h3:¬c=69)(h4:¬(c=66∧p=false))(h5:¬c=32):runQ (c::l) (.bod true p) r=none:=by
 simp only[runQ,jcc,bodN,h,h2,h3,h4,h5];simp[je4]
variable {g : Bool} {m : Nat}
theorem q_ex1(h:dig c=true)(hm:m<2):runQ (c::l) (.exq g m) r=runQ l (.exq true (m+1)) {r with pw:=10*r.pw+(c-48)}:=by
 simp[runQ,jcc,h,hm,je4]
theorem q_ex2(h:c=43∨c=45):runQ (c::l) (.exq false m) r=runQ l (.exq true 0) {r with down:=decide (c=45)}:=by
 have h1:dig c=false:=by rcases h with h | h<;>subst h<;>rfl
 simp[runQ,jcc,h1,h,je4]
theorem q_ex3(h:c=32)(hm:0<m):runQ (c::l) (.exq g m) r=runQ l .beh r:=by
 subst h;simp[runQ,jcc,dig,hm,je4]
theorem q_ex4(h:¬(dig c=true∧m<2))(h2:¬((c=43∨c=45)∧g=false))(h3:¬(c=32∧0<m)):runQ (c::l) (.exq g m) r=none:=by
 simp only[runQ,jcc,h,h2,h3];simp[je4]
theorem q_beh1(h:c=32):runQ (c::l) .beh r=runQ l .beh r:=by simp[runQ,jcc,h,je4]
theorem q_beh2(h:¬c=32):runQ (c::l) .beh r=none:=by simp[runQ,jcc,h,je4]
end
end Go.Cv
end
