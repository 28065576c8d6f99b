/-
  Part 3: the run and laws.
-/
import Derived.Test.YtiahilhlpmohoaaGreatDoorB12
set_option linter.unusedVariables false
set_option linter.unusedSimpArgs false
set_option linter.unusedSectionVars false
noncomputable section
set_option maxHeartbeats 3200000
namespace Go.Cx
open Go Go.Ab Go.Proofs Go.Shelf Go.Px Go.Cv
open Go.Fx (Ty Vl check ja9 most base pw bnd Fit fits tv vv tup V0 T0 jbs jbw jbj jcd str0)
def H2:Env:=Env.nil
theorem ok_H2:ja0 Tryz.prog H2:=jav
theorem fn153:Fn1 Tryz.prog 288 Tryz.f288:= .m Tryz.func288
theorem fn76:Fn1 Tryz.prog 238 Tryz.f238:= .m Tryz.func238
theorem fn212:Fn1 Tryz.prog 307 Tryz.f307:= .m Tryz.func307
theorem fn263:Fn1 Tryz.prog 315 Tryz.f315:= .m Tryz.func315
theorem fn264:Fn1 Tryz.prog 316 Tryz.f316:= .m Tryz.func316
noncomputable def G7 : Env := ((((Env.nil.add 287 (sp1 s152)).add 308 (sp1 s213)).addG 288 (inlQ Tryz.prog H2 noL Tryz.f288)).addG 309 (inlQ Tryz.prog H2 noL Tryz.f309)).addG 310 (inlQ Tryz.prog H2 noL Tryz.f310)
theorem ok_G7:ja0 Tryz.prog G7:=jau (jau (jau (jak (jak jav ok152) ok213) (jbd ok_H2 hmix fn153 jaj)) (jbd ok_H2 hmix (.m Tryz.func309) jaj)) (jbd ok_H2 hmix (.m Tryz.func310) jaj)
noncomputable def G8 : Env := (((((Env.nil.add 287 (sp1 s152)).addG 288 (inlQ Tryz.prog H2 noL Tryz.f288)).addG 238 (inlQ Tryz.prog H2 noL Tryz.f238)).addG 307 (inlQ Tryz.prog G7 noL Tryz.f307)).addG 315 (inlQ Tryz.prog G7 noL Tryz.f315)).addG 316 (inlQ Tryz.prog G7 noL Tryz.f316)
theorem ok_G8:ja0 Tryz.prog G8:=jau (jau (jau (jau (jau (jak jav ok152) (jbd ok_H2 hmix fn153 jaj)) (jbd ok_H2 hmix fn76 jaj)) (jbd ok_G7 hmix fn212 jaj)) (jbd ok_G7 hmix fn263 jaj)) (jbd ok_G7 hmix fn264 jaj)
noncomputable def G9 : Env := (((((((Env.nil.add 124 (sp2 s55)).add 239 (sp3 s77)).add 240 (sp1 s78)).addG 238 (inlQ Tryz.prog H2 noL Tryz.f238)).addG 307 (inlQ Tryz.prog G7 noL Tryz.f307)).addG 315 (inlQ Tryz.prog G7 noL Tryz.f315)).addG 316 (inlQ Tryz.prog G7 noL Tryz.f316)).addG 286 (inlQ Tryz.prog G8 noL Tryz.f286)
theorem ok_G9:ja0 Tryz.prog G9:=jau (jau (jau (jau (jau (jak (jak (jak jav ok55) ok77) ok78) (jbd ok_H2 hmix fn76 jaj)) (jbd ok_G7 hmix fn212 jaj)) (jbd ok_G7 hmix fn263 jaj)) (jbd ok_G7 hmix fn264 jaj)) (jbd ok_G8 hmix (.m Tryz.func286) jaj)
inductive Ms where
 | beg | bod (s p:Bool) | exq (g:Bool) (m:Int) | beh
def Ms.v:Ms→Value
 | .beg=> .func (.func 286) ⟨[]⟩ ⟨[]⟩
 | .bod _ _=> .func (.func 307) ⟨[]⟩ ⟨[.pointer (some ⟨200,0,some 0⟩),.pointer (some ⟨201,0,some 0⟩)]⟩
 | .exq _ _=> .func (.func 315) ⟨[]⟩ ⟨[.pointer (some ⟨200,0,some 0⟩),.pointer (some ⟨201,0,some 0⟩)]⟩
 | .beh=> .func (.func 316) ⟨[]⟩ ⟨[]⟩
def Ms.b0:Ms→Option Blk
 | .bod _ p=>some ⟨[.bool p],4,true⟩
 | .exq _ m=>some ⟨[.int .i64 m],3,true⟩
 | _=>none
def Ms.b1:Ms→Option Blk
 | .bod s _=>some ⟨[.bool s],4,true⟩
 | .exq g _=>some ⟨[.bool g],4,true⟩
 | _=>none
def Ms.st:Ms→St
 | .beg=> .beg
 | .bod s p=> .bod s p
 | .exq g m=> .exq g m.toNat
 | .beh=> .beh
def Ms.ok(M:Ms)(e:Bool)(pw sc:Int):Bool:=match M with
 | .beg=>e&&decide (pw=0)
 | .bod s _=>e==s&&decide (pw=0)
 | .exq g m=>e==decide (0<m) &&decide (0≤m∧m≤2∧(g=false→m=0)∧0≤pw∧(m=0→pw=0)∧(m=1→pw<10)∧pw<100)
 | .beh=>e&&decide (0≤pw∧pw<100)
structure RunIs (l:J)(st:St)(r:Rd)(x:Option (St×Rd)):Prop where
 h:runQ l st r=x
structure MsIs (M:Ms)(mv:Value)(b0 b1:Option Blk):Prop where
 v:mv=M.v
 b0:b0=M.b0
 b1:b1=M.b1
def FinN(l:J)(st:St)(r:Rd)(A:Prop)(B:Bool→Bool→Bool→Y→Int→Int→Bool→Value→Option Blk→Option Blk→Prop):Prop:=
 (RunIs l st r none→A)∧(∀(ng bn dn:Bool)(ds:Y)(sc pw:Int)(M:Ms)(e:Bool)(mv:Value),(M.ok e pw sc&&decide (ds.size≤255∧0≤sc∧sc≤255))=true→MsIs M mv none none→RunIs l st r (some (M.st,⟨ng,bn,dn,bz ds,sc,pw⟩))→B ng bn dn ds sc pw e mv none none)∧
   (∀(ng bn dn:Bool)(ds:Y)(sc pw:Int)(M:Ms)(e:Bool)(mv x y:Value)(tx ty:TypeId),(M.ok e pw sc&&decide (ds.size≤255∧0≤sc∧sc≤255))=true→MsIs M mv (some ⟨[x],tx,true⟩) (some ⟨[y],ty,true⟩)→RunIs l st r (some (M.st,⟨ng,bn,dn,bz ds,sc,pw⟩))→B ng bn dn ds sc pw e mv (some ⟨[x],tx,true⟩) (some ⟨[y],ty,true⟩))
theorem jc4{l:J}{st:St}{r:Rd}{A:Prop}{B:Bool→Bool→Bool→Y→Int→Int→Bool→Value→Option Blk→Option Blk→Prop}:FinN l st r A B↔
  ((runQ l st r=none→A)∧(∀(ng bn dn:Bool)(ds:Y)(sc pw:Int)(M:Ms)(e:Bool),(M.ok e pw sc&&decide (ds.size≤255∧0≤sc∧sc≤255))=true→runQ l st r=some (M.st,⟨ng,bn,dn,bz ds,sc,pw⟩)→B ng bn dn ds sc pw e M.v M.b0 M.b1)):=by
 unfold FinN;refine⟨fun⟨h1,h2,h3⟩=>⟨fun h=>h1 ⟨h⟩,fun ng bn dn ds sc pw M e ho h=> ?_⟩,fun⟨h1,h2⟩=>⟨fun h=>h1 h.h,fun ng bn dn ds sc pw M e mv ho hm h=> ?_,fun ng bn dn ds sc pw M e mv x y tx ty ho hm h=> ?_⟩⟩
 ·cases M with
  | beg=>exact h2 ng bn dn ds sc pw _ e _ ho ⟨rfl,rfl,rfl⟩ ⟨h⟩
  | bod q p=>exact h3 ng bn dn ds sc pw _ e _ _ _ _ _ ho ⟨rfl,rfl,rfl⟩ ⟨h⟩
  | exq q m=>exact h3 ng bn dn ds sc pw _ e _ _ _ _ _ ho ⟨rfl,rfl,rfl⟩ ⟨h⟩
  | beh=>exact h2 ng bn dn ds sc pw _ e _ ho ⟨rfl,rfl,rfl⟩ ⟨h⟩
 ·have:=h2 ng bn dn ds sc pw M e ho h.h;rw[←hm.v,←hm.b0,←hm.b1]at this;exact this
 ·have:=h2 ng bn dn ds sc pw M e ho h.h;rw[←hm.v,←hm.b0,←hm.b1]at this;exact this
theorem enc_dig{c:Int}(h:dig c=true):bz (Utf8.encode (IntKind.wrap .i32 c))=[c]∧(Utf8.encode (IntKind.wrap .i32 c)).size=1:=by
 unfold dig at h;have h:=jab h;have:c=48∨c=49∨c=50∨c=51∨c=52∨c=53∨c=54∨c=55∨c=56∨c=57:=by omega
 rcases this with h | h | h | h | h | h | h | h | h | h<;>subst h<;>exact⟨by kernel_rfl,by kernel_rfl⟩
theorem enc_app{c:Int}{ds:Y}(h:dig c=true)(hs:ds.size≤255):bz (ds++Utf8.encode (IntKind.wrap .i32 c))=bz ds++ [c]∧(ds++Utf8.encode (IntKind.wrap .i32 c)).size=ds.size+1∧jbn (ds.size+(Utf8.encode (IntKind.wrap .i32 c)).size)=true:=by
 obtain⟨h1,h2⟩:=enc_dig h;refine⟨by rw[jbr,h1],by rw[ByteArray.size_append,h2],?_⟩;rw[h2];simp only[jbn,Nat.ble_eq];omega
def V24_0:Y×Bool×Y×Int×Bool×Bool×Bool×Bool×Y×Int×Int×Ms×Bool×Int×Int→F:=fun(s,zb,zs,zi,f,ng,bn,dn,ds,sc,pw,M,e,L,i)=> [S s,.pointer (some ⟨0,0,some 0⟩),B f,.pointer (some ⟨6,0,some 0⟩),.pointer (some ⟨11,0,some 0⟩),I L,I i]
def B24_0:Y×Bool×Y×Int×Bool×Bool×Bool×Bool×Y×Int×Int×Ms×Bool×Int×Int→O:=fun(s,zb,zs,zi,f,ng,bn,dn,ds,sc,pw,M,e,L,i)=> [some ⟨[B zb,S zs,I zi],59,true⟩,some ⟨[B ng,B bn,B dn,S ds,I sc,I pw],272,true⟩,some ⟨[M.v,B e],275,true⟩,M.b0,M.b1]
def S24_0:LSpecA (Y×Bool×Y×Int×Bool×Bool×Bool×Bool×Y×Int×Int×Ms×Bool×Int×Int) where
 live:=[0,2,3,4,5,15,16]
 mid:=[0,6,11,200,201]
 n:=210
 ap:=[(.cap 11 0 0 9000000,200),(.cap 11 0 1 9000001,201)]
 dec vs bs:=match vs,bs with
  | [.string s,.pointer (some ⟨0,0,some 0⟩),.bool f,.pointer (some ⟨6,0,some 0⟩),.pointer (some ⟨11,0,some 0⟩),.int .i64 L,.int .i64 i],[some ⟨[.bool zb,.string zs,.int .i64 zi],59,true⟩,some ⟨[.bool ng,.bool bn,.bool dn,.string ds,.int .i64 sc,.int .i64 pw],272,true⟩,some ⟨[.func (.func 286) ⟨[]⟩ ⟨[]⟩,.bool e],275,true⟩,none,none]=>some (s,zb,zs,zi,f,ng,bn,dn,ds,sc,pw,.beg,e,L,i)
  | [.string s,.pointer (some ⟨0,0,some 0⟩),.bool f,.pointer (some ⟨6,0,some 0⟩),.pointer (some ⟨11,0,some 0⟩),.int .i64 L,.int .i64 i],[some ⟨[.bool zb,.string zs,.int .i64 zi],59,true⟩,some ⟨[.bool ng,.bool bn,.bool dn,.string ds,.int .i64 sc,.int .i64 pw],272,true⟩,some ⟨[.func (.func 316) ⟨[]⟩ ⟨[]⟩,.bool e],275,true⟩,none,none]=>some (s,zb,zs,zi,f,ng,bn,dn,ds,sc,pw,.beh,e,L,i)
  | [.string s,.pointer (some ⟨0,0,some 0⟩),.bool f,.pointer (some ⟨6,0,some 0⟩),.pointer (some ⟨11,0,some 0⟩),.int .i64 L,.int .i64 i],[some ⟨[.bool zb,.string zs,.int .i64 zi],59,true⟩,some ⟨[.bool ng,.bool bn,.bool dn,.string ds,.int .i64 sc,.int .i64 pw],272,true⟩,some ⟨[.func (.func 307) ⟨[]⟩ ⟨[.pointer (some ⟨200,0,some 0⟩),.pointer (some ⟨201,0,some 0⟩)]⟩,.bool e],275,true⟩,some ⟨[.bool p],4,true⟩,some ⟨[.bool q],4,true⟩]=>some (s,zb,zs,zi,f,ng,bn,dn,ds,sc,pw,.bod q p,e,L,i)
  | [.string s,.pointer (some ⟨0,0,some 0⟩),.bool f,.pointer (some ⟨6,0,some 0⟩),.pointer (some ⟨11,0,some 0⟩),.int .i64 L,.int .i64 i],[some ⟨[.bool zb,.string zs,.int .i64 zi],59,true⟩,some ⟨[.bool ng,.bool bn,.bool dn,.string ds,.int .i64 sc,.int .i64 pw],272,true⟩,some ⟨[.func (.func 315) ⟨[]⟩ ⟨[.pointer (some ⟨200,0,some 0⟩),.pointer (some ⟨201,0,some 0⟩)]⟩,.bool e],275,true⟩,some ⟨[.int .i64 m],3,true⟩,some ⟨[.bool q],4,true⟩]=>some (s,zb,zs,zi,f,ng,bn,dn,ds,sc,pw,.exq q m,e,L,i)
  | _,_=>none
 pre:=fun(s,zb,zs,zi,f,ng,bn,dn,ds,sc,pw,M,e,L,i)=>M.ok e pw sc&&decide (0≤i∧i≤L∧L=s.size∧L≤255∧(ds.size:Int)≤i∧0≤sc∧sc≤i)
 fin:=fun(s,zb,zs,zi,f,ng,bn,dn,ds,sc,pw,M,e,L,i) Z=>FinN ((bz s).drop i.toNat) M.st ⟨ng,bn,dn,bz ds,sc,pw⟩ (∀(ng' bn' dn':Bool)(ds':Y)(sc' pw' j:Int),Z .ret [S s,.pointer (some ⟨0,0,some 0⟩),B false,.pointer (some ⟨6,0,some 0⟩),.pointer (some ⟨11,0,some 0⟩),I L,I j] [some ⟨[B false,S e0,I 0],59,true⟩,some ⟨[B ng',B bn',B dn',S ds',I sc',I pw'],272,true⟩,some ⟨[.nilFunc,B false],275,true⟩,none,none]) (fun ng' bn' dn' ds' sc' pw' e' mv b0 b1=>Z (.exit 0) [S s,.pointer (some ⟨0,0,some 0⟩),B f,.pointer (some ⟨6,0,some 0⟩),.pointer (some ⟨11,0,some 0⟩),I L,I L] [some ⟨[B zb,S zs,I zi],59,true⟩,some ⟨[B ng',B bn',B dn',S ds',I sc',I pw'],272,true⟩,some ⟨[mv,B e'],275,true⟩,b0,b1])
def my(a b c:Bool)(d:Y)(e f:Int):Option Blk:=some (.mk [.bool a,.bool b,.bool c,.string d,ak e,ak f] 272 true)
def iy(a:Bool)(b:Y)(c:Int):Option Blk:=some (.mk [.bool a,.string b,ak c] 59 true)
def g0(a d e f l:Bool)(b g:Y)(j:FuncId)(c h i:Int)(k:F)(m n:Option Blk):O:=[iy a b c,my d e f g h i,some (.mk (j5 j k [] (.bool l)) 275 true),m,n]
def gu(b:Bool)(a:Y)(c d:Int):F:=[.string a,ar 0,.bool b,ar 6,ar 11,ak c,ak d]
def lf(e f g:Bool)(b h:Y)(a:Exit→F→O→Prop)(c d i j:Int):Prop:=a .ret (gu false b c d) [some (.mk [.bool false,bq,ak 0] 59 true),my e f g h i j,some (.mk (Value.nilFunc::fy) 275 true),none,none]
def ij(a:Bool):Option Blk:=some (.mk [.bool a] 4 true)
def ju:F:=[ar 200,ar 201]
def l6(a:Y)(b:Int):Y:=Utf8.encode (IntKind.i32.wrap (bv a b))
theorem r24_0b(s:Y)(zb:Bool)(zs:Y)(zi:Int)(f:Bool)(ng:Bool)(bn:Bool)(dn:Bool)(ds:Y)(sc:Int)(pw:Int)(e:Bool)(L:Int)(i:Int)(jk:Tmps)(R:Exit→F→O→Prop):(jb6 Tryz.prog G9 noL Tryz.f173.ntmps (jbb Tryz.f173 0) (tl S24_0.live (V24_0 (s,zb,zs,zi,f,ng,bn,dn,ds,sc,pw,.beg,e,L,i)) jk) (ml S24_0.mid (B24_0 (s,zb,zs,zi,f,ng,bn,dn,ds,sc,pw,.beg,e,L,i))) S24_0.n fun e t' m' _=>S24_0.out R e t' m')=(gn (au i L) (dp i s.size) (bif cw s i 32 then R .normal (gu f s L (bk i 1)) (g0 zb ng bn dn true zs ds 286 zi sc pw [] none none)else br (cw s i 43) true (cw s i 43 || cw s i 45) (R .normal (gu f s L (bk i 1)) (g0 zb (cw s i 45) bn dn false zs ds 307 zi sc pw ju (ij false) (ij false))) (bif dig (bv s i)then cu (fu ds (l6 s i)) R (g0 zb ng bn dn true zs (ds++l6 s i) 307 zi sc pw ju (ij false) (ij true)) (gu f s L (bk i 1))else bif cw s i 46 || true then bif cw s i 46&& !false then R .normal (gu f s L (bk i 1)) (g0 zb ng bn dn false zs ds 307 zi sc pw ju (ij true) (ij false))else lf ng bn dn s ds R L i sc pw else False)) (R (.exit 0) (gu f s L i) (g0 zb ng bn dn e zs ds 286 zi sc pw [] none none))):=by kernel_rfl
theorem r24_0d(s:Y)(zb:Bool)(zs:Y)(zi:Int)(f:Bool)(ng:Bool)(bn:Bool)(dn:Bool)(ds:Y)(sc:Int)(pw:Int)(q:Bool)(p:Bool)(e:Bool)(L:Int)(i:Int)(jk:Tmps)(R:Exit→F→O→Prop):(jb6 Tryz.prog G9 noL Tryz.f173.ntmps (jbb Tryz.f173 0) (tl S24_0.live (V24_0 (s,zb,zs,zi,f,ng,bn,dn,ds,sc,pw,(.bod q p),e,L,i)) jk) (ml S24_0.mid (B24_0 (s,zb,zs,zi,f,ng,bn,dn,ds,sc,pw,(.bod q p),e,L,i))) S24_0.n fun e t' m' _=>S24_0.out R e t' m')=(gn (au i L) (dp i s.size) (bif dig (bv s i)then bif fu ds (l6 s i)then bif p then R .normal (gu f s L (bk i 1)) (g0 zb ng bn dn true zs (ds++l6 s i) 307 zi (bk sc 1) pw ju (ij p) (ij true))else R .normal (gu f s L (bk i 1)) (g0 zb ng bn dn true zs (ds++l6 s i) 307 zi sc pw ju (ij p) (ij true))else False else br (cw s i 46) true (cw s i 46&& !p) (R .normal (gu f s L (bk i 1)) (g0 zb ng bn dn q zs ds 307 zi sc pw ju (ij true) (ij q))) (bif !q then lf ng bn dn s ds R L i sc pw else bif cw s i 69 then R .normal (gu f s L (bk i 1)) (g0 zb ng bn dn (decide (0>0)) zs ds 315 zi sc pw ju (some (.mk [ak 0] 3 true)) (ij false))else bif cw s i 66 || true then bif cw s i 66&& !p then R .normal (gu f s L (bk i 1)) (g0 zb ng true dn true zs ds 316 zi sc pw [] none none)else bif cw s i 32 then R .normal (gu f s L (bk i 1)) (g0 zb ng bn dn true zs ds 316 zi sc pw [] none none)else lf ng bn dn s ds R L i sc pw else False)) (R (.exit 0) (gu f s L i) (g0 zb ng bn dn e zs ds 307 zi sc pw ju (ij p) (ij q)))):=by kernel_rfl
theorem r24_0x(s:Y)(zb:Bool)(zs:Y)(zi:Int)(f:Bool)(ng:Bool)(bn:Bool)(dn:Bool)(ds:Y)(sc:Int)(pw:Int)(q:Bool)(m:Int)(e:Bool)(L:Int)(i:Int)(jk:Tmps)(R:Exit→F→O→Prop):(jb6 Tryz.prog G9 noL Tryz.f173.ntmps (jbb Tryz.f173 0) (tl S24_0.live (V24_0 (s,zb,zs,zi,f,ng,bn,dn,ds,sc,pw,(.exq q m),e,L,i)) jk) (ml S24_0.mid (B24_0 (s,zb,zs,zi,f,ng,bn,dn,ds,sc,pw,(.exq q m),e,L,i))) S24_0.n fun e t' m' _=>S24_0.out R e t' m')=(gn (au i L) (dp i s.size) (br (dig (bv s i)) true (dig (bv s i) &&au m 2) (R .normal (gu f s L (bk i 1)) (g0 zb ng bn dn (decide (bk m 1>0)) zs ds 315 zi sc (IntKind.i64.wrap (jy 10 pw (bv s i) .i64 .u8)) ju (some (.mk [bp (m+1)] 3 true)) (ij true))) (bif cw s i 43 || (cw s i 45 || true)then bif cm (cw s i 43) (!q) (cw s i 45&& !q)then R .normal (gu f s L (bk i 1)) (g0 zb ng bn (cw s i 45) (decide (0>0)) zs ds 315 zi sc pw ju (some (.mk [ak 0] 3 true)) (ij true))else bif cw s i 32 || true then bif cw s i 32&&dw m 0 then R .normal (gu f s L (bk i 1)) (g0 zb ng bn dn true zs ds 316 zi sc pw [] none none)else lf ng bn dn s ds R L i sc pw else False else False)) (R (.exit 0) (gu f s L i) (g0 zb ng bn dn e zs ds 315 zi sc pw ju (some (.mk [ak m] 3 true)) (ij q)))):=by kernel_rfl
theorem r24_0h(s:Y)(zb:Bool)(zs:Y)(zi:Int)(f:Bool)(ng:Bool)(bn:Bool)(dn:Bool)(ds:Y)(sc:Int)(pw:Int)(e:Bool)(L:Int)(i:Int)(jk:Tmps)(R:Exit→F→O→Prop):(jb6 Tryz.prog G9 noL Tryz.f173.ntmps (jbb Tryz.f173 0) (tl S24_0.live (V24_0 (s,zb,zs,zi,f,ng,bn,dn,ds,sc,pw,.beh,e,L,i)) jk) (ml S24_0.mid (B24_0 (s,zb,zs,zi,f,ng,bn,dn,ds,sc,pw,.beh,e,L,i))) S24_0.n fun e t' m' _=>S24_0.out R e t' m')=(gn (au i L) (dp i s.size) (bif cw s i 32 then R .normal (gu f s L (bk i 1)) (g0 zb ng bn dn true zs ds 316 zi sc pw [] none none)else lf ng bn dn s ds R L i sc pw) (R (.exit 0) (gu f s L i) (g0 zb ng bn dn e zs ds 316 zi sc pw [] none none))):=by kernel_rfl
theorem l24_0:LOKf Tryz.prog (oneL 0 S24_0.hA) Tryz.f173:=by
 refine jcb (h:=S24_0.hA) (by kernel_rfl) (jbu ok_G9 hmix (by kernel_rfl) (jbf _) S24_0 V24_0 B24_0 (fun(s,zb,zs,zi,f,ng,bn,dn,ds,sc,pw,M,e,L,i)=>(L-i).toNat) ?_ ?_ ?_)
 ·intro vs bs s h;simp only[S24_0]at h;split at h
  all_goals first | (cases h;exact⟨rfl,rfl⟩) | cases h | (split at h<;>first | (rename_i hq;cases h;have hq:=jah hq;subst hq;exact⟨rfl,rfl⟩) | cases h)
 ·exact fun⟨s,zb,zs,zi,f,ng,bn,dn,ds,sc,pw,M,e,L,i⟩ hp=>by cases M<;>rfl
 ·intro⟨s,zb,zs,zi,f,ng,bn,dn,ds,sc,pw,M,e,L,i⟩ jk Z hp hf;simp only[S24_0]at hp hf;rw[jc4]at hf;simp only[jaf,jae]at hp;obtain⟨hM,hi0,hiL,hLs,hL,hds,hsc0,hsci⟩:=hp;have hw:i<L→IntKind.i64.wrap (i+1)=i+1:=fun h=>w64 (by omega)
  have hin:i<L→decide (0≤i∧i<(s.size:Int))=true:=fun h=>jaa (by omega)
  have hex:¬i<L→i=L:=fun h=>by omega
  have hxr:¬i<L→runQ ((bz s).drop i.toNat) M.st ⟨ng,bn,dn,bz ds,sc,pw⟩=some (M.st,⟨ng,bn,dn,bz ds,sc,pw⟩):=fun h=>by rw[jg1 (by omega)];rfl
  have hxe:(M.ok e pw sc&&decide (ds.size≤255∧0≤sc∧sc≤255))=true:=by rw[hM,jaa (show ds.size≤255∧0≤sc∧sc≤255 by omega)];rfl
  by_cases hlt:i<L
  case neg=>
   have hz:=hf.2 ng bn dn ds sc pw M e hxe (hxr hlt);obtain rfl:=hex hlt;cases M with
   | beg=>
    rw[r24_0b];delta c9 gn j4 j5 ak my iy g0 dq ar gu br fy am bq lf ij ju bk cw cu bv l6 fu ct dp au;exact c_f (jad hlt) hz
   | bod q p=>
    rw[r24_0d];delta c9 gn j4 j5 ak my iy g0 ij dq ar ju gu br fy am bq lf bk cw bv l6 fu ct dp au;exact c_f (jad hlt) hz
   | exq q m=>
    rw[r24_0x];delta c9 gn j4 j5 ak my iy g0 ij dq ar ju gu br fy am bq lf bk dw cw cm bp jy bv au ct dp;exact c_f (jad hlt) hz
   | beh=>
    rw[r24_0h];delta c9 gn j4 j5 ak my iy g0 dq ar gu fy am bq lf bk cw ct dp au;exact c_f (jad hlt) hz
  rw[jd2 hi0 (by omega)]at hf;cases M with
  | beg=>
   rw[r24_0b];delta c9 gn j4 j5 ak my iy g0 dq ar gu br fy am bq lf ij ju bk cw cu bv l6 fu ct dp au;rw[hw hlt];simp only[Ms.ok,jaf,jae]at hM;have hpw:=hM.2;refine c_t (jaa hlt) (c_t (hin hlt) (cond_intro (fun hg=> ?_) (fun hg=> ?_)))
   ·have hg:jai s i.toNat=32:=eq_of_beq hg;rw[show Ms.beg.st=St.beg from rfl,q_beg1 hg]at hf;refine⟨(s,zb,zs,zi,f,ng,bn,dn,ds,sc,pw,.beg,true,L,i+1),rfl,rfl,?_,by simp only;omega,(by simp only[S24_0];exact jc4.2 hf)⟩;simp only[S24_0,jaf,jae];exact⟨by simp[Ms.ok,hpw],by omega,by omega,by omega,by omega,by omega,by omega,by omega⟩
   have h32:¬jai s i.toNat=32:=by simpa using hg
   refine c_t (by simp) (cond_intro (fun hg=> ?_) (fun hg=> ?_))
   ·have hg:jai s i.toNat=43∨jai s i.toNat=45:=by simpa using hg
    have e45:decide (jai s i.toNat=45)=(jai s i.toNat==45):=rfl;rw[show Ms.beg.st=St.beg from rfl,q_beg2 hg]at hf;refine⟨(s,zb,zs,zi,f,(jai s i.toNat==45),bn,dn,ds,sc,pw,(.bod false false),false,L,i+1),rfl,rfl,?_,by simp only;omega,(by simp only[S24_0];exact jc4.2 hf)⟩;simp only[S24_0,jaf,jae];exact⟨by simp[Ms.ok,hpw],by omega,by omega,by omega,by omega,by omega,by omega,by omega⟩
   have hsg:¬(jai s i.toNat=43∨jai s i.toNat=45):=by
    intro q;have:(jai s i.toNat==43 || jai s i.toNat==45)=true:=by simpa using q
    rw[this]at hg;cases hg
   rw[show Ms.beg.st=St.beg from rfl,q_beg3 h32 hsg]at hf;apply cond_intro<;>intro hg
   ·obtain⟨e1,e2,e3⟩:=enc_app (ds:=ds) hg (by omega);refine c_t e3 ?_;rw[q_bod1 hg]at hf;refine⟨(s,zb,zs,zi,f,ng,bn,dn,ds++Utf8.encode (IntKind.wrap .i32 (jai s i.toNat)),sc,pw,(.bod true false),true,L,i+1),rfl,rfl,?_,by simp only;omega,?_⟩
    ·simp only[S24_0,jaf,jae];exact⟨by simp[Ms.ok,hpw],by omega,by omega,by omega,by omega,by rw[e2];omega,by omega,by omega⟩
    ·simp only[S24_0];rw[e1];exact jc4.2 hf
   refine c_t (by simp) (cond_intro (fun h46=> ?_) (fun h46=> ?_))
   ·have h46:jai s i.toNat=46:=by simpa using h46
    rw[q_bod2 h46]at hf;refine⟨(s,zb,zs,zi,f,ng,bn,dn,ds,sc,pw,(.bod false true),false,L,i+1),rfl,rfl,?_,by simp only;omega,(by simp only[S24_0];exact jc4.2 hf)⟩;simp only[S24_0,jaf,jae];exact⟨by simp[Ms.ok,hpw],by omega,by omega,by omega,by omega,by omega,by omega,by omega⟩
   ·have h46:¬jai s i.toNat=46:=by simpa using h46
    exact hf.1 (by rw[q_bod3 hg (fun q=>h46 q.1)]) ng bn dn ds sc pw i
  | bod q p=>
   rw[r24_0d];delta c9 gn j4 j5 ak my iy g0 ij dq ar ju gu br fy am bq lf bk cw bv l6 fu ct dp au;rw[hw hlt];simp only[Ms.ok,jaf,jae]at hM;obtain⟨heq,hpw⟩:=hM;rw[show(Ms.bod q p).st=St.bod q p from rfl]at hf;refine c_t (jaa hlt) (c_t (hin hlt) (cond_intro (fun hg=> ?_) (fun hg=> ?_)))
   ·obtain⟨e1,e2,e3⟩:=enc_app (ds:=ds) hg (by omega);refine c_t e3 ?_;rw[q_bod1 hg]at hf;cases p with
    | true=>
     rw[w64 (n:=sc+1) (by omega)];refine⟨(s,zb,zs,zi,f,ng,bn,dn,ds++Utf8.encode (IntKind.wrap .i32 (jai s i.toNat)),sc+1,pw,(.bod true true),true,L,i+1),rfl,rfl,?_,by simp only;omega,?_⟩
     ·simp only[S24_0,jaf,jae];exact⟨by simp[Ms.ok,hpw],by omega,by omega,by omega,by omega,by rw[e2];omega,by omega,by omega⟩
     ·simp only[S24_0];rw[e1];exact jc4.2 hf
    | false=>
     refine⟨(s,zb,zs,zi,f,ng,bn,dn,ds++Utf8.encode (IntKind.wrap .i32 (jai s i.toNat)),sc,pw,(.bod true false),true,L,i+1),rfl,rfl,?_,by simp only;omega,?_⟩
     ·simp only[S24_0,jaf,jae];exact⟨by simp[Ms.ok,hpw],by omega,by omega,by omega,by omega,by rw[e2];omega,by omega,by omega⟩
     ·simp only[S24_0];rw[e1];exact jc4.2 hf
   refine c_t (by simp) (cond_intro (fun h46=> ?_) (fun h46=> ?_))
   ·obtain⟨h46x,hp⟩:jai s i.toNat=46∧p=false:=by simpa using h46
    subst hp;rw[q_bod2 h46x]at hf;refine⟨(s,zb,zs,zi,f,ng,bn,dn,ds,sc,pw,(.bod q true),q,L,i+1),rfl,rfl,?_,by simp only;omega,(by simp only[S24_0];exact jc4.2 hf)⟩;simp only[S24_0,jaf,jae];exact⟨by simp[Ms.ok,hpw],by omega,by omega,by omega,by omega,by omega,by omega,by omega⟩
   have h46':¬(jai s i.toNat=46∧p=false):=by
    intro z;have:(jai s i.toNat==46&& !p)=true:=by simpa using z
    rw[this]at h46;cases h46
   cases q with
   | false=>
    refine c_t rfl ?_;exact hf.1 (by rw[q_bod3 hg h46']) ng bn dn ds sc pw i
   | true=>
    refine c_f rfl (cond_intro (fun h69=> ?_) (fun h69=> ?_))
    ·have h69:jai s i.toNat=69:=eq_of_beq h69;rw[q_bod4 h69]at hf;refine⟨(s,zb,zs,zi,f,ng,bn,dn,ds,sc,pw,(.exq false 0),false,L,i+1),rfl,rfl,?_,by simp only;omega,(by simp only[S24_0];exact jc4.2 hf)⟩;simp only[S24_0,jaf,jae];exact⟨by simp[Ms.ok,hpw],by omega,by omega,by omega,by omega,by omega,by omega,by omega⟩
    have h69:¬jai s i.toNat=69:=by simpa using h69
    refine c_t (by simp) (cond_intro (fun h66=> ?_) (fun h66=> ?_))
    ·obtain⟨h66x,hp⟩:jai s i.toNat=66∧p=false:=by simpa using h66
     subst hp;rw[q_bod5 h66x]at hf;refine⟨(s,zb,zs,zi,f,ng,true,dn,ds,sc,pw,.beh,true,L,i+1),rfl,rfl,?_,by simp only;omega,(by simp only[S24_0];exact jc4.2 hf)⟩;simp only[S24_0,jaf,jae];exact⟨by simp[Ms.ok,hpw],by omega,by omega,by omega,by omega,by omega,by omega,by omega⟩
    have h66':¬(jai s i.toNat=66∧p=false):=by
     intro z;have:(jai s i.toNat==66&& !p)=true:=by simpa using z
     rw[this]at h66;cases h66
    apply cond_intro<;>intro h32
    ·have h32:jai s i.toNat=32:=eq_of_beq h32;rw[q_bod6 h32]at hf;refine⟨(s,zb,zs,zi,f,ng,bn,dn,ds,sc,pw,.beh,true,L,i+1),rfl,rfl,?_,by simp only;omega,(by simp only[S24_0];exact jc4.2 hf)⟩;simp only[S24_0,jaf,jae];exact⟨by simp[Ms.ok,hpw],by omega,by omega,by omega,by omega,by omega,by omega,by omega⟩
    ·have h32:¬jai s i.toNat=32:=by simpa using h32
     exact hf.1 (by rw[q_bod7 hg h46' h69 h66' h32]) ng bn dn ds sc pw i
  | exq q m=>
   rw[r24_0x];delta c9 gn j4 j5 ak my iy g0 ij dq ar ju gu br fy am bq lf bk dw cw cm bp jy bv au ct dp;rw[hw hlt];simp only[Ms.ok,jaf,jae]at hM;obtain⟨heq,hm0,hm2,hq,hp0,hp1,hp2,hp3⟩:=hM;rw[show(Ms.exq q m).st=St.exq q m.toNat from rfl]at hf;have hrng:=jho s i.toNat;refine c_t (jaa hlt) (c_t (hin hlt) (c_t (by simp) (cond_intro (fun hg=> ?_) (fun hg=> ?_))))
   ·obtain⟨hg,hm⟩:dig (jai s i.toNat)=true∧m<2:=by simpa using hg
    have hg2:48≤jai s i.toNat∧jai s i.toNat≤57:=by unfold dig at hg;exact jab hg
    have hpb:pw<10:=by
     rcases(show m=0∨m=1 by omega)with z | z
     ·rw[hp1 z];omega
     ·exact hp2 z
    rw[q_ex1 hg (by omega),show m.toNat+1=(m+1).toNat by omega]at hf;rw[w64 (n:=10*pw) (by omega),w8 (n:=jai s i.toNat-48) (by omega),w64 (n:=jai s i.toNat-48) (by omega),w64 (n:=10*pw+(jai s i.toNat-48)) (by omega),w64 (n:=m+1) (by omega)];refine⟨(s,zb,zs,zi,f,ng,bn,dn,ds,sc,10*pw+(jai s i.toNat-48),(.exq true (m+1)),decide (m+1>0),L,i+1),rfl,rfl,?_,by simp only;omega,(by simp only[S24_0];exact jc4.2 hf)⟩;simp only[S24_0,jaf,jae];refine⟨?_,by omega,by omega,by omega,by omega,by omega,by omega,by omega⟩;simp only[Ms.ok,jaf,jae,beq_iff_eq];refine⟨trivial,by omega,by omega,(fun h=>by cases h),by omega,by omega,?_,by omega⟩;intro h1;rw[hp1 (by omega)];omega
   have hg':¬(dig (jai s i.toNat)=true∧m.toNat<2):=by
    intro z;have:(dig (jai s i.toNat) &&decide (m<2))=true:=by rw[z.1,jaa (show m<2 by omega)];rfl
    rw[this]at hg;cases hg
   refine c_t (by simp) (cond_intro (fun hs=> ?_) (fun hs=> ?_))
   ·have hs2:(jai s i.toNat=43∨jai s i.toNat=45)∧q=false:=by
     by_cases z:jai s i.toNat=43
     ·simp[z]at hs;exact⟨.inl z,hs⟩
     ·simp[z]at hs;exact⟨.inr hs.1,hs.2⟩
    obtain⟨hs2,rfl⟩:=hs2;have hm:=hq rfl;subst hm;rw[q_ex2 hs2]at hf;refine⟨(s,zb,zs,zi,f,ng,bn,(jai s i.toNat==45),ds,sc,pw,(.exq true 0),(decide ((0:Int)>0)),L,i+1),rfl,rfl,?_,by simp only;omega,(by simp only[S24_0];exact jc4.2 hf)⟩;simp only[S24_0,jaf,jae];refine⟨?_,by omega,by omega,by omega,by omega,by omega,by omega,by omega⟩;simp only[Ms.ok,jaf,jae,beq_iff_eq];exact⟨trivial,by omega,by omega,(fun h=>by cases h),by omega,(fun _=>hp1 rfl),(fun h=>by cases h),by omega⟩
   have hs':¬((jai s i.toNat=43∨jai s i.toNat=45)∧q=false):=by
    rintro ⟨z | z,rfl⟩ <;>simp[z]at hs
   refine c_t (by simp) (cond_intro (fun h32=> ?_) (fun h32=> ?_))
   ·obtain⟨h32,hm⟩:jai s i.toNat=32∧m>0:=by simpa using h32
    rw[q_ex3 h32 (by omega)]at hf;refine⟨(s,zb,zs,zi,f,ng,bn,dn,ds,sc,pw,.beh,true,L,i+1),rfl,rfl,?_,by simp only;omega,(by simp only[S24_0];exact jc4.2 hf)⟩;simp only[S24_0,jaf,jae];exact⟨by simp only[Ms.ok,Bool.true_and,jae];omega,by omega,by omega,by omega,by omega,by omega,by omega,by omega⟩
   ·have h32:¬(jai s i.toNat=32∧0<m.toNat):=by
     intro z;have:(jai s i.toNat==32&&decide (m>0))=true:=by rw[z.1,jaa (show m>0 by omega)];rfl
     rw[this]at h32;cases h32
    exact hf.1 (by rw[q_ex4 hg' hs' h32]) ng bn dn ds sc pw i
  | beh=>
   rw[r24_0h];delta c9 gn j4 j5 ak my iy g0 dq ar gu fy am bq lf bk cw ct dp au;rw[hw hlt];simp only[Ms.ok,jaf,jae]at hM;rw[show Ms.beh.st=St.beh from rfl]at hf;refine c_t (jaa hlt) (c_t (hin hlt) (cond_intro (fun h32=> ?_) (fun h32=> ?_)))
   ·have h32:jai s i.toNat=32:=eq_of_beq h32;rw[q_beh1 h32]at hf;refine⟨(s,zb,zs,zi,f,ng,bn,dn,ds,sc,pw,.beh,true,L,i+1),rfl,rfl,?_,by simp only;omega,(by simp only[S24_0];exact jc4.2 hf)⟩;simp only[S24_0,jaf,jae];exact⟨by simp only[Ms.ok,Bool.true_and,jae];omega,by omega,by omega,by omega,by omega,by omega,by omega,by omega⟩
   ·have h32:¬jai s i.toNat=32:=by simpa using h32
    exact hf.1 (by rw[q_beh2 h32]) ng bn dn ds sc pw i
theorem zl_isB(l:Yb):IsB (zl l):=fun c hc=>by
 obtain⟨b,_,rfl⟩:=List.mem_map.1 hc;have:=b.toNat_lt;omega
theorem dz_isB(n:Int):IsB (dz n):=by
 unfold dz;split
 ·exact IsB.nil
 ·exact zl_isB _
theorem jl6:∀(k:Nat)(n:Int),0≤n→n<10^k→(dz n).length≤k
 | 0,n,h,h1=>by
  have:n=0:=by simp at h1;omega
  rw[dz,if_pos this];simp
 | k+1,n,h,h1=>by
  by_cases h0:n=0
  ·rw[dz,if_pos h0];simp
  ·rw[jld (by omega),List.length_append];rw[Int.pow_succ]at h1;have:=jl6 k (n/10) (by omega) (by omega);simp;omega
theorem jk1(g:Bool)(l:J):ja1 g (dz (binG l 0)) 0=ja1 g (binD l) 0:=by
 unfold binD;by_cases h:binG l 0=0
 ·rw[h];have e:decZ 0=[48]:=by rw[decZ,Int.toNat_zero,Lib.decDigits_one (by decide)];rfl
  rw[e];rfl
 ·rw[dz,if_neg h]
theorem trim_isB{l c:J}(h:IsB l):IsB (jap l c):=fun x hx=>by
 refine h x ?_;have:=(List.dropWhile_sublist _).subset hx;exact List.mem_reverse.1 ((List.dropWhile_sublist _).subset (List.mem_reverse.1 this))
theorem jig{p:Int→Bool}:∀{l:J},(∀c∈l,p c=true)→l.dropWhile p=[]
 | [],_=>rfl
 | c::l,h=>by rw[List.dropWhile_cons_of_pos (h c (List.mem_cons_self ..))];exact jig fun d hd=>h d (List.mem_cons_of_mem _ hd)
theorem jfp{p:Int→Bool}{l:J}{c:Int}(hc:c∈l)(hp:p c=false):∃d r,l.dropWhile p=d::r∧p d=false:=by
 induction l with
 | nil=>cases hc
 | cons a l ih=>
  cases ha:p a with
  | false=>exact⟨a,l,by rw[List.dropWhile_cons_of_neg (by simp[ha])],ha⟩
  | true=>
   rw[List.dropWhile_cons_of_pos ha];rcases List.mem_cons.1 hc with rfl | hc
   ·rw[ha]at hp;cases hp
   ·exact ih hc
theorem jhs(l:J):decide (jap l (bz ⟨#[48,49]⟩)=[])=jca l:=by
 have e:bz ⟨#[48,49]⟩=[48,49]:=rfl
 have hh:∀c:Int,hasZ [48,49] c=decide (c=48∨c=49):=fun c=>by
  rw[Bool.eq_iff_iff,jbk,jae];simp
 rw[e,Bool.eq_iff_iff,jae];constructor
 ·intro h;unfold jca;refine List.all_eq_true.2 fun c hc=> ?_
  cases q:decide (c=48∨c=49)with
  | true=>rfl
  | false=>
   exfalso;rw[←hh]at q;obtain⟨d,r,h1,h2⟩:=jfp (List.mem_reverse.2 hc) q;have hm:d∈(l.reverse.dropWhile (hasZ [48,49])).reverse:=by rw[h1];simp
   obtain⟨d',r',h3,_⟩:=jfp hm h2;unfold jap at h;rw[h3]at h;cases h
 ·intro h;have ha:∀c∈l,hasZ [48,49] c=true:=fun c hc=>by rw[hh];exact List.all_eq_true.1 h c hc
  unfold jap;rw[jig (l:=l.reverse) fun c hc=>ha c (List.mem_reverse.1 hc)];rfl
abbrev onV(x:Option Num):Value:= .tuple ⟨[numV (x.getD num0),.bool x.isSome]⟩
def s24(s:Y):Bool×Value:=(decide (s.size≤9223372036854775807),onV (rdN (bz s)))
def k8(a:Bool)(b:Prod J Int):F:=[.bool a,.string (szO b.fst),.int .i64 b.snd]
def l7(a:Bool)(b:Y)(c:Int):F:=k8 (Prod.fst (ja1 a (bz b) c)) (Prod.snd (ja1 a (bz b) c))
def lp(a:Y)(c d e:Int)(b:Nat):Bool:=decide (a.size≤b∧c≤d∧d≤e)
def o0(c:Bool)(a:Y)(b:Int)(d:Value→Prop):Prop:=aq (lp a (-100000) b 100000 100000) (az [ay (l7 c a b),.bool true]) d
def pf(b j k l m:Bool)(e i:Y)(a:Cx.Ms)(c d:Int)(g h:Option Blk)(f:Value)(n:Value→Prop):Prop:=(Ms.ok a b c d&&lp e 0 d 255 255)=true→MsIs a f g h→RunIs (fk i) (Ms.st Ms.beg) (Rd.mk false false false (bz am) 0 0) (some (Ms.st a,Rd.mk j k l (bz e) d c))→lg m [f,.bool b] 210 (bif !b then n (az (k7::fy))else bif k then br (i6 e 31) (ax e&&ir [49] 48&&true) (i6 e 31 || !ig e ⟨#[48,49]⟩) (n (az (k7::fy))) (bif jca (bz e) &&decide (e.size≤64)then o0 j (szO (dz (binG (bz e) 0))) 0 n else False)else bif l then o0 j e (io d (jv 0 c)) n else o0 j e (jv d c) n)
theorem v24(s:Y)(R:Value→Prop):jaz Tryz.prog G9 (oneL 0 S24_0.hA) Tryz.f173 [Enc.enc s] (fun _=>none) 0 (fun v _ _=>R v)=(bif i6 s 255 then co (k7::fy) R else bif S24_0.toLSpec.pre (s,(false,(am,((0:Int),(false,(false,(false,(false,(am,((0:Int),((0:Int),(Ms.beg,(true,(al s,(0:Int)))))))))))))))then(RunIs (fk s) (Ms.st Ms.beg) (Rd.mk false false false (bz am) 0 0) none→Bool→Bool→Bool→Y→Int→Int→Int→Tmps→co (ay [B false,S Px.e0,ak 0]::fy) R)∧(∀a:Bool,∀b:Bool,∀c:Bool,∀d:Y,∀e:Int,∀f:Int,∀g:Cx.Ms,∀h:Bool,∀i:Value,pf h a b c true d s g f e none none i R)∧(∀a:Bool,∀b:Bool,∀c:Bool,∀d:Y,∀e:Int,∀f:Int,∀g:Cx.Ms,∀h:Bool,∀i:Value,∀j:Value,∀k:Value,∀l:TypeId,∀m:TypeId,pf h a b c (ku [j] [k] 210) d s g f e (some (.mk [j] l true)) (some (.mk [k] m true)) i R)else False):=by kernel_rfl
theorem ok24:jan Tryz.prog 173 (sp1 s24):=by
 refine jck ok_G9 hmix (.m Tryz.func173) l24_0 jag fun s hc=> ?_
 rw[ja5,v24];delta lg aq az ay k8 l7 lp o0 jv io br fy ak am bq k7 du ig al i6 ic ir ax fk pf ku co;have hc:(s.size≤9223372036854775807):=jab hc
 try dsimp only[s24]
 have hN:∀x:Value,x=Value.tuple ⟨[.agg ⟨[.bool false,.string ⟨#[]⟩,.int .i64 0]⟩,.bool false]⟩→rdN (bz s)=none→x=onV (rdN (bz s)):=fun x hx h=>by
  rw[h,hx];show _=Value.tuple ⟨[.agg ⟨[.bool false,.string (szO []),.int .i64 0]⟩,.bool false]⟩;rw[jdv]
 apply cond_intro<;>intro h
 ·have h:=jab h;exact hN _ rfl (by rw[rdN,if_pos (by rw[jam];omega)])
 have h:=jac h;have hn:∀neg,ja1 neg [] 0=(false,[],0):=fun neg=>rfl
 have hq:=num_eq (ja1:=ja1) (binD:=binD) hn (bz s)
 have hrd:rdN (bz s)=(((runQ (bz s) .beg {}).bind fun x=>if endP x.1=true then some x.2 else none).bind (finP ja1 binD)):=by
  rw[rdN,if_neg (by rw[jam];omega),←hq,numP,run_Q _ _ _ rfl]
 have hbody:∀(ng bn dn:Bool)(ds:Y)(sc pw:Int)(M:Ms)(e:Bool),(M.ok e pw sc&&decide (ds.size≤255∧0≤sc∧sc≤255))=true→runQ (bz s) .beg {}=some (M.st,⟨ng,bn,dn,bz ds,sc,pw⟩)→
   rdN (bz s)=(if e=true then finP ja1 binD ⟨ng,bn,dn,bz ds,sc,pw⟩else none)∧ds.size≤255∧0≤sc∧sc≤255∧0≤pw∧pw<100:=fun ng bn dn ds sc pw M e hok hr=>by
  simp only[jaf,jae]at hok;obtain⟨hM,h1,h2,h3⟩:=hok
  have he:endP M.st=e∧0≤pw∧pw<100:=by
   cases M with
   | beg=>simp only[Ms.ok,jaf,jae]at hM;rw[hM.1,hM.2];exact⟨rfl,by omega,by omega⟩
   | bod q p=>simp only[Ms.ok,jaf,jae,beq_iff_eq]at hM;rw[hM.1,hM.2];exact⟨rfl,by omega,by omega⟩
   | exq q m=>
    simp only[Ms.ok,jaf,jae,beq_iff_eq]at hM;refine⟨?_,by omega,by omega⟩;rw[hM.1];show decide (0<m.toNat)=decide (0<m);rw[decide_eq_decide];omega
   | beh=>simp only[Ms.ok,jaf,jae]at hM;rw[hM.1];exact⟨rfl,by omega,by omega⟩
  rw[hrd,hr];refine⟨?_,h1,h2,h3,he.2.1,he.2.2⟩;show(if endP M.st=true then some _ else none).bind _=_;rw[he.1];cases e<;>rfl
 refine c_t (by simp only[S24_0,jaf,jae];refine⟨by simp[Ms.ok],?_,?_,?_,?_,?_,?_,?_⟩ <;>first | omega | exact Int.le_refl _ | rfl | (simp;done) | (simp;omega)) ⟨fun hr _ _ _ _ _ _ _ _=> ?_,?_,?_⟩
 ·have hr:runQ (bz s) .beg {}=none:=hr.h;exact hN _ rfl (by rw[hrd,hr];rfl)
 all_goals
  first | intro ng bn dn ds sc pw M e mv x y tx ty hok hms hr | intro ng bn dn ds sc pw M e mv hok hms hr
  have hr:runQ (bz s) .beg {}=some (M.st,⟨ng,bn,dn,bz ds,sc,pw⟩):=hr.h;obtain⟨g1,g2,g3,g4,g5,g6⟩:=hbody ng bn dn ds sc pw M e hok hr
  refine c_t (by
   obtain⟨m1,m2,m3⟩:=hms;subst m1
   cases M<;>first
    | rfl
    | (cases m2;done)
    | (cases m2;cases m3;rfl)) fun _=> ?_
  apply cond_intro<;>intro he
  ·have he:e=false:=by simpa using he
   exact hN _ rfl (by rw[g1,he];rfl)
  have he:e=true:=by simpa using he
  subst he;rw[if_pos rfl]at g1;apply cond_intro<;>intro hb
  ·subst hb;rw[finP,if_pos rfl]at g1
   have hT:((szO (jap (bz ds) (bz ⟨#[48,49]⟩))).toList==(⟨#[]⟩:Y).toList)=jca (bz ds):=by
    rw[jce,jco (trim_isB (jdb ds))];exact jhs (bz ds)
   rw[hT];refine c_t (by rw[jaa (show ds.size≤9223372036854775807 by omega)];exact(congrArg (decide ((ds.size:Int)>31) || ·) (show(true&& (decide ((⟨#[48,49]⟩:Y).size≤1000) &&asc (bz ⟨#[48,49]⟩)) &&true)=true by kernel_rfl)).trans (Bool.or_true _)) ?_;apply cond_intro<;>intro h
   ·refine hN _ rfl (g1.trans (if_neg fun q=> ?_));simp only[Bool.or_eq_true,jae,Bool.not_eq_true']at h;rw[jam]at q;rcases h with h | h
    ·omega
    ·rw[q.2]at h;cases h
   ·simp only[Bool.or_eq_false_iff,decide_eq_false_iff_not,Bool.not_eq_false']at h;have hl:(bz ds).length≤31:=by rw[jam];omega
    rw[if_pos ⟨hl,h.2⟩]at g1;have hb64:=jmb h.2 (by omega);have hd:=jl6 20 (binG (bz ds) 0) hb64.1 (Int.lt_of_lt_of_le hb64.2 (by decide));refine c_t (by rw[h.2,jaa (show ds.size≤64 by omega)];rfl) (c_t (jaa ⟨by rw[jb2];omega,by omega,by omega⟩) ?_);rw[jco (dz_isB _),jk1,g1];rfl
  ·subst hb;rw[finP,if_neg (fun h=>by cases h)]at g1;cases dn with
   | true=>
    rw[w64 (n:=0-pw) (by omega),w64 (n:=sc-(0-pw)) (by omega)];refine c_t rfl (c_t (jaa (by omega)) ?_);rw[g1,show sc-(0-pw)=sc - -pw by omega];rfl
   | false=>
    rw[w64 (n:=sc-pw) (by omega)];refine c_f rfl (c_t (jaa (by omega)) ?_);rw[g1];rfl
def chk4(t:Ty):Int:=if ja9 t then 0
 else if t.k=3∧t.q=0∧bz t.s=[]∧0≤t.p∧t.p≤255 then 0
 else if t.k=4∧t.q=0∧bz t.s=[]∧t.v=false∧0≤t.p∧t.p≤64 then 0
 else if t.k=5∧t.p=0∧t.q=0∧t.v=false∧pE (bz t.s)=0 then 0
 else if t.k=6∧t.q=0∧bz t.s=[]∧t.p=0∧t.v=false then 0 else 5
def is4(v:Vl)(t:Ty):Bool:=
 if t.k=1∨t.k=2 then Fx.fits v t==0
 else if t.k=3 then decide (v.n=0∧((v.s.size:Int)=t.p∨t.v=true∧(v.s.size:Int)<t.p))
 else if t.k=4 then decide (v.n=0∧(v.s.size:Int)=t.p) &&jca (bz v.s)
 else if t.k=5 then decide (v.n=0) &&hoZ (bz t.s) (bz v.s)
 else decide (bz v.s=[]∧0≤v.n∧v.n≤524288)
def fit4(v:Vl)(t:Ty):Int:=if chk4 t≠0 then chk4 t else if is4 v t=true then 0 else 6
def K0:Env:=Env.nil
theorem ok_K0:ja0 Tryz.prog K0:=jav
def s191:Bool×Value:=(true,.agg ⟨Fx.tensL⟩)
theorem v191(R:Value→Prop):jaz Tryz.prog K0 noL Tryz.f177 [] (fun _=>none) 0 (fun v _ _=>R v)=(R (.agg ⟨Fx.tensL⟩)):=by kernel_rfl
theorem ok191:jan Tryz.prog 177 (sp0 s191):=by
 refine qure0 ok_K0 hmix (.m Tryz.func177) jaj fun hc=> ?_
 rw[ja5,v191]
 try dsimp only[s191]
def K1:Env:=Env.nil.add 177 (sp0 s191)
theorem ok_K1:ja0 Tryz.prog K1:=jak jav ok191
def s144(t:Ty):Bool×Value:=(decide (ja9 t),I (bnd t))
theorem v144(t:Ty)(R:Value→Prop):jaz Tryz.prog K1 noL Tryz.f123 [Enc.enc t] (fun _=>none) 0 (fun v _ _=>R v)=(bif cl t 1 then aq (ct (Fx.Ty.p t) 19&&jbc .i64 Fx.tensL (Fx.Ty.p t).toNat) (I (jaq Fx.tensL (Fx.Ty.p t).toNat)) R else aq (decide (0≤Fx.Ty.p t)) (bp (1*2^Min.min (Fx.Ty.p t).toNat 64)) R):=by kernel_rfl
theorem ok144:jan Tryz.prog 123 (sp1 s144):=by
 refine jck ok_K1 hmix (.m Tryz.func123) jaj jag fun t hc=> ?_
 rw[ja5,v144];delta aq bp ct cl;have hc:(ja9 t):=jab hc
 try dsimp only[s144]
 obtain⟨h1,h2,h3,h4,h5⟩:=Fx.valid_r hc;have hm:t.k=1→t.p≤9:=fun h=>by have:=hc.2.2.1;rw[h]at this;exact this
 apply cond_intro<;>intro h
 ·have h:t.k=1:=eq_of_beq h;have ht:=Fx.tens_at (p:=t.p) (by omega) (by have:=hm h;omega);refine c_t (by rw[ht.1,jaa (show 0≤t.p∧t.p<19 by have:=hm h;omega)];rfl) ?_;rw[ht.2,bnd,h];rfl
 ·have h:t.k=2:=hc.1.resolve_left (by simpa using h);refine c_t (jaa (by omega)) ?_;rw[Fx.shl_pw (by omega) (by omega),bnd,h];rfl
def K2:Env:=((Env.nil.add 124 (sp2 s55)).add 121 (sp1 s66)).add 123 (sp1 s144)
theorem ok_K2:ja0 Tryz.prog K2:=jak (jak (jak jav ok55) ok66) ok144
def s70(v:Vl)(t:Ty):Bool×Value:=(true,I (Fx.fits v t))
theorem v70(v:Vl)(t:Ty)(R:Value→Prop):jaz Tryz.prog K2 noL Tryz.f73 [Enc.enc v,Enc.enc t] (fun _=>none) 0 (fun v _ _=>R v)=(bif check t !=0 then R (I (check t))else bif decide (ja9 t)then bif !v.s.toList==(ByteArray.mk #[]).toList || (decide (v.n≤IntKind.wrap .i64 (0-bnd t)) || true)then bif !v.s.toList==(ByteArray.mk #[]).toList || (decide (v.n≤IntKind.wrap .i64 (0-bnd t)) || decide (v.n≥bnd t))then R (I 6)else R (I 0)else False else False):=by kernel_rfl
theorem ok70:jan Tryz.prog 73 (sp2 s70):=by
 refine jdg ok_K2 hmix (.m Tryz.func73) jaj jag fun v t hc=> ?_
 rw[ja5,v70]
 try dsimp only[s70]
 rw[str0];by_cases hv:ja9 t
 ·obtain⟨h1,h2,h3,h4⟩:=Fx.valid_r hv;have hb:=Fx.bnd_range hv;have hc:check t=0:=if_pos hv;rw[hc,w64 (n:=0-bnd t) (by omega)];refine c_f rfl (c_t (jaa hv) (c_t (by simp) ?_));unfold Fx.fits;rw[if_pos hv];apply cond_intro<;>intro h
  ·rw[if_neg];intro hf;unfold Fit at hf;simp[hf.1]at h;omega
  ·rw[if_pos];unfold Fit;simp at h;grind
 ·have hc:check t=5:=if_neg hv;rw[hc];refine c_t rfl ?_;unfold Fx.fits;rw[if_neg hv]
def s71(s:Y):Bool×Value:=(decide (s.size≤9223372036854775807),B (jca (bz s)))
theorem v71(s:Y)(R:Value→Prop):jaz Tryz.prog K2 noL Tryz.f74 [Enc.enc s] (fun _=>none) 0 (fun v _ _=>R v)=(aq (ax s&&ir [49] 48) (B (ig s ⟨#[48,49]⟩)) R):=by kernel_rfl
theorem ok71:jan Tryz.prog 74 (sp1 s71):=by
 refine jck ok_K2 hmix (.m Tryz.func74) jaj jag fun s hc=> ?_
 rw[ja5,v71];delta aq du am ig ic ir ax;have hc:(s.size≤9223372036854775807):=jab hc
 try dsimp only[s71]
 refine c_t (by rw[jaa hc,Bool.true_and];kernel_rfl) ?_;rw[jce,jco (trim_isB (jdb s)),jhs]
theorem fn20:Fn1 Tryz.prog 72 Tryz.f72:= .m Tryz.func72
theorem fn22:Fn1 Tryz.prog 23 Tryz.f23:= .m Tryz.func23
def tkGo(b:Int):J→Int→Int→Int×Int
 | [],x,k=>(x,k)
 | d::r,x,k=>if b≤10*x+(d-48)then tkGo b r ((10*x+(d-48)).tmod b) 1 else tkGo b r (10*x+(d-48)) k
def je8(g:Bool)(l:J)(c:Int):Bool:=if l=[]then !g&&decide (c=0)else decide (l.length≤400) && (ja7 l&& (!(l.head?==some 48) && (!(l.getLast?==some 48) &&decide (-400≤c∧c≤400))))
def tkR(g:Bool)(l:J)(c:Int)(b q:Int):Int×Int:=(if g=true then -(tkGo b (plcR l c q) 0 0).1 else(tkGo b (plcR l c q) 0 0).1,(tkGo b (plcR l c q) 0 0).2)
def tkV(g:Bool)(l:J)(c:Int)(t:Ty):Int×Int×Int:=if je8 g l c=false then(0,0,1)else if¬ja9 t then(0,0,5)else((tkR g l c (bnd t) t.q).1,(tkR g l c (bnd t) t.q).2,0)
abbrev vlv(n:Int):Value:= .agg ⟨[.int .i64 n,.string ⟨#[]⟩]⟩
def hideS(sp:Ab.Spec):F→Lk→Nat→(Value→Lk→Nat→Prop)→Prop:=fun args m n K=>match sp args (args.map (blkOf m))with
 | some (c,.string e)=>match cnd c with
  | true=>∀s':Y,e=s'→K (.string s') m n
  | false=>False
 | _=>False
theorem jfb{P:Program}{f:FuncId}{sp:Ab.Spec}(h:jan P f sp):jcw P f (hideS sp):=by
 obtain⟨hc,hp⟩:=h;refine⟨hc,fun args m n K hh N w0 ι w hrel hwf hargs=> ?_⟩;unfold hideS at hh;split at hh
 case h_2=>exact hh.elim
 rename_i c e hs;split at hh
 case h_2=>exact hh.elim
 rename_i hcc;have hcc:c=true:=hcc;subst hcc;refine(hp args (.string e) N w0 m ι w hrel hs rfl).mono fun e' w' ⟨h1,h2⟩=> ?_
 exact⟨.string e,m,n,ι,by rw[h1];rfl,hh e rfl,Nat.le_refl _,fun _ _=>rfl,hrel.grow h2,hwf,by simp[ids]⟩
theorem jhy(c:Int):∀l:J,past c l=if(Cv.ahead c l).length<l.length then some (l.drop ((Cv.ahead c l).length+1))else none
 | []=>rfl
 | a::l=>by
  by_cases h:a=c
  ·have e:Cv.ahead c (a::l)=[]:=by simp[Cv.ahead,h]
   rw[e];simp[past,h]
  ·have e:past c (a::l)=past c l:=by simp[past,h]
   rw[e,jhy c l,jem l h];simp
theorem jhp(c:Int)(l:J):(Cv.ahead c l).length≤l.length:=(List.takeWhile_sublist _).length_le
def decB(g:Bool)(x:J)(e:Int):Option Num:=if Cv.ahead 46 x++(past 46 x).getD []≠ []∧ja7 (Cv.ahead 46 x)=true∧ja7 ((past 46 x).getD [])=true then some (ja1 g (Cv.ahead 46 x++(past 46 x).getD []) (((past 46 x).getD []).length-e))else none
def decE(l:J):Option Int:=match past 69 l with
 | none=>some 0
 | some x=>expZ x
theorem decR_eq(g:Bool)(l:J):decR ja1 g l=(decE l).bind (decB g (Cv.ahead 69 l)):=by
 unfold decR decE;cases past 69 l with
 | none=>rfl
 | some x=>cases hx:expZ x<;>(simp only[hx];rfl)
theorem bz_dropE{s:Y}(n:Nat):bz (s.extract n s.size)=(bz s).drop n:=by
 rw[jb7];rw[List.take_of_length_le (by rw[jam];omega)]
structure DecIs (g:Bool)(s:Y)(x:Option Num):Prop where
 h:decR ja1 g (bz s)=x
def hid83:F→Lk→Nat→(Value→Lk→Nat→Prop)→Prop:=fun args m n K=>match args with
 | [.bool g,.string s]=>match cnd (decide (s.size≤1000))with
  | true=>∀x:Option Num,DecIs g s x→K (onV x) m n
  | false=>False
 | _=>False
def G6:Env:=(((((Env.nil.add 136 (sp1 s74)).add 83 (sp3 s80)).addG 80 (hideS (sp1 s79))).addG 84 (hideS (sp2 s87))).add 85 (sp1 s82)).addG 137 hid83
def k25(g:Bool)(t:Y)(R:Value→Prop):Prop:=ji (decide (fq t 1≥1)) (ct (fq t 1) (al t) &&true) true (decide (fq t 1≥1) &&bv t (fq t 1)==66) (br (decide (fq t 1>31)) (ez 0 0 (fq t 1) (fq t 1) (al t) && (ax (gk t 1) &&true)) (decide (fq t 1>31) || !jca (bz (gk t 1))) (co (k7::fy) R) (bif ez 0 0 (fq t 1) (fq t 1) (al t)then fw (jca (bz (gk t 1))) (decide ((gk t 1).size≤64)) (ct (binG (bz (gk t 1)) 0) 18446744073709551616&&true) (∀a:Y,sz (decZ (binG (bz (gk t 1)) 0))=a→aq (lp a (-100000) 0 100000 1000) (az [ay (l7 g a 0),B true]) R) False else False)) (bif ic t then∀a:Option Cv.Num,DecIs g t a→co [ay (k8 (a.getD num0).fst (a.getD num0).snd),B a.isSome] R else False)
theorem bin_31{l:J}(hb:jca l=true)(h:l.length≤31):0≤binG l 0∧binG l 0<2147483648:=by
 obtain⟨h1,h2⟩:=jks l 0 hb (by omega);refine⟨h1,Int.lt_of_lt_of_le h2 ?_⟩;have:(2:Nat) ^l.length≤2^31:=Nat.pow_le_pow_right (by omega) h;have h':((2^l.length:Nat):Int)≤((2^31:Nat):Int):=Int.ofNat_le.2 this;simp at h';omega
theorem jhk:∀(k n:Nat),n<10^ (k+1)→(Lib.decDigits n).length≤k+1
 | 0,n,h=>by rw[Lib.decDigits,dif_pos (by omega)];simp
 | k+1,n,h=>by
  rw[Lib.decDigits];split
  ·simp
  ·rw[List.length_append];have:=jhk k (n/10) (by rw[Nat.pow_succ]at h;omega);simp;omega
theorem v25(s:Y)(R:Value→Prop):jaz Tryz.prog G6 noL Tryz.f89 [Enc.enc s] (fun _=>none) 0 (fun v _ _=>R v)=(bif decide ((s.size:Int)>255)then R (.tuple (.mk [.agg (.mk [B false,S (ByteArray.mk #[]),I 0]),B false]))else bif decide (s.size≤9223372036854775807)then∀(s':Y),szO (trZ (tlZ (bz s) 32) 32)=s'→bif s'.toList==(ByteArray.mk #[]).toList then R (.tuple (.mk [.agg (.mk [B false,S (ByteArray.mk #[]),I 0]),B true]))else bif decide ((0:Int)≤0∧0<(s'.size:Int))then bif jai s' (Int.toNat 0)==45 || decide ((0:Int)≤0∧0<(s'.size:Int)) &&true then bif jai s' (Int.toNat 0)==45 || jai s' (Int.toNat 0)==43 then bif decide ((0:Int)≤1∧1≤(s'.size:Int)∧(s'.size:Int)≤(s'.size:Int))then k25 (jai s' (Int.toNat 0)==45) (ByteArray.extract s' (Int.toNat 1) s'.size) R else False else k25 (jai s' (Int.toNat 0)==45) s' R else False else False else False):=by kernel_rfl
theorem ends_of{s:Y}(h:bz s≠ []):0<s.size∧(bz s).head?=some (jai s 0)∧(bz s).getLast?=some (jai s (s.size-1)):=by
 have h0:0<s.size:=by
  rcases Nat.eq_zero_or_pos s.size with q | q
  ·exact absurd (jma q) h
  ·exact q
 refine⟨h0,by rw[jll h0];rfl,?_⟩;have hb:=jip (s:=s) (n:=((s.size-1:Nat):Int)) (by omega) (by omega);rw[Int.toNat_natCast]at hb;rw[hb];simp
theorem num_bools(k:Nat)(b:Bool)(x y c:Int):(decide ((k:Int)≤400) && (b&& (x !=48&& (y !=48&& (decide (c≥ -400) &&decide (c≤400))))))=(decide (k≤400) && (b&& (!(some x==some (48:Int)) && (!(some y==some (48:Int)) &&decide (-400≤c∧c≤400))))):=by
 have e1:decide ((k:Int)≤400)=decide (k≤400):=by rw[decide_eq_decide];omega
 have e2:(decide (c≥ -400) &&decide (c≤400))=decide (-400≤c∧c≤400):=by rw[Bool.eq_iff_iff];simp
 rw[e1,e2];rfl
theorem trim_digs(l:J):decide (jap l (bz ⟨#[48,49,50,51,52,53,54,55,56,57]⟩)=[])=ja7 l:=by
 have e:bz ⟨#[48,49,50,51,52,53,54,55,56,57]⟩=[48,49,50,51,52,53,54,55,56,57]:=rfl
 have hh:∀c:Int,hasZ [48,49,50,51,52,53,54,55,56,57] c=dig c:=fun c=>by
  unfold dig;rw[Bool.eq_iff_iff,jbk,jae];simp only[List.mem_cons,List.mem_nil_iff,or_false];omega
 rw[e,Bool.eq_iff_iff,jae];constructor
 ·intro h;unfold ja7;refine List.all_eq_true.2 fun c hc=> ?_
  cases q:dig c with
  | true=>rfl
  | false=>
   exfalso;rw[←hh]at q;obtain⟨d,r,h1,h2⟩:=jfp (List.mem_reverse.2 hc) q;have hm:d∈(l.reverse.dropWhile (hasZ [48,49,50,51,52,53,54,55,56,57])).reverse:=by rw[h1];simp
   obtain⟨d',r',h3,_⟩:=jfp hm h2;unfold jap at h;rw[h3]at h;cases h
 ·intro h;have ha:∀c∈l,hasZ [48,49,50,51,52,53,54,55,56,57] c=true:=fun c hc=>by rw[hh];exact List.all_eq_true.1 h c hc
  unfold jap;rw[jig (l:=l.reverse) fun c hc=>ha c (List.mem_reverse.1 hc)];rfl
theorem jes{g:Bool}{l:J}{c:Int}(h:je8 g l c=true):l.length≤400∧ja7 l=true∧l.head?≠some 48∧(-400≤c∧c≤400)∧(l=[]→c=0):=by
 unfold je8 at h;split at h
 ·rename_i q;subst q;simp at h;simp[h.2,ja7]
 ·rename_i q;simp only[jaf,jae,Bool.not_eq_true',beq_eq_false_iff_ne]at h;exact⟨h.1,h.2.1,h.2.2.1,h.2.2.2.2,fun z=>absurd z q⟩
theorem jj1{l:J}(h:ja7 l=true):IsB l:=fun c hc=>by
 have:=List.all_eq_true.1 h c hc;unfold dig at this;have:=jab this;omega
theorem jfj{l:J}{c q:Int}(h:ja7 l=true):ja7 (plcR l c q)=true:=by
 refine List.all_eq_true.2 fun x hx=> ?_
 have hx:=List.mem_of_mem_take hx;unfold plcZ at hx;split at hx
 ·cases hx
 ·rcases List.mem_append.1 hx with hx | hx
  ·exact List.all_eq_true.1 h x hx
  ·rw[List.eq_of_mem_replicate hx];rfl
theorem plc_len{l:J}{c q:Int}(h:l.length≤400)(hc: -400≤c∧c≤400)(hq:0≤q∧q≤100):(plcR l c q).length≤1500:=by
 rw[plcR,List.length_take]
 have:(plcZ l c q).length≤1500:=by
  unfold plcZ;split
  ·simp
  ·rw[List.length_append,rep48,List.length_replicate];omega
 omega
theorem tm_rng{a b:Int}(h:0≤a)(hb:0<b):0≤a.tmod b∧a.tmod b<b:=by
 rw[Int.tmod_eq_emod_of_nonneg h];exact⟨Int.emod_nonneg _ (by omega),Int.emod_lt_of_pos _ hb⟩
theorem jg8{b:Int}(hb:0<b):∀(l:J)(x k:Int),ja7 l=true→(0≤x∧x<b)→0≤(tkGo b l x k).1∧(tkGo b l x k).1<b
 | [],x,k,_,h=>h
 | d::r,x,k,hd,h=>by
  simp only[ja7,List.all_cons,jaf]at hd;have h1:=hd.1;unfold dig at h1;have h1:=jab h1;rw[tkGo];split
  ·exact jg8 hb r _ _ hd.2 (tm_rng (by omega) hb)
  ·exact jg8 hb r _ _ hd.2 (by omega)
theorem valid_facts{t:Ty}(h:ja9 t):1≤t.p∧t.p≤31∧(1≤bnd t∧bnd t≤2147483648)∧(0≤t.q∧t.q≤100)∧(t.k=1∨t.k=2):=by
 have h1:=Fx.valid_r h;have h2:=Fx.bnd_range h;exact⟨h1.1,h1.2.1,by omega,by omega,h.1⟩
def H2':Env:=((Env.nil.add 110 (sp2 s154)).add 124 (sp2 s55)).add 114 (sp2 s30)
theorem ok_H2':ja0 Tryz.prog H2':=jak (jak (jak jav ok154) ok55) ok30
def s84(n:Nu):Bool×Value:=(decide (n.d.size≤9223372036854775807),B (je8 n.g (bz n.d) n.c))
def i7(a:Cx.Nu):Int:=((Nu.d a).size:Int)
def l8:Yb:=[49,50,51,52,53,54,55,56,57]
theorem v84(n:Nu)(R:Value→Prop):jaz Tryz.prog H2' noL Tryz.f304 [Enc.enc n] (fun _=>none) 0 (fun v _ _=>R v)=(bif du (Nu.d n) am then aq (Nu.c n==0 || true) (B (Nu.c n==0&& !Nu.g n)) R else aq (cm (decide (i7 n≤400)) (ax (Nu.d n) &&ir l8 48&& (bif ig (Nu.d n) ⟨((48:UInt8)::l8).toArray⟩then ct 0 (i7 n) && (bif jai (Nu.d n) (Int.toNat 0) !=48 then ct (bu (i7 n) 1) (i7 n) && (bif jai (Nu.d n) (bu (i7 n) 1).toNat !=48 then gz (Nu.c n) (-400)else true)else true)else true)) true) (B (decide (i7 n≤400) && (ig (Nu.d n) ⟨((48:UInt8)::l8).toArray⟩ && (jai (Nu.d n) (Int.toNat 0) !=48&& (jai (Nu.d n) (bu (i7 n) 1).toNat !=48&&gp (Nu.c n) (-400) 400))))) R):=by kernel_rfl
theorem ok84:jan Tryz.prog 304 (sp1 s84):=by
 refine jck ok_H2' hmix (.m Tryz.func304) jaj jag fun n hc=> ?_
 rw[ja5,v84];delta aq im f9 gp bu i7 du am ig l8 cm gz ct ic ir ax;have hc:(n.d.size≤9223372036854775807):=jab hc
 try dsimp only[s84]
 have hz0:Int.toNat 0=0:=rfl;rw[jce,hz0];apply cond_intro<;>intro h
 ·have h:=jab h;refine c_t (Bool.or_true _) ?_;rw[je8,if_pos h];exact congrArg Value.bool (Bool.and_comm _ _)
 ·have h:bz n.d≠ []:=jac h;obtain⟨h0,hA,hB⟩:=ends_of h
  have hT:((szO (jap (bz n.d) (bz ⟨#[48,49,50,51,52,53,54,55,56,57]⟩))).toList==(⟨#[]⟩:Y).toList)=ja7 (bz n.d):=by
   rw[jce,jco (trim_isB (jdb n.d))];exact trim_digs (bz n.d)
  rw[hT,w64 (n:=(n.d.size:Int)-1) (by omega),show((n.d.size:Int)-1).toNat=n.d.size-1 by omega]
  refine c_t (by
   rw[jaa (show n.d.size≤9223372036854775807 by omega),jaa (show(0:Int)≤0∧0<(n.d.size:Int)by omega),jaa (show 0≤(n.d.size:Int)-1∧(n.d.size:Int)-1<(n.d.size:Int)by omega),show(decide ((⟨#[48,49,50,51,52,53,54,55,56,57]⟩:Y).size≤1000) &&asc (bz ⟨#[48,49,50,51,52,53,54,55,56,57]⟩))=true by kernel_rfl];simp only[Bool.true_and,Bool.or_true,Bool.cond_self]) ?_
  rw[je8,if_neg h,hA,hB,jam];exact congrArg Value.bool (num_bools _ _ _ _ _)
def s86(n:Nu)(q:Int):Bool×Value:=(je8 n.g (bz n.d) n.c&&decide (0≤q∧q≤100),S (szO (plcR (bz n.d) n.c q)))
def lq(c d:Y)(a b:Int)(e:Value→Prop):Prop:=aq (ez 0 a b b (al c)) (.string d) e
def g9(a:Y)(b:Int):Y:=szO (repZ (bz a) b.toNat)
theorem v86(n:Nu)(q:Int)(R:Value→Prop):jaz Tryz.prog H2' noL Tryz.f306 [Enc.enc n,Enc.enc q] (fun _=>none) 0 (fun v _ _=>R v)=(bif decide (Nu.c n≤q)then g8 (gq cv (bu q (Nu.c n))) (fu (Nu.d n) (g9 cv (bu q (Nu.c n)))) (S (j7 (Nu.d n++g9 cv (bu q (Nu.c n))))) R else lq (Nu.d n) (j7 ((Nu.d n).extract 0 (imax (bu (i7 n) (io (Nu.c n) q)) 0).toNat)) 0 (imax (bu (i7 n) (io (Nu.c n) q)) 0) R):=by kernel_rfl
theorem ok86:jan Tryz.prog 306 (sp2 s86):=by
 refine jdg ok_H2' hmix (.m Tryz.func306) jaj jag fun n q hc=> ?_
 rw[ja5,v86];delta aq ez al lq bu io i7 jz cv j7 g8 g9 fu gq
 try dsimp only[s86]
 have hc:(je8 n.g (bz n.d) n.c&&decide (0≤q∧q≤100))=true:=hc;simp only[jaf,jae]at hc;obtain⟨hn,hq⟩:=hc;obtain⟨f1,f2,f3,f4,f5⟩:=jes hn;have f1':=f1;rw[jam]at f1
 have hr48:∀k,repZ [48] k=rep48 k:=fun k=>by
  induction k with
  | zero=>rfl
  | succ k ih=>rw[repZ,ih];rfl
 have e48:bz ⟨#[48]⟩=[48]:=rfl;have hpe:=place_eq (q:=q) f5 f3;rw[e48,←hpe];have hi48:∀k,IsB (rep48 k):=fun k c hc=>by rw[List.eq_of_mem_replicate hc];omega
 apply cond_intro<;>intro h
 ·have h:=jab h;rw[w64 (n:=q-n.c) (by omega),hr48,jbr,jco (hi48 _)];refine c_t (jaa ⟨by omega,by omega,by decide⟩) (c_t (by rw[jb2,rep48,List.length_replicate];simp only[jbn,Nat.ble_eq];omega) ?_);rw[intP,if_pos h];rfl
 ·have h:=jac h;have hm:imax ((n.d.size:Int)-(n.c-q)) 0=max ((n.d.size:Int)-(n.c-q)) 0:=by unfold imax;split<;>omega
  rw[w64 (n:=n.c-q) (by omega),w64 (n:=(n.d.size:Int)-(n.c-q)) (by omega),hm,jgu];refine c_t (jaa (by omega)) ?_;rw[intP,if_neg h,jam];rfl
def H5:Env:=((Env.nil.add 305 (sp1 s85)).add 304 (sp1 s84)).addG 306 (hideS (sp2 s86))
theorem ok_H5:ja0 Tryz.prog H5:=jau (jak (jak jav ok85) ok84) (jfb ok86)
def bpow(b:Int):Nat→Int→Int
 | 0,x=>x
 | n+1,x=>bpow b n (x*b)
theorem bpow_eq(b:Int):∀(n:Nat)(x:Int),bpow b n x=x*b^n
 | 0,x=>by rw[bpow,Int.pow_zero,Int.mul_one]
 | n+1,x=>by rw[bpow,bpow_eq b n,Int.pow_succ,Int.mul_assoc,Int.mul_comm b]
theorem bpow_ge{b:Int}(hb:1≤b):∀(n:Nat)(x:Int),1≤x→x≤bpow b n x
 | 0,x,h=>Int.le_refl _
 | n+1,x,h=>by
  rw[bpow];have h1:x*1≤x*b:=Int.mul_le_mul_of_nonneg_left hb (by omega);rw[Int.mul_one]at h1;exact Int.le_trans h1 (bpow_ge hb n (x*b) (by omega))
def V26_0:Bool×Y×Int×Int×Y×Int×Int×Y×Int×Int×Int×Int×Int×Int→F:=fun(g,d0,c,zn,zs,r5,r6,s,b,o,k,x,P,i)=> [.pointer (some ⟨0,0,some 0⟩),.pointer (some ⟨2,0,some 0⟩),I r5,I r6,S s,I b,I o,I k,I x,I P,I i]
def B26_0:Bool×Y×Int×Int×Y×Int×Int×Y×Int×Int×Int×Int×Int×Int→O:=fun(g,d0,c,zn,zs,r5,r6,s,b,o,k,x,P,i)=> [some ⟨[B g,S d0,I c],59,true⟩,some ⟨[I zn,S zs],32,true⟩]
def S26_0:LSpec (Bool×Y×Int×Int×Y×Int×Int×Y×Int×Int×Int×Int×Int×Int) where
 live:=[2,4,5,6,7,8,9,10,11,29,30]
 mid:=[0,2]
 n:=60
 dec vs bs:=match vs,bs with | [.pointer (some ⟨0,0,some 0⟩),.pointer (some ⟨2,0,some 0⟩),.int .i64 r5,.int .i64 r6,.string s,.int .i64 b,.int .i64 o,.int .i64 k,.int .i64 x,.int .i64 P,.int .i64 i],[some ⟨[.bool g,.string d0,.int .i64 c],59,true⟩,some ⟨[.int .i64 zn,.string zs],32,true⟩]=>some (g,d0,c,zn,zs,r5,r6,s,b,o,k,x,P,i) | _,_=>none
 pre:=fun(g,d0,c,zn,zs,r5,r6,s,b,o,k,x,P,i)=>decide (0≤i∧i≤P∧P≤100∧1≤b∧1≤x∧bpow b (P-i).toNat x≤2147483648)
 fin:=fun(g,d0,c,zn,zs,r5,r6,s,b,o,k,x,P,i) Z=>Z (.exit 0) [.pointer (some ⟨0,0,some 0⟩),.pointer (some ⟨2,0,some 0⟩),I r5,I r6,S s,I b,I o,I k,I (bpow b (P-i).toNat x),I P,I P] [some ⟨[B g,S d0,I c],59,true⟩,some ⟨[I zn,S zs],32,true⟩]
def k9(b:Y)(a:Int):Option Blk:=some (.mk [ak a,.string b] 32 true)
def l9(c:Y)(a b e f:Int)(g:F)(d:Value):F:=ar 2::ak a::ak b:: .string c::d::ak e::ak f::g
theorem r26_0(g:Bool)(d0:Y)(c:Int)(zn:Int)(zs:Y)(r5:Int)(r6:Int)(s:Y)(b:Int)(o:Int)(k:Int)(x:Int)(P:Int)(i:Int)(jk:Tmps)(R:Exit→F→O→Prop):(jb6 Tryz.prog H5 noL Tryz.f278.ntmps (jbb Tryz.f278 0) (tl S26_0.live (V26_0 (g,d0,c,zn,zs,r5,r6,s,b,o,k,x,P,i)) jk) (ml S26_0.mid (B26_0 (g,d0,c,zn,zs,r5,r6,s,b,o,k,x,P,i))) S26_0.n fun e t' m' _=>R e (List.map t' S26_0.live) (List.map m' S26_0.mid))=(bif au i P then R .normal (ar 0::l9 s r5 r6 o k (bp (x*b)::d8 P i) (ak b)) [iy g d0 c,k9 zs zn]else R (.exit 0) (ar 0::l9 s r5 r6 o k [ak x,ak P,ak i] (ak b)) [iy g d0 c,k9 zs zn]):=by kernel_rfl
theorem l26_0:∀t m n K,S26_0.h t m n K→Ab.Sem Tryz.prog Tryz.f278.ntmps (.loop (jbb Tryz.f278 0)) t m n K:=by
 refine jcq ok_H5 hmix (by kernel_rfl) (jbf _) S26_0 V26_0 B26_0 (fun(g,d0,c,zn,zs,r5,r6,s,b,o,k,x,P,i)=>(P-i).toNat) ?_ ?_ ?_
 ·intro vs bs s h;simp only[S26_0]at h;split at h
  all_goals first | (cases h;exact⟨rfl,rfl⟩) | cases h | (split at h<;>first | (rename_i hq;cases h;have hq:=jah hq;subst hq;exact⟨rfl,rfl⟩) | cases h)
 ·exact fun _ _ _ h=>h
 ·intro⟨g,d0,c,zn,zs,r5,r6,s,b,o,k,x,P,i⟩ jk Z hp hf;rw[r26_0];delta ak k9 iy dq ar l9 bp d8 au;simp only[S26_0]at hp hf;obtain⟨h0,hP,h100,hb,hx,hm⟩:=jab hp;apply cond_intro<;>intro h
  ·have h:=jab h;have e:(P-i).toNat=(P-(i+1)).toNat+1:=by omega
   rw[e,bpow]at hm hf;have h1:x*1≤x*b:=Int.mul_le_mul_of_nonneg_left hb (by omega);rw[Int.mul_one]at h1;have h2:=bpow_ge hb (P-(i+1)).toNat (x*b) (by omega);rw[w64 (n:=x*b) (by omega),w64 (n:=i+1) (by omega)];exact⟨(g,d0,c,zn,zs,r5,r6,s,b,o,k,x*b,P,i+1),rfl,rfl,by simp only[S26_0,jae];omega,by simp only;omega,hf⟩
  ·have h:=jac h;obtain rfl:i=P:=by omega
   rw[Int.sub_self]at hf;exact hf
def V26_2:Bool×Y×Int×Int×Y×Int×Int×Y×Int×Int×Int×Int×Int→F:=fun(g,d0,c,zn,zs,r5,r6,s,x,k,b,L,i)=> [.pointer (some ⟨0,0,some 0⟩),.pointer (some ⟨2,0,some 0⟩),I r5,I r6,S s,I x,I k,I b,I L,I i]
def B26_2:Bool×Y×Int×Int×Y×Int×Int×Y×Int×Int×Int×Int×Int→O:=fun(g,d0,c,zn,zs,r5,r6,s,x,k,b,L,i)=> [some ⟨[B g,S d0,I c],59,true⟩,some ⟨[I zn,S zs],32,true⟩]
def S26_2:LSpec (Bool×Y×Int×Int×Y×Int×Int×Y×Int×Int×Int×Int×Int) where
 live:=[2,4,5,6,7,9,10,11,37,38]
 mid:=[0,2]
 n:=120
 dec vs bs:=match vs,bs with | [.pointer (some ⟨0,0,some 0⟩),.pointer (some ⟨2,0,some 0⟩),.int .i64 r5,.int .i64 r6,.string s,.int .i64 x,.int .i64 k,.int .i64 b,.int .i64 L,.int .i64 i],[some ⟨[.bool g,.string d0,.int .i64 c],59,true⟩,some ⟨[.int .i64 zn,.string zs],32,true⟩]=>some (g,d0,c,zn,zs,r5,r6,s,x,k,b,L,i) | _,_=>none
 pre:=fun(g,d0,c,zn,zs,r5,r6,s,x,k,b,L,i)=>decide (0≤i∧i≤L∧L=s.size∧s.size≤100000∧0≤x∧x<b∧b≤2147483648) &&ja7 (bz s)
 fin:=fun(g,d0,c,zn,zs,r5,r6,s,x,k,b,L,i) Z=>Z (.exit 2) [.pointer (some ⟨0,0,some 0⟩),.pointer (some ⟨2,0,some 0⟩),I r5,I r6,S s,I (tkGo b ((bz s).drop i.toNat) x k).1,I (tkGo b ((bz s).drop i.toNat) x k).2,I b,I L,I L] [some ⟨[B g,S d0,I c],59,true⟩,some ⟨[I zn,S zs],32,true⟩]
theorem r26_2(g:Bool)(d0:Y)(c:Int)(zn:Int)(zs:Y)(r5:Int)(r6:Int)(s:Y)(x:Int)(k:Int)(b:Int)(L:Int)(i:Int)(jk:Tmps)(R:Exit→F→O→Prop):(jb6 Tryz.prog H5 noL Tryz.f278.ntmps (jbb Tryz.f278 2) (tl S26_2.live (V26_2 (g,d0,c,zn,zs,r5,r6,s,x,k,b,L,i)) jk) (ml S26_2.mid (B26_2 (g,d0,c,zn,zs,r5,r6,s,x,k,b,L,i))) S26_2.n fun e t' m' _=>R e (List.map t' S26_2.live) (List.map m' S26_2.mid))=(gn (au i L) (dp i s.size) (bif decide (IntKind.i64.wrap (jy 10 x (bv s i) .i64 .u8)≥b)then cu (decide (b≠0)) R [iy g d0 c,k9 zs zn] (ar 0::l9 s r5 r6 1 b (d8 L i) (I ((IntKind.i64.wrap (jy 10 x (bv s i) .i64 .u8)).tmod b)))else R .normal (ar 0::l9 s r5 r6 k b (d8 L i) (bp (jy 10 x (bv s i) .i64 .u8))) [iy g d0 c,k9 zs zn]) (R (.exit 2) (ar 0::l9 s r5 r6 k b [ak L,ak i] (ak x)) [iy g d0 c,k9 zs zn])):=by kernel_rfl
theorem l26_2:∀t m n K,S26_2.h t m n K→Ab.Sem Tryz.prog Tryz.f278.ntmps (.loop (jbb Tryz.f278 2)) t m n K:=by
 refine jcq ok_H5 hmix (by kernel_rfl) (jbf _) S26_2 V26_2 B26_2 (fun(g,d0,c,zn,zs,r5,r6,s,x,k,b,L,i)=>(s.size-i).toNat) ?_ ?_ ?_
 ·intro vs bs s h;simp only[S26_2]at h;split at h
  all_goals first | (cases h;exact⟨rfl,rfl⟩) | cases h | (split at h<;>first | (rename_i hq;cases h;have hq:=jah hq;subst hq;exact⟨rfl,rfl⟩) | cases h)
 ·exact fun _ _ _ h=>h
 ·intro⟨g,d0,c,zn,zs,r5,r6,s,x,k,b,L,i⟩ jk Z hp hf;rw[r26_2];delta c9 gn ak k9 iy dq ar l9 bp jy bv d8 cu ct dp au;simp only[S26_2]at hp hf;simp only[jaf,jae]at hp;obtain⟨⟨h0,hi,hL,hs,hx0,hxb,hb⟩,hd⟩:=hp;apply cond_intro<;>intro h
  ·have h:=jab h;rw[jd2 h0 (by omega),tkGo]at hf;have hc:=dig_cases (s:=s) (i:=i.toNat) (by omega) hd;refine c_t (jaa (by omega)) ?_;rw[w64 (n:=i+1) (by omega),w8s (by omega),w64 (n:=jai s i.toNat-48) (by omega),w64 (n:=10*x) (by omega),w64 (n:=10*x+(jai s i.toNat-48)) (by omega)];apply cond_intro<;>intro q
   ·have q:b≤10*x+(jai s i.toNat-48):=jab q;rw[if_pos q]at hf;have hm:=tm_rng (a:=10*x+(jai s i.toNat-48)) (b:=b) (by omega) (by omega);exact c_t (jaa (by omega)) ⟨(g,d0,c,zn,zs,r5,r6,s,(10*x+(jai s i.toNat-48)).tmod b,1,b,L,i+1),rfl,rfl,by simp only[S26_2,jaf,jae];exact⟨by omega,hd⟩,by simp only;omega,hf⟩
   ·have q:¬b≤10*x+(jai s i.toNat-48):=jac q;rw[if_neg q]at hf;exact⟨(g,d0,c,zn,zs,r5,r6,s,10*x+(jai s i.toNat-48),k,b,L,i+1),rfl,rfl,by simp only[S26_2,jaf,jae];exact⟨by omega,hd⟩,by simp only;omega,hf⟩
  ·have h:=jac h;rw[jg1 (by omega)]at hf;obtain rfl:i=L:=by omega
   exact hf
theorem lok26:LOKf Tryz.prog (twoL 0 S26_0.h 2 S26_2.h) Tryz.f278:=jgb (by kernel_rfl) (by kernel_rfl) l26_0 l26_2
def s26(n:Nu)(t:Ty):Bool×Value:=(decide (n.d.size≤9223372036854775807),.tuple ⟨[vlv (tkV n.g (bz n.d) n.c t).1,I (tkV n.g (bz n.d) n.c t).2.1,I (tkV n.g (bz n.d) n.c t).2.2]⟩)
def np(c:Y)(b:Fx.Ty)(a:Int):Prod Int Int:=tkGo (bpow a (j8 (Fx.Ty.p b)) 1) (fk c) 0 0
def pg(b:Y)(a:Cx.Nu)(f:Fx.Ty)(e:Int)(h:Value→Prop):Prop:=kw (S26_0.pre (Nu.g a,(Nu.d a,(Nu.c a,((0:Int),(am,((0:Int),((0:Int),(b,(e,((0:Int),((0:Int),((1:Int),(Fx.Ty.p f,(0:Int))))))))))))))) (bif S26_2.pre (Nu.g a,(Nu.d a,(Nu.c a,((0:Int),(am,((0:Int),((0:Int),(b,((0:Int),((0:Int),(bpow e (j8 (Fx.Ty.p f)) 1,(al b,(0:Int)))))))))))))then Tmps→(bif Nu.g a then h (az [ay [bp (0-(np b f e).fst),bq],.int .i64 (np b f e).snd,ak 0])else h (az [ay [.int .i64 (np b f e).fst,bq],.int .i64 (np b f e).snd,ak 0]))else False) Tmps
def la(a b:Value):F:=[ay [ak 0,a],ak 0,b]
theorem v26(n:Nu)(t:Ty)(R:Value→Prop):jaz Tryz.prog H5 (twoL 0 S26_0.h 2 S26_2.h) Tryz.f278 [Enc.enc n,Enc.enc t] (fun _=>none) 0 (fun v _ _=>R v)=(dt (!je8 (Nu.g n) (bz (Nu.d n)) (Nu.c n)) (Nu.d n) (co (la bq (ak 1)) R) (bif !decide (Fx.ja9 t)then co (la bq (ak 5)) R else bif je8 (Nu.g n) (bz (Nu.d n)) (Nu.c n) &&jm 0 (Fx.Ty.q t) 100 then∀a:Y,szO (plcR (bz (Nu.d n)) (Nu.c n) (Fx.Ty.q t))=a→(bif cl t 2 then pg a n t 2 R else pg a n t 10 R)else False)):=by kernel_rfl
theorem ok26:jan Tryz.prog 278 (sp2 s26):=by
 refine jdg ok_H5 hmix (.m Tryz.func278) lok26 jag fun n t hc=> ?_
 rw[ja5,v26];delta ax dt kw az ak fk j8 np ay am bq bp al pg cl jm co la;have hc:(n.d.size≤9223372036854775807):=jab hc
 try dsimp only[s26]
 have hz0:Int.toNat 0=0:=rfl;refine c_t (jaa hc) (cond_intro (fun h=> ?_) (fun h=> ?_))
 ·rw[tkV,if_pos (by simpa using h)]
 have hn:je8 n.g (bz n.d) n.c=true:=by simpa using h
 rw[hn];apply cond_intro<;>intro q
 ·have q:¬ja9 t:=by simpa using q
  rw[tkV,if_neg (by rw[hn];decide),if_pos q]
 have hv:ja9 t:=by simpa using q
 obtain⟨f1,f2,f3,f4,f5⟩:=jes hn;obtain⟨v1,v2,v3,v4,v5⟩:=valid_facts hv;refine c_t (by rw[jaa v4];rfl) fun s' hs'=> ?_
 have hbz:bz s'=plcR (bz n.d) n.c t.q:=by rw[←hs',jco (jj1 (jfj f2))]
 have hsz:s'.size≤1500:=by rw[←jam,hbz];exact plc_len f1 f4 v4
 have hr:=jg8 (b:=bnd t) (by omega) (plcR (bz n.d) n.c t.q) 0 0 (jfj f2) (by omega);rw[tkV,if_neg (by rw[hn];decide),if_neg (fun z=>z hv)];have hp2:2≤bnd t:=(Fx.bnd_range hv).1
 have key:∀b:Int,base t.k=b→bpow b (t.p-0).toNat 1=bnd t:=fun b hb=>by
  rw[bpow_eq,Int.one_mul,Int.sub_zero,bnd,pw,hb]
 apply cond_intro<;>intro hk
 ·have hk2:base t.k=2:=by
   have:t.k=2:=by simpa using hk
   rw[this];rfl
  have hb:=key _ hk2;refine c_t (by simp only[S26_0,jae];rw[hb];refine⟨?_,?_,?_,?_,?_,?_⟩ <;>first | omega | trivial) fun x=> ?_
  rw[hb];refine c_t (by simp only[S26_2,jaf,jae];exact⟨by refine⟨?_,?_,?_,?_,?_,?_,?_⟩ <;>first | omega | trivial,by rw[hbz];exact jfj f2⟩) fun y=> ?_
  rw[hz0,List.drop_zero,hbz,w64 (n:=0-(tkGo (bnd t) (plcR (bz n.d) n.c t.q) 0 0).1) (by omega),tkR];apply cond_intro<;>intro h
  ·rw[if_pos h,Int.zero_sub]
  ·rw[if_neg (by rw[h];decide)]
 ·have hk2:base t.k=10:=by
   have:¬t.k=2:=by simpa using hk
   rw[v5.resolve_right this];rfl
  have hb:=key _ hk2;refine c_t (by simp only[S26_0,jae];rw[hb];refine⟨?_,?_,?_,?_,?_,?_⟩ <;>first | omega | trivial) fun x=> ?_
  rw[hb];refine c_t (by simp only[S26_2,jaf,jae];exact⟨by refine⟨?_,?_,?_,?_,?_,?_,?_⟩ <;>first | omega | trivial,by rw[hbz];exact jfj f2⟩) fun y=> ?_
  rw[hz0,List.drop_zero,hbz,w64 (n:=0-(tkGo (bnd t) (plcR (bz n.d) n.c t.q) 0 0).1) (by omega),tkR];apply cond_intro<;>intro h
  ·rw[if_pos h,Int.zero_sub]
  ·rw[if_neg (by rw[h];decide)]
structure Wh where
 n:Int
 t:Ty
instance:Enc Wh where
 enc x:= .agg ⟨[.int .i64 x.n,.int .i64 x.t.k,.int .i64 x.t.p,.int .i64 x.t.q,.bool x.t.v,.string x.t.s]⟩
 dec | .agg ⟨[.int .i64 n,.int .i64 k,.int .i64 p,.int .i64 q,.bool v,.string s]⟩=>some ⟨n,⟨k,p,q,v,s⟩⟩ | _=>none
 dec_some:=by
  intro v a h;split at h
  ·cases h;rfl
  ·cases h
 plain_enc _:=rfl
def wid(t:Ty):Int:=if t.k=2 then 1+(100*t.p+331)/332+3 else t.p+3
def fixU(n q:Int):J:=rep48 (q+1-(itoZ n).length).toNat++itoZ n
def fixD(n q:Int):J:=if q>0 then(fixU n q).take ((fixU n q).length-q.toNat)++46::(fixU n q).drop ((fixU n q).length-q.toNat)else itoZ n
def fixS(n q:Int):J:=if n<0 then 45::fixD (-n) q else fixD n q
def txtZ(n:Int)(t:Ty):J:=List.replicate (wid t-(fixS n t.q).length).toNat 32++fixS n t.q
def K5:Env:=Env.nil
theorem ok_K5:ja0 Tryz.prog K5:=jav
def s112(t:Ty):Bool×Value:=(decide (0≤t.p∧t.p≤1000),I (wid t))
theorem v112(t:Ty)(R:Value→Prop):jaz Tryz.prog K5 noL Tryz.f339 [Enc.enc t] (fun _=>none) 0 (fun v _ _=>R v)=(bif cl t 2 then R (bp (il 1 (IntKind.i64.wrap ((IntKind.i64.wrap (IntKind.i64.wrap (100*Fx.Ty.p t)+331)).tdiv 332))+3))else R (bp (Fx.Ty.p t+3))):=by kernel_rfl
theorem ok112:jan Tryz.prog 339 (sp1 s112):=by
 refine jck ok_K5 hmix (.m Tryz.func339) jaj jag fun t hc=> ?_
 rw[ja5,v112];delta bp il cl;have hc:(0≤t.p∧t.p≤1000):=jab hc
 try dsimp only[s112]
 unfold wid;apply cond_intro<;>intro h
 ·have h:t.k=2:=eq_of_beq h;have hd:(100*t.p+331).tdiv 332=(100*t.p+331)/332:=Int.tdiv_eq_ediv_of_nonneg (by omega);rw[if_pos h,w64 (n:=100*t.p) (by omega),w64 (n:=100*t.p+331) (by omega),hd,w64 (n:=(100*t.p+331)/332) (by omega),w64 (n:=1+(100*t.p+331)/332) (by omega),w64 (by omega)]
 ·have h:¬t.k=2:=by simpa using h
  rw[if_neg h,w64 (by omega)]
def K6:Env:=((Env.nil.addG 130 (hideS (sp1 s29))).addG 114 (hideS (sp2 s30))).add 339 (sp1 s112)
theorem ok_K6:ja0 Tryz.prog K6:=jak (jau (jau jav (jfb ok29)) (jfb ok30)) ok112
def s321(x:Wh):Bool×Value:=(decide (ja9 x.t∧ -2147483648≤x.n∧x.n≤2147483648),S (szO (txtZ x.n x.t)))
def py(b c:Y)(d:Cx.Wh)(e:Value→Prop):Prop:=bif fu b c then bif jm 0 (Fx.Ty.p (Wh.t d)) 1000 then bif gq iw (imax (io (wid (Wh.t d)) (jd b c)) 0)then∀a:Y,g9 iw (imax (io (wid (Wh.t d)) (jd b c)) 0)=a→aq (fu a (b++c)) (.string (a++(b++c))) e else False else False else False
def ma(a b:Y)(c:Cx.Wh):Int:=IntKind.i64.wrap (jd a b-Fx.Ty.q (Wh.t c))
def k321(sg s':Y)(x:Wh)(R:Value→Prop):Prop:=bif decide (Fx.Ty.q (Wh.t x)>0)then bif gq cv (imax (bu (il (Fx.Ty.q (Wh.t x)) 1) (al s')) 0)then∀a:Y,g9 cv (imax (bu (il (Fx.Ty.q (Wh.t x)) 1) (al s')) 0)=a→(bif fu a s' then md (fu ((a++s').extract 0 (ma a s' x).toNat) ⟨#[46]⟩) 0 (ma a s' x) (jd a s') (bif ez 0 (ma a s' x) (jd a s') (jd a s') (jd a s')then bif fu ((a++s').extract 0 (ma a s' x).toNat++⟨#[46]⟩) (lr a s' (ma a s' x))then py sg ((a++s').extract 0 (ma a s' x).toNat++⟨#[46]⟩++lr a s' (ma a s' x)) x R else False else False) False else False)else False else py sg s' x R
theorem jdl{m:Int}(h:0≤m∧m≤2147483648):(itoZ m).length≤10:=by
 obtain⟨k,rfl⟩:∃k:Nat,m=(k:Int):=⟨m.toNat,by omega⟩
 rw[itoZ,Lib.itoa_nonneg,zl,List.length_map];exact jhk 9 k (by omega)
theorem jgn(n:Int):IsB (itoZ n):=zl_isB _
theorem rep32_isB(k:Nat):IsB (List.replicate k 32):=fun c hc=>by rw[List.eq_of_mem_replicate hc];omega
theorem jf7(k:Nat):IsB (rep48 k):=fun c hc=>by rw[List.eq_of_mem_replicate hc];omega
theorem jdk(c:Int):∀n,repZ [c] n=List.replicate n c
 | 0=>rfl
 | n+1=>by rw[repZ,jdk c n];rfl
theorem fitN{n:Nat}(h:n≤100000):jbn n=true:=by simp only[jbn,Nat.ble_eq];omega
theorem imax_eq(a b:Int):imax a b=max a b:=by unfold imax;split<;>omega
theorem k321f(sg D X:Y)(t:Ty)(hp:0≤t.p∧t.p≤31)(hw:0≤wid t∧wid t≤100)(hs:sg.size≤1)(hD:D.size≤100)(hX:bz X=List.replicate (wid t-(bz sg++bz D).length).toNat 32++(bz sg++bz D)):
  bif jbn (ByteArray.size sg+ByteArray.size D)then bif decide (0≤Ty.p t∧Ty.p t≤1000)then
   bif decide (0≤imax (IntKind.wrap IntKind.i64 (wid t-(↑(ByteArray.size (sg++D)):Int))) 0∧imax (IntKind.wrap IntKind.i64 (wid t-(↑(ByteArray.size (sg++D)):Int))) (0:Int)≤1000∧ByteArray.size (ByteArray.mk #[32])≤1000)then
    ∀s2:Y,szO (repZ (bz (ByteArray.mk #[32])) (Int.toNat (imax (IntKind.wrap IntKind.i64 (wid t-(↑(ByteArray.size (sg++D)):Int))) 0)))=s2→
     bif jbn (ByteArray.size s2+ByteArray.size (sg++D))then Value.string (s2++(sg++D))=Value.string X else False
   else False else False else False:=by
 have hz:(sg++D).size=sg.size+D.size:=ByteArray.size_append;rw[w64 (n:=wid t-((sg++D).size:Int)) (by omega),imax_eq];refine c_t (fitN (by omega)) (c_t (jaa (by omega)) (c_t (jaa ⟨by omega,by omega,by decide⟩) fun s2 e2=> ?_))
 have b2:bz s2=List.replicate (wid t-(bz sg++bz D).length).toNat 32:=by
  rw[←e2,show bz (ByteArray.mk #[32])=[32]from rfl,jdk,jco (rep32_isB _),List.length_append,jam,jam];congr 1;omega
 have z2:s2.size≤100:=by rw[←jam,b2,List.length_replicate];omega
 refine c_t (fitN (by omega)) ?_;congr 1;rw[←jf3 (s2++(sg++D)),←jf3 X,jbr,jbr,b2,hX]
theorem k321_ok(sg s':Y)(x:Wh)(m:Int)(h:szO (itoZ m)=s')(hm:0≤m∧m≤2147483648)(hv:ja9 x.t)(hs:sg.size≤1)(hg:IsB (bz sg)):
  k321 sg s' x (fun v=>v= .string (szO (List.replicate (wid x.t-(bz sg++fixD m x.t.q).length).toNat 32++(bz sg++fixD m x.t.q)))):=by
 unfold k321;delta aq fu g9 io jd iw gq jm py ez md lr ma bu al il cv;obtain⟨n,t⟩:=x;simp only at hv ⊢;obtain⟨v1,v2,v3,v4,v5⟩:=Fx.valid_r hv;have hw:0≤wid t∧wid t≤100:=by unfold wid;split<;>omega
 have b1:bz s'=itoZ m:=by rw[←h,jco (jgn _)]
 have z1:s'.size≤10:=by rw[←jam,b1];exact jdl hm
 have hX:∀l,IsB l→bz (szO (List.replicate (wid t-(bz sg++l).length).toNat 32++(bz sg++l)))=List.replicate (wid t-(bz sg++l).length).toNat 32++(bz sg++l):=fun l hl=>jco ((rep32_isB _).append (hg.append hl))
 apply cond_intro<;>intro hq
 ·have hq:t.q>0:=jab hq;rw[w64 (n:=t.q+1) (by omega),w64 (n:=t.q+1-(s'.size:Int)) (by omega),imax_eq];refine c_t (jaa ⟨by omega,by omega,by decide⟩) fun s1 e1=> ?_
  have c1:bz s1=rep48 (t.q+1-(itoZ m).length).toNat:=by
   rw[←e1,show bz (ByteArray.mk #[48])=[48]from rfl,jdk,jco (l:=List.replicate _ 48) (jf7 _),←b1,jam];rw[rep48];congr 1;omega
  have y1:(s1.size:Int)=max (t.q+1-(s'.size:Int)) 0:=by rw[←jam,c1,rep48,List.length_replicate,←b1,jam];omega
  have hu:bz (s1++s')=fixU m t.q:=by rw[jbr,c1,b1];rfl
  have zu:(s1++s').size=s1.size+s'.size:=ByteArray.size_append;generalize s1++s'=u at*;rw[w64 (n:=(u.size:Int)-t.q) (by omega)]
  have e3:bz (u.extract 0 ((u.size:Int)-t.q).toNat)=(fixU m t.q).take ((fixU m t.q).length-t.q.toNat):=by
   rw[jgu,hu,←hu,jam];congr 1;omega
  have e4:bz (u.extract ((u.size:Int)-t.q).toNat u.size)=(fixU m t.q).drop ((fixU m t.q).length-t.q.toNat):=by
   rw[bz_dropE,hu,←hu,jam];congr 1;omega
  have z3:(u.extract 0 ((u.size:Int)-t.q).toNat).size=u.size-t.q.toNat:=by rw[jdn];omega
  have z4:(u.extract ((u.size:Int)-t.q).toNat u.size).size=t.q.toNat:=by rw[jdn];omega
  generalize u.extract 0 ((u.size:Int)-t.q).toNat=a at*;generalize u.extract ((u.size:Int)-t.q).toNat u.size=b at*;have n46:(ByteArray.mk #[46]).size=1:=rfl
  have hD:bz (a++ByteArray.mk #[46]++b)=fixD m t.q:=by
   rw[jbr,jbr,e3,e4,fixD,if_pos hq,show bz (ByteArray.mk #[46])=[46]from rfl,List.append_assoc];rfl
  have zD:(a++ByteArray.mk #[46]++b).size=a.size+1+b.size:=by rw[ByteArray.size_append,ByteArray.size_append,n46]
  refine c_t (fitN (by omega)) (c_t (jaa (by omega)) (c_t (fitN (by rw[n46];omega)) (c_t (jaa (by omega)) (c_t (fitN (by rw[ByteArray.size_append,n46];omega)) ?_))));rw[←hD];exact k321f sg _ _ t (by omega) hw hs (by omega) (hX _ (jdb _))
 ·have hq:¬t.q>0:=jac hq;have hD:bz s'=fixD m t.q:=by rw[b1,fixD,if_neg hq]
  rw[←hD];exact k321f sg _ _ t (by omega) hw hs (by omega) (hX _ (jdb _))
theorem v321(x:Wh)(R:Value→Prop):jaz Tryz.prog K6 noL Tryz.f338 [Enc.enc x] (fun _=>none) 0 (fun v _ _=>R v)=(ft (decide (Wh.n x<0)) (jm (-9223372036854775808) (bu 0 (Wh.n x)) 9223372036854775807) (jm (-9223372036854775808) (Wh.n x) 9223372036854775807) (∀a:Y,szO (itoZ (bu 0 (Wh.n x)))=a→k321 ⟨#[45]⟩ a x R) (∀a:Y,szO (itoZ (Wh.n x))=a→k321 am a x R)):=by kernel_rfl
theorem ok321:jan Tryz.prog 338 (sp1 s321):=by
 refine jck ok_K6 hmix (.m Tryz.func338) jaj jag fun x hc=> ?_
 rw[ja5,v321];delta c9 ft am bu jm;have hc:(ja9 x.t∧ -2147483648≤x.n∧x.n≤2147483648):=jab hc
 try dsimp only[s321]
 obtain⟨hv,h1,h2⟩:=hc;apply cond_intro<;>intro h
 ·have h:x.n<0:=jab h;rw[w64 (n:=0-x.n) (by omega)];refine c_t (jaa (by omega)) fun s' e=> ?_
  have:=k321_ok ⟨#[45]⟩ s' x (0-x.n) e (by omega) hv (by decide) (jdb _);rw[txtZ,fixS,if_pos h,show -x.n=0-x.n by omega];exact this
 ·have h:¬x.n<0:=jac h;refine c_t (jaa (by omega)) fun s' e=> ?_
  have:=k321_ok ⟨#[]⟩ s' x x.n e (by omega) hv (by decide) (jdb _);rw[txtZ,fixS,if_neg h];exact this
end Go.Cx
end
section
namespace Go.Cx
open Go Go.Proofs Go.RowKit Go.Extern.Stop Go.Stop Go.Extern
theorem as_nil(t:Value)(w:World):
  Calls Tryz.prog 168 #[.nilIface,t] w fun e w'=>e= .returned (.bool false)∧w'=w:=by
 go_enter Tryz.func168,Tryz.ntmps168
 go_wp2
 go_ret
 exact⟨rfl,rfl⟩
theorem a_valueOf121(t:Addr)(w:World):(ReflectliteValue.unpack (.iface 212 (.pointer (some t)))).run Tryz.prog w
  = .ok (.agg #[.pointer (some ⟨10,212,none⟩),.pointer (some ⟨w.heap.size,0,none⟩),.int .u64 150]) (w.alloc (.cells #[.pointer (some t)] 212)):=by kernel_rfl
theorem a_type121 (a : Addr) (w : World) : (ReflectliteValue.methodAny (ReflectliteValue.valueError "reflectlite.Value.Type" 0) (fun t _ _ _ => ReflectliteType.toType t) #[.agg #[.pointer (some ⟨10, 212, none⟩), .pointer (some a), .int .u64 150]]).run Tryz.prog w
  = .ok (.iface 304 (.agg #[.pointer (some ⟨10,212,none⟩)])) w:=by kernel_rfl
theorem a_kind121(w:World):((ReflectliteType.abiMethod fun t=>(fun a:Nat=>Value.int IntKind.u8 (a:Int)) <$> Rtype.kind t) #[.pointer (some ⟨10,212,none⟩)]).run Tryz.prog w= .ok (.int .u8 22) w:=by kernel_rfl
theorem a_kind119(w:World):((ReflectliteType.abiMethod fun t=>(fun a:Nat=>Value.int IntKind.u8 (a:Int)) <$> Rtype.kind t) #[.pointer (some ⟨10,210,none⟩)]).run Tryz.prog w= .ok (.int .u8 25) w:=by kernel_rfl
theorem a_rlm(z:Sem Value)(f:TypeId→Addr→Nat→Nat→Sem Value)(v:Value):
  ReflectliteValue.method z f #[v]=(do match←ReflectliteValue.parts v with | none=>z | some (t,a,fl)=>f t a fl (fl%32)):=rfl
theorem a_parts121(a:Addr)(w:World):(ReflectliteValue.parts (.agg #[.pointer (some ⟨10,212,none⟩),.pointer (some a),.int .u64 150])).run Tryz.prog w= .ok (some (212,a,150)) w:=by kernel_rfl
theorem a_isNil121(a p:Addr)(W:World)(ha:W.cell? a=some (.pointer (some p))):
  (ReflectliteValue.method (ReflectliteValue.valueError "reflectlite.Value.IsNil" 0) ReflectliteValue.isNil #[.agg #[.pointer (some ⟨10, 212, none⟩), .pointer (some a), .int .u64 150]]).run Tryz.prog W = .ok (.bool false) W := by
 rw[a_rlm];simp only[Sem.run_bind,a_parts121,Result.andThen];simp[ReflectliteValue.isNil,loadVar,isAgg,underlying,Tryz.underlying212,ha,Result.andThen]
theorem a_methodKind (h : Value) (w : World) : (Go.method 471 304 (.agg #[h]) "Kind").run Tryz.prog w = .ok (333, h) w := by kernel_rfl
theorem a_methodElem (h : Value) (w : World) : (Go.method 471 304 (.agg #[h]) "Elem").run Tryz.prog w = .ok (349, .agg #[h]) w := by kernel_rfl
theorem a_methodImplements (h : Value) (w : World) : (Go.method 471 304 (.agg #[h]) "Implements").run Tryz.prog w = .ok (350, .agg #[h]) w := by kernel_rfl
theorem a_methodAssignableTo (h : Value) (w : World) : (Go.method 471 304 (.agg #[h]) "AssignableTo").run Tryz.prog w = .ok (347, .agg #[h]) w := by kernel_rfl
theorem a_elem121(w:World):(ReflectliteType.method ReflectliteType.elem #[.agg #[.pointer (some ⟨10,212,none⟩)]]).run Tryz.prog w= .ok (.iface 304 (.agg #[.pointer (some ⟨10,210,none⟩)])) w:=by kernel_rfl
theorem a_implements119 (w : World) : (ReflectliteType.relation "Implements" ReflectliteType.implements_ #[.agg #[.pointer (some ⟨10, 210, none⟩)], .iface 304 (.agg #[.pointer (some ⟨10, 157, none⟩)])]).run Tryz.prog w = .ok (.bool true) w := by kernel_rfl
theorem a_typeOf119(v:Value)(w:World):(ReflectliteType.typeOf #[.iface 210 v]).run Tryz.prog w= .ok (.iface 304 (.agg #[.pointer (some ⟨10,210,none⟩)])) w:=by kernel_rfl
theorem a_assignable119 (w : World) : (ReflectliteType.relation "AssignableTo" ReflectliteType.assignableTo #[.agg #[.pointer (some ⟨10, 210, none⟩)], .iface 304 (.agg #[.pointer (some ⟨10, 210, none⟩)])]).run Tryz.prog w = .ok (.bool true) w := by kernel_rfl
theorem a_valueOf119(s:ByteArray)(w:World):(ReflectliteValue.unpack (.iface 210 (.agg #[.string s]))).run Tryz.prog w
  = .ok (.agg #[.pointer (some ⟨10,210,none⟩),.pointer (some ⟨w.heap.size,0,none⟩),.int .u64 153]) (w.alloc (.cells #[.string s] 210)):=by kernel_rfl
theorem a_elemOf121(w:World):(Rtype.elem? 212).run Tryz.prog w= .ok (some 210) w:=by kernel_rfl
theorem a_mk119(p:Addr)(w:World):(ReflectliteValue.mk 210 p ReflectliteValue.flagAddr).run Tryz.prog w= .ok (.agg #[.pointer (some ⟨10,210,none⟩),.pointer (some p),.int .u64 409]) w:=by kernel_rfl
theorem a_elemV121(a p:Addr)(W:World)(ha:W.cell? a=some (.pointer (some p))):
  (ReflectliteValue.method (ReflectliteValue.valueError "reflectlite.Value.Elem" 0) ReflectliteValue.elem #[.agg #[.pointer (some ⟨10, 212, none⟩), .pointer (some a), .int .u64 150]]).run Tryz.prog W
   = .ok (.agg #[.pointer (some ⟨10,210,none⟩),.pointer (some p),.int .u64 409]) W:=by
 rw[a_rlm];simp only[Sem.run_bind,a_parts121,Result.andThen];simp[ReflectliteValue.elem,loadVar,isAgg,underlying,Tryz.underlying212,ha,Result.andThen,a_elemOf121,a_mk119]
theorem a_rls(v x:Value):ReflectliteValue.set #[v,x]=(do
  let (some (dst,a,fl),some (src,b,_)):=(←ReflectliteValue.parts v,←ReflectliteValue.parts x)
   | unsupported (.noEntry "extern/(internal/reflectlite.Value).Set.zeroValue")
  if fl / ReflectliteValue.flagAddr % 2 == 0 then unsupported (.noEntry "extern/(internal/reflectlite.Value).Set.unaddressable")
  let val←loadVar src b
  if←Rtype.directlyAssignable dst src then storeVar dst a val
  else if←Rtype.implements dst src then
   if(←Rtype.kind src)==20 then
    match val with
    | .nilIface => unsupported (.noEntry "extern/reflectlite: a nil value of one interface type handed on as a value of another")
    | _=>storeVar dst a val
   else storeVar dst a (.iface src val)
  else panicString ("reflectlite.Set: value of type " ++ (← Rtype.spelt src) ++ " is not assignable to type " ++ (← Rtype.spelt dst))
  pure (.tuple #[])):=rfl
theorem a_parts119a(a:Addr)(w:World):(ReflectliteValue.parts (.agg #[.pointer (some ⟨10,210,none⟩),.pointer (some a),.int .u64 409])).run Tryz.prog w= .ok (some (210,a,409)) w:=by kernel_rfl
theorem a_parts119(a:Addr)(w:World):(ReflectliteValue.parts (.agg #[.pointer (some ⟨10,210,none⟩),.pointer (some a),.int .u64 153])).run Tryz.prog w= .ok (some (210,a,153)) w:=by kernel_rfl
theorem a_direct119(w:World):(Rtype.directlyAssignable 210 210).run Tryz.prog w= .ok true w:=by kernel_rfl
theorem a_size119(w:World):(sizeOf 210).run Tryz.prog w= .ok 1 w:=by kernel_rfl
theorem a_load119(b:Addr)(s:ByteArray)(W:World)(hb:W.cell? b=some (.string s))(hs:b.spot=none):(loadVar 210 b).run Tryz.prog W= .ok (.agg #[.string s]) W:=by
 obtain⟨bb,bo,bs⟩:=b;subst hs;simp[loadVar,isAgg,underlying,Tryz.underlying210,a_size119,loadCells,loadCellsFrom,Addr.add,hb,Result.andThen]
theorem a_set119(ta b:Addr)(s:ByteArray)(old:Value)(W:World)(hb:W.cell? b=some (.string s))(hs:b.spot=none)(ht:W.cell? ta=some old)(hts:ta.spot=none)(hf:W.frozen? ta=false):
  (ReflectliteValue.set #[.agg #[.pointer (some ⟨10, 210, none⟩), .pointer (some ta), .int .u64 409], .agg #[.pointer (some ⟨10, 210, none⟩), .pointer (some b), .int .u64 153]]).run Tryz.prog W
   = .ok (.tuple #[]) (W.setCell ta (.string s)):=by
 obtain⟨tb,tq,ts⟩:=ta;subst hts;rw[a_rls];simp only[Sem.run_bind,a_parts119a,a_parts119,Result.andThen];have hl:=a_load119 b s W hb hs;have hd:=a_direct119 W;simp[ReflectliteValue.flagAddr,hl,hd,storeVar,Value.cells,storeCells,Addr.add,a_size119,Result.andThen];rw[run_store Tryz.prog W ⟨tb,tq,none⟩ _ _ (by rfl)];simp[ht,hf]
end Go.Cx
end
section
namespace Go.Cx
open Go Go.Proofs Go.RowKit Go.Extern.Stop Go.Stop Go.Extern Go.Shelf
set_option maxRecDepth 100000 in
set_option maxHeartbeats 4000000 in
theorem as_hit(s:ByteArray)(t:Addr)(old:Value)(w:World)(hg:w.cell? ⟨0,0,none⟩=some (.iface 304 (.agg #[.pointer (some ⟨10,157,none⟩)])))(hts:t.spot=none)(ht0:w.cell? t=some old)(hf0:w.frozen? t=false):
  Calls Tryz.prog 168 #[.iface 210 (.agg #[.string s]),.iface 212 (.pointer (some t))] w fun ev w'=>ev= .returned (.bool true)∧w'=((((w.alloc (.cells #[.pointer (some t)] 212)).alloc (.cells #[.pointer (some ⟨10,212,none⟩),.pointer (some ⟨w.heap.size,0,none⟩),.int .u64 150] 261)).alloc (.cells #[.pointer (some ⟨10,212,none⟩),.pointer (some ⟨w.heap.size,0,none⟩),.int .u64 150] 261)).alloc (.cells #[.string s] 210)).setCell t (.string s):=by
 have h6:= @run_callFunc_extern Tryz.prog 234 _ (fun args=>ReflectliteValue.unpack (args.getD 0 (.tuple #[]))) Tryz.func234 (by kernel_rfl) (by kernel_rfl) (by kernel_rfl) (by kernel_rfl)
 have h7 := @run_callFunc_extern Tryz.prog 235 _ (ReflectliteValue.methodAny (ReflectliteValue.valueError "reflectlite.Value.Type" 0) (fun t _ _ _ => ReflectliteType.toType t)) Tryz.func235 (by kernel_rfl) (by kernel_rfl) (by kernel_rfl) (by kernel_rfl)
 have h8 := @run_callFunc_extern Tryz.prog 236 _ (ReflectliteValue.method (ReflectliteValue.valueError "reflectlite.Value.IsNil" 0) ReflectliteValue.isNil) Tryz.func236 (by kernel_rfl) (by kernel_rfl) (by kernel_rfl) (by kernel_rfl)
 have h27:= @run_callFunc_extern Tryz.prog 333 _ (ReflectliteType.abiMethod fun t=>do pure (.int .u8 (←Rtype.kind t))) Tryz.func333 (by kernel_rfl) (by kernel_rfl) (by kernel_rfl) (by kernel_rfl);have h37:= @run_callFunc_extern Tryz.prog 349 _ (ReflectliteType.method ReflectliteType.elem) Tryz.func349 (by kernel_rfl) (by kernel_rfl) (by kernel_rfl) (by kernel_rfl)
 have h38 := @run_callFunc_extern Tryz.prog 350 _ (ReflectliteType.relation "Implements" ReflectliteType.implements_) Tryz.func350 (by kernel_rfl) (by kernel_rfl) (by kernel_rfl) (by kernel_rfl)
 have h10:= @run_callFunc_extern Tryz.prog 283 _ ReflectliteType.typeOf Tryz.func283 (by kernel_rfl) (by kernel_rfl) (by kernel_rfl) (by kernel_rfl)
 have h35 := @run_callFunc_extern Tryz.prog 347 _ (ReflectliteType.relation "AssignableTo" ReflectliteType.assignableTo) Tryz.func347 (by kernel_rfl) (by kernel_rfl) (by kernel_rfl) (by kernel_rfl)
 have h11 := @run_callFunc_extern Tryz.prog 284 _ (ReflectliteValue.method (ReflectliteValue.valueError "reflectlite.Value.Elem" 0) ReflectliteValue.elem) Tryz.func284 (by kernel_rfl) (by kernel_rfl) (by kernel_rfl) (by kernel_rfl)
 have h12:= @run_callFunc_extern Tryz.prog 285 _ ReflectliteValue.set Tryz.func285 (by kernel_rfl) (by kernel_rfl) (by kernel_rfl) (by kernel_rfl);have tO:=a_typeOf119;have mA:=a_methodAssignableTo;have a25:=a_assignable119;have v25:=a_valueOf119;have f6:=a_valueOf121;have f7:=a_type121;have mK:=a_methodKind;have mE:=a_methodElem;have mI:=a_methodImplements;have k27:=a_kind121;have k25:=a_kind119;have e27:=a_elem121;have i25:=a_implements119;have n8:=a_isNil121 ⟨w.heap.size,0,none⟩ t ((w.alloc (.cells #[.pointer (some t)] 212)).alloc (.cells #[.pointer (some ⟨10,212,none⟩),.pointer (some ⟨w.heap.size,0,none⟩),.int .u64 150] 261)) (by simp)
 have hlt:0<w.heap.size:=by
  rcases Nat.eq_zero_or_pos w.heap.size with h0 | h
  ·simp[World.cell?,h0]at hg
  ·exact h
 have hg2:((w.alloc (.cells #[.pointer (some t)] 212)).alloc (.cells #[.pointer (some ⟨10,212,none⟩),.pointer (some ⟨w.heap.size,0,none⟩),.int .u64 150] 261)).cell? ⟨0,0,none⟩=some (.iface 304 (.agg #[.pointer (some ⟨10,157,none⟩)])):=by
  rw[World.cell?_alloc_lt _ _ ⟨0,0,none⟩ (by simp),World.cell?_alloc_lt _ _ ⟨0,0,none⟩ hlt];exact hg
 have htl:t.block<w.heap.size:=by
  rcases Nat.lt_or_ge t.block w.heap.size with h | h
  ·exact h
  ·simp[World.cell?,Array.getElem?_eq_none h]at ht0
 have el:=a_elemV121 ⟨w.heap.size,0,none⟩ t (((w.alloc (.cells #[.pointer (some t)] 212)).alloc (.cells #[.pointer (some ⟨10,212,none⟩),.pointer (some ⟨w.heap.size,0,none⟩),.int .u64 150] 261)).alloc (.cells #[.pointer (some ⟨10,212,none⟩),.pointer (some ⟨w.heap.size,0,none⟩),.int .u64 150] 261)) (by rw[World.cell?_alloc_lt _ _ ⟨w.heap.size,0,none⟩ (by simp;omega)];simp)
 have st:=a_set119 t ⟨w.heap.size+1+1+1,0,none⟩ s old ((((w.alloc (.cells #[.pointer (some t)] 212)).alloc (.cells #[.pointer (some ⟨10,212,none⟩),.pointer (some ⟨w.heap.size,0,none⟩),.int .u64 150] 261)).alloc (.cells #[.pointer (some ⟨10,212,none⟩),.pointer (some ⟨w.heap.size,0,none⟩),.int .u64 150] 261)).alloc (.cells #[.string s] 210))
  (by rw[World.cell?_alloc_at _ _ _ _ (by simp)];rfl) rfl
  (by rw[World.cell?_alloc_lt _ _ t (by simp;omega),World.cell?_alloc_lt _ _ t (by simp;omega),World.cell?_alloc_lt _ _ t (by simp;omega),World.cell?_alloc_lt _ _ t htl];exact ht0) hts
  (by rw[World.frozen?_alloc_old _ _ t (by simp;omega),World.frozen?_alloc_old _ _ t (by simp;omega),World.frozen?_alloc_old _ _ t (by simp;omega),World.frozen?_alloc_old _ _ t (Nat.ne_of_lt htl)];exact hf0)
 have e175:∀args w,(callFunc 237 args).run Tryz.prog w= .ok (.enter 237 args) w:=enters_of Tryz.func237 (by kernel_rfl) rfl
 go_enter Tryz.func168,Tryz.ntmps168
 go_wp2
 refine wp_loop_rounds 1 ?_;rw[rounds_succ]
 go_wp2
 go_ret
 exact⟨rfl,rfl⟩
end Go.Cx
end
noncomputable section
namespace Go.Cx
open Go Go.Ab Go.Proofs Go.RowKit
def h100:F→Lk→Nat→(Value→Lk→Nat→Prop)→Prop:=fun args m n K=>match args with
 | [.nilIface,_]=>K (.bool false) m n
 | [.iface t (.agg ⟨[.string s]⟩),.iface t' (.pointer (some ⟨k,0,some _⟩))]=>match Nat.beq t 210,Nat.beq t' 212,m k with
  | true,true,some ⟨[.string _],ty,true⟩=>match Nat.ble itTy ty with
   | false=>K (.bool true) (m.upd k ⟨[.string s],ty,true⟩) n
   | true=>False
  | _,_,_=>False
 | _=>False
theorem c100:jbq Tryz.prog 168:=⟨_,Tryz.func168,by kernel_rfl,rfl⟩
theorem tab_as{w:World}(h:TabsIn w.heap.size w):w.cell? ⟨0,0,none⟩=some (.iface 304 (.agg #[.pointer (some ⟨10,157,none⟩)])):=
 h.cell (b:=0) rfl (i:=0) rfl
theorem gen100:jcw Tryz.prog 168 h100:=by
 refine⟨c100,fun args m n K hh N w0 ι w hrel hwf hargs=> ?_⟩;unfold h100 at hh;split at hh
 ·rename_i t;refine(as_nil (ren ι t) w).mono fun e w' ⟨h1,h2⟩=> ?_
  subst h2;exact⟨.bool false,m,n,ι,by rw[h1];rfl,hh,Nat.le_refl _,fun _ _=>rfl,hrel,hwf,by simp[ids]⟩
 ·rename_i t s t' k sp;split at hh
  case h_2=>exact hh.elim
  rename_i old ty ht ht' hk;split at hh
  case h_2=>exact hh.elim
  rename_i hty;have ht:=jah ht;have ht':=jah ht';subst ht ht';obtain⟨h1,h2,h3⟩:=hrel.blk k _ hk rfl;rw[objOf_cells hty]at h3
  have e1:([.iface 210 (.agg ⟨[.string s]⟩),.iface 212 (.pointer (some ⟨k,0,some sp⟩))]:F).map (ren ι)=[.iface 210 (.agg ⟨[.string s]⟩),.iface 212 (.pointer (some ⟨(ι k).1,0,none⟩))]:=by
   simp[ren,renL,ren1,h1]
  rw[e1]
  have hc:w.cell? ⟨(ι k).1,0,none⟩=some (.string old):=by
   simp only[World.cell?,h3];rfl
  have hf:w.frozen? ⟨(ι k).1,0,none⟩=false:=by
   simp[World.frozen?,h3]
  refine(as_hit s ⟨(ι k).1,0,none⟩ (.string old) w (tab_as hrel.tabs) rfl hc hf).mono fun e w' ⟨g1,g2⟩=> ?_
  have hb:Below w.heap.size w ((((w.alloc (.cells #[.pointer (some ⟨(ι k).1,0,none⟩)] 212)).alloc (.cells #[.pointer (some ⟨10,212,none⟩),.pointer (some ⟨w.heap.size,0,none⟩),.int .u64 150] 261)).alloc (.cells #[.pointer (some ⟨10,212,none⟩),.pointer (some ⟨w.heap.size,0,none⟩),.int .u64 150] 261)).alloc (.cells #[.string s] 210)):=
   ((((Below.refl _ _).alloc (Nat.le_refl _) _).alloc (by simp) _).alloc (by simp;omega) _).alloc (by simp;omega) _
  have hr:=hrel.grow hb;obtain⟨_,_,h4⟩:=hr.blk k _ hk rfl;rw[objOf_cells hty]at h4;have hw:=hr.write hk rfl (b':=⟨[.string s],ty,true⟩) rfl rfl rfl (it_ble hty);refine⟨.bool true,_,n,ι,by rw[g1];rfl,hh,Nat.le_refl _,fun _ _=>rfl,?_,fun j b hj=> ?_,by simp[ids]⟩
  ·rw[g2,setCell_eq_setRow _ _ _ _ _ _ _ h4];exact hw
  ·by_cases e:j=k
   ·subst e;rw[Lk.upd_same]at hj;cases hj;exact⟨(hwf j _ hk).1,by simp[idsL,ids]⟩
   ·rw[Lk.upd_other _ _ e]at hj;exact hwf j b hj
 ·exact hh.elim
end Go.Cx
end
noncomputable section
namespace Go.Cx
open Go Go.Ab Go.Proofs Go.Shelf Go.Px Go.Cv
def RdN(s:Y)(b g:Bool)(d:Y)(c:Int):Prop:=rdN (bz s)=none∧b=false∧g=false∧d=⟨#[]⟩∧c=0∨ ∃l,rdN (bz s)=some (g,l,c)∧d=szO l∧b=true
def hidN:F→Lk→Nat→(Value→Lk→Nat→Prop)→Prop:=fun args m n K=>match args with
 | [.string s]=>match cnd (decide (s.size≤9223372036854775807))with
  | true=>∀(b g:Bool)(d:Y)(c:Int),RdN s b g d c→K (.tuple ⟨[.agg ⟨[.bool g,.string d,.int .i64 c]⟩,.bool b]⟩) m n
  | false=>False
 | _=>False
theorem gen_hidN:jcw Tryz.prog 173 hidN:=by
 obtain⟨hc,hp⟩:=ok24;refine⟨hc,fun args m n K hh N w0 ι w hrel hwf hargs=> ?_⟩;unfold hidN at hh;split at hh
 case h_2=>exact hh.elim
 rename_i s;split at hh
 case h_2=>exact hh.elim
 rename_i hcc;have hs:(sp1 s24) [.string s] ([Value.string s].map (blkOf m))=some (true,onV (rdN (bz s))):=congrArg some (Prod.ext (show(s24 s).1=true from hcc) rfl);refine(hp [.string s] _ N w0 m ι w hrel hs rfl).mono fun e' w' ⟨h1,h2⟩=> ?_
 refine⟨onV (rdN (bz s)),m,n,ι,by rw[h1];rfl,?_,Nat.le_refl _,fun _ _=>rfl,hrel.grow h2,hwf,by simp[ids,idsL,onV]⟩;cases hr:rdN (bz s)with
 | none=>
  have:=hh false false ⟨#[]⟩ 0 (.inl ⟨hr,rfl,rfl,rfl,rfl⟩);rw[←jdv]at this;exact this
 | some x=>exact hh true x.1 (szO x.2.1) x.2.2 (.inr ⟨x.2.1,by rw[hr],rfl,rfl⟩)
end Go.Cx
end
noncomputable section
set_option maxHeartbeats 3200000
namespace Go.Cx
open Go Go.Ab Go.Proofs Go.Shelf Go.Px Go.Cv
open Go.Fx (Ty Vl check ja9 most base pw bnd Fit fits tv vv tup V0 T0 jbs jbw jbj jcd str0)
def s322(s:Y):Bool×Value:=(true,S s)
theorem v322(s:Y)(R:Value→Prop):jaz Tryz.prog K6 noL Tryz.f340 [Enc.enc s] (fun _=>none) 0 (fun v _ _=>R v)=(R (S s)):=by kernel_rfl
theorem ok322:jan Tryz.prog 340 (sp1 s322):=by
 refine jck ok_K6 hmix (.m Tryz.func340) jaj jag fun s hc=> ?_
 rw[ja5,v322]
 try dsimp only[s322]
def s324(s:Y):Bool×Value:=(true,S s)
theorem v324(s:Y)(R:Value→Prop):jaz Tryz.prog K6 noL Tryz.f342 [Enc.enc s] (fun _=>none) 0 (fun v _ _=>R v)=(R (S s)):=by kernel_rfl
theorem ok324:jan Tryz.prog 342 (sp1 s324):=by
 refine jck ok_K6 hmix (.m Tryz.func342) jaj jag fun s hc=> ?_
 rw[ja5,v324]
 try dsimp only[s324]
def K7:Env:=Env.nil
theorem ok_K7:ja0 Tryz.prog K7:=jav
def s115(t:Ty):Bool×Value:=(decide (t.q≤t.p∧t.p≤1000∧0≤t.q),I (if t.k=2 then t.p else(332*(t.p-t.q)+99)/100))
theorem v115(t:Ty)(R:Value→Prop):jaz Tryz.prog K7 noL Tryz.f280 [Enc.enc t] (fun _=>none) 0 (fun v _ _=>R v)=(bif cl t 2 then R (I (Fx.Ty.p t))else R (bp ((il (IntKind.i64.wrap (332*bu (Fx.Ty.p t) (Fx.Ty.q t))) 99).tdiv 100))):=by kernel_rfl
theorem ok115:jan Tryz.prog 280 (sp1 s115):=by
 refine jck ok_K7 hmix (.m Tryz.func280) jaj jag fun t hc=> ?_
 rw[ja5,v115];delta bp il bu cl;have hc:(t.q≤t.p∧t.p≤1000∧0≤t.q):=jab hc
 try dsimp only[s115]
 apply cond_intro<;>intro h
 ·have h:t.k=2:=eq_of_beq h;rw[if_pos h]
 ·have h:¬t.k=2:=by simpa using h
  rw[if_neg h,w64 (n:=t.p-t.q) (by omega),w64 (n:=332*(t.p-t.q)) (by omega),w64 (n:=332*(t.p-t.q)+99) (by omega)];by_cases hn:0≤332*(t.p-t.q)+99
  ·rw[Int.tdiv_eq_ediv_of_nonneg hn,w64 (by omega)]
  ·exfalso;omega
def K8:Env:=Env.nil
theorem ok_K8:ja0 Tryz.prog K8:=jav
def inB:Nat→Int→J
 | 0,_=> []
 | k+1,n=>inB k (n/2)++ [48+n%2]
theorem zrow8(k:Nat):zrow (.int .u8 0) k=cz (List.replicate k 0):=by
 rw[cz,List.map_replicate];refine List.eq_replicate_iff.2 ⟨by rw[zrow_len];simp[Value.cells],fun v hv=> ?_⟩;have:=zrow_mem hv;simpa[Value.cells]using this
theorem row_zero(k:Nat)(hk:k≤1000):RowP (zrow (.int .u8 0) k) k k:=by
 rw[zrow8];have:=(jlu (List.replicate k 0) (tail:=[]) (cap:=k) rfl (by simp) (by omega)).1;rw[List.append_nil,List.length_replicate]at this;exact this
theorem row_set{d:F}{n cap:Nat}(h:RowP d n cap){k:Nat}(hk:k<n)(x:Int):RowP (setL d (0+k*1) [.int .u8 x]) n cap∧zc (setL d (0+k*1) [.int .u8 x]) n=(zc d n).set k x:=by
 have e:setL d (0+k*1) [.int .u8 x]=d.set k (.int .u8 x):=by rw[Nat.zero_add,Nat.mul_one];rfl
 have ht:(d.set k (.int .u8 x)).take n=cz ((zc d n).set k x):=by
  rw[List.take_set,h.take,cz,cz,List.map_set]
 rw[e];refine⟨⟨by rw[ht];exact jei _,?_,by rw[List.length_set];exact h.len,h.le,h.cap⟩,?_⟩
 ·refine ja2.2 fun v hv=> ?_
  rcases List.mem_or_eq_of_mem_set hv with hv | hv
  ·exact ja2.1 h.plain v hv
  ·rw[hv];rfl
 ·show List.map iv ((d.set k (.int .u8 x)).take n)=_;rw[ht];simp[cz,Function.comp_def,iv]
def V223_0:Int×Int×Y×Nat×Nat×Int×Int×F→F:=fun(n,m,r,a,b,L,i,d)=> [I n,I m,S r,.slice (some ⟨200,0,some 1⟩) a b,I L,I i]
def B223_0:Int×Int×Y×Nat×Nat×Int×Int×F→O:=fun(n,m,r,a,b,L,i,d)=> [some ⟨d,5,true⟩]
def S223_0:LSpecA (Int×Int×Y×Nat×Nat×Int×Int×F) where
 live:=[0,1,4,5,10,11]
 mid:=[200]
 n:=210
 ap:=[(.tmp 5,200)]
 dec vs bs:=match vs,bs with
  | [.int .i64 n,.int .i64 m,.string r,.slice (some ⟨200,0,some 1⟩) a b,.int .i64 L,.int .i64 i],[some ⟨d,5,true⟩]=>some (n,m,r,a,b,L,i,d)
  | _,_=>none
 pre:=fun(n,m,r,a,b,L,i,d)=>jc6 d a b&&decide (0≤n∧n≤2147483648∧0≤i∧i≤L∧L=m∧m≤1000∧(a:Int)=m)
 fin:=fun(n,m,r,a,b,L,i,d) Z=>∀(n':Int)(d':F),jc6 d' a b=true→zc d' a=inB (m-i).toNat n++(zc d a).drop (m-i).toNat→Z (.exit 0) [I n',I m,S r,.slice (some ⟨200,0,some 1⟩) a b,I L,I L] [some ⟨d',5,true⟩]
theorem r223_0(n:Int)(m:Int)(r:Y)(a:Nat)(b:Nat)(L:Int)(i:Int)(d:F)(jk:Tmps)(R:Exit→F→O→Prop):(jb6 Tryz.prog K8 noL Tryz.f279.ntmps (jbb Tryz.f279 0) (tl S223_0.live (V223_0 (n,m,r,a,b,L,i,d)) jk) (ml S223_0.mid (B223_0 (n,m,r,a,b,L,i,d))) S223_0.n fun e t' m' _=>S223_0.out R e t' m')=(ft (au i L) (ct (bu (jv m 1) i) (a:Int)) (bw e8 d) (bif Nat.ble (jx (bu (jv m 1) i)+1) d.length then cu (bw e8 (setL d (jx (bu (jv m 1) i)) [kf (il 48 (n.tmod 2))])) R [d9 e8 (setL d (jx (bu (jv m 1) i)) [kf (il 48 (n.tmod 2))])] (bp (n.tdiv 2)::ak m::S r::dm L i 200 a b)else False) (R (.exit 0) (ak n::ak m::S r::dy L i 200 a b) [d9 e8 d])):=by kernel_rfl
theorem l223_0:LOKf Tryz.prog (oneL 0 S223_0.hA) Tryz.f279:=by
 refine jcb (h:=S223_0.hA) (by kernel_rfl) (jbu ok_K8 hmix (by kernel_rfl) (jbf _) S223_0 V223_0 B223_0 (fun(n,m,r,a,b,L,i,d)=>(L-i).toNat) ?_ ?_ ?_)
 ·intro vs bs s h;simp only[S223_0]at h;split at h
  all_goals first | (cases h;exact⟨rfl,rfl⟩) | cases h | (split at h<;>first | (rename_i hq;cases h;have hq:=jah hq;subst hq;exact⟨rfl,rfl⟩) | cases h)
 ·exact fun⟨n,m,r,a,b,L,i,d⟩ hp=>by
   simp only[S223_0,jaf]at hp;simp[V223_0,B223_0,S223_0,jaw,jbt,idsL,ids,jao (jat.1 hp.1).plain]
 ·intro⟨n,m,r,a,b,L,i,d⟩ jk Z hp hf;rw[r223_0];delta c9 ft d9 e8 ak dq dv dy cu bp d8 dm kf il jx bu jv bw ct au;simp only[S223_0]at hp hf;simp only[jaf,jae]at hp;obtain⟨hr,hn0,hn1,hi0,hiL,hLm,hm,ham⟩:=hp;have hr:=jat.1 hr;have hzl:=ja6 hr;apply cond_intro<;>intro h
  ·have h:=jab h
   have hk:(IntKind.wrap .i64 (IntKind.wrap .i64 (m-1)-i))=((m-i).toNat-1:Nat):=by
    rw[w64 (n:=m-1) (by omega),w64 (by omega)];omega
   rw[hk,Int.toNat_natCast];generalize hkk:(m-i).toNat-1=k;have hka:k<a:=by omega
   obtain⟨g1,g2⟩:=row_set hr hka (48+n%2)
   have hw:IntKind.u8.wrap (IntKind.i64.wrap (48+n.tmod 2))=48+n%2:=by
    rw[Int.tmod_eq_emod_of_nonneg hn0,w64 (by omega),w8 (by omega)]
   have hq:IntKind.i64.wrap (n.tdiv 2)=n/2:=by rw[Int.tdiv_eq_ediv_of_nonneg hn0,w64 (by omega)]
   rw[hw,hq,w64 (n:=i+1) (by omega),g1.good,g1.rlb];have hl:=hr.len;have hle:=hr.le;refine c_t (jaa (by omega)) (c_t (by rw[Nat.ble_eq];omega) (c_t rfl ⟨(n/2,m,r,a,b,L,i+1,_),rfl,rfl,?_,by simp only;omega,fun n' d' h1 h2=>hf n' d' h1 ?_⟩))
   ·simp only[S223_0,jaf,jae];exact⟨jat.2 g1,by omega⟩
   ·have e1:(m-i).toNat=k+1:=by omega
    have e2:(m-(i+1)).toNat=k:=by omega
    rw[h2,e1,e2,g2,inB,List.append_assoc];congr 1;rw[List.drop_set,if_neg (by omega),Nat.sub_self];have:(zc d a).drop k=(zc d a)[k]'(by omega)::(zc d a).drop (k+1):=List.drop_eq_getElem_cons (by omega);rw[this];rfl
  ·have h:=jac h;rw[hr.good,hr.rlb];obtain rfl:i=L:=by omega
   refine c_t rfl (hf n d (jat.2 hr) ?_);rw[show(m-i).toNat=0 by omega];rfl
def s223(n:Int)(m:Int):Bool×Value:=(decide (0≤n∧n≤2147483648∧0≤m∧m≤1000),S (szO (inB m.toNat n)))
theorem v223(n:Int)(m:Int)(R:Value→Prop):jaz Tryz.prog K8 (oneL 0 S223_0.hA) Tryz.f279 [Enc.enc n,Enc.enc m] (fun _=>none) 0 (fun v _ _=>R v)=(fw (jm 0 m m) (jcj m.toNat 1) (bw [(2,200)] (zrow (bm 0) m.toNat) && (jaw 210 (rlbL [(2,200)] (zrow (bm 0) m.toNat)) &&true)) (kw (S223_0.toLSpec.pre (n,(m,(am,(m.toNat,(m.toNat,(natO m.toNat,((0:Int),rlbL [(2,200)] (zrow (bm 0) m.toNat))))))))) (∀a:F,jc6 a m.toNat m.toNat=true→zc a m.toNat=inB (j8 m) n++(zc (rlbL [(2,200)] (zrow (bm 0) m.toNat)) m.toNat).drop (j8 m)→kp true (jbe a 0 m.toNat) a (S (ja8 a 0 m.toNat)) R) Int) False):=by kernel_rfl
theorem ok223:jan Tryz.prog 279 (sp2 s223):=by
 refine jdg ok_K8 hmix (.m Tryz.func279) l223_0 jag fun n m hc=> ?_
 rw[ja5,v223];delta fw kw aq kp bm j8 am bw jm;have hc:(0≤n∧n≤2147483648∧0≤m∧m≤1000):=jab hc
 try dsimp only[s223]
 obtain⟨h1,h2,h3,h4⟩:=hc;have hr:=row_zero m.toNat (by omega);rw[hr.good,hr.rlb];refine c_t (by rw[jaa (show 0≤m∧m≤m by omega)];simp only[Bool.true_and,jcj,jaf,Nat.ble_eq];omega) (c_t (by rw[jbl hr.plain];rfl) (c_t ?_ fun n' d' g1 g2=> ?_))
 ·simp only[S223_0,jaf,jae];rw[jb1];exact⟨jat.2 hr,by omega⟩
 ·have g1:=jat.1 g1;rw[Int.sub_zero]at g2;have hzl:=ja6 hr;rw[List.drop_eq_nil_of_le (by omega),List.append_nil]at g2;refine c_t (by rw[jbl g1.plain];rfl) fun _=>c_t g1.str.1 ?_
  rw[g1.str.2,g2,jcl]
instance tabsT:Tabs:=tabs
def bitW0(t:Ty):Int:=if t.k=2 then t.p else(332*(t.p-t.q)+99)/100
def scal(t:Ty):Int:=if t.k=6 then 5 else chk4 t
def numT(t:Ty):Bool:=t.k==5&&pN (bz t.s)
def piT(t:Ty):Ty:=⟨tyK (bz t.s),tyP (bz t.s),pQ (bz t.s),false,⟨#[]⟩⟩
def bwT(t:Ty):Int:=if t.k=1∨t.k=2 then bitW0 t else if numT t=true then bitW0 (piT t)else if t.k=5 then pW (bz t.s)else t.p
def bitT(t:Ty):Ty:=if scal t≠0 then T0 else⟨4,min 64 (bwT t),0,false,⟨#[]⟩⟩
def sz63(t:Ty):Prop:=t.s.size≤9223372036854775807
instance (t:Ty):Decidable (sz63 t):=by unfold sz63;infer_instance
def M0:Env:=(Env.nil.add 121 (sp1 s66)).add 122 (sp1 Px.s33)
theorem ok_M0:ja0 Tryz.prog M0:=jak (jak jav ok66) Px.ok33
def s20f(t:Ty):Bool×Value:=(decide (sz63 t),I (chk4 t))
def ot(e f i j:Bool)(a:Fx.Ty)(c:Int)(d g h k l m:Prop)(b:Value→Prop):Prop:=bif cl a 1 then b (.int .i64 c)else bif cl a 2 then b (.int .i64 c)else bif cl a 3 then d else bif cl a 4 then jw e f g h else bif cl a 5 then jw i j k h else bif cl a 6 then l else m
def nk(a d:Bool)(e:Y)(b:Fx.Ty)(c:Int)(f:Value→Prop):Prop:=bif !a || !(Fx.Ty.k b==Fx.Ty.k b&& (Fx.Ty.p b==c&& (Fx.Ty.q b==0&& (Fx.Ty.v b==d&& (du (Fx.Ty.s b) e&&true)))))then f (ak 5)else f (ak 0)
def mb(a b:Bool)(c:Prop):Prop:=(bif a then c9 b c else False)∧(bif a then c9 b c else False)
theorem v20f(t:Ty)(R:Value→Prop):jaz Tryz.prog M0 noL Tryz.f72 [Enc.enc t] (fun _=>none) 0 (fun v _ _=>R v)=(ot (gz (Fx.Ty.p t) 0) (!gp (Fx.Ty.p t) 0 64 || true) (ax (Fx.Ty.s t)) (!pE (bz (Fx.Ty.s t))==0 || true) t (Fx.check t) (mb (gz (Fx.Ty.p t) 0) (!gp (Fx.Ty.p t) 0 255 || true) (nk (gp (Fx.Ty.p t) 0 255) (Fx.Ty.v t) am t (Fx.Ty.p t) R)) (nk (gp (Fx.Ty.p t) 0 64) false am t (Fx.Ty.p t) R) False (nk (pE (bz (Fx.Ty.s t))==0) false (Fx.Ty.s t) t 0 R) (nk true false am t 0 R) (R (ak 5)) R):=by kernel_rfl
theorem ok20f:jan Tryz.prog 72 (sp1 s20f):=by
 refine jck ok_M0 hmix fn20 jaj jag fun t hc=> ?_
 rw[ja5,v20f];delta cl jw ot ak du nk am im f9 gp c9 mb gz ax;have hc:(sz63 t):=jab hc
 try dsimp only[s20f]
 have hs:t.s.size≤9223372036854775807:=hc;have nvk:∀k:Int,t.k=k→k≠1→k≠2→ ¬ja9 t:=fun k hk h1 h2 hv=>by have:=hv.1;omega
 have ck:t.k=1∨t.k=2→check t=chk4 t:=fun hk=>by
  unfold Fx.check chk4;by_cases hv:ja9 t
  ·rw[if_pos hv,if_pos hv]
  ·rw[if_neg hv,if_neg hv,if_neg (by omega),if_neg (by omega),if_neg (by omega),if_neg (by omega)]
 refine cond_intro (fun hk=> ?_) (fun h1=> ?_)
 ·rw[ck (.inl (by simpa using hk))]
 refine cond_intro (fun hk=> ?_) (fun h2=> ?_)
 ·rw[ck (.inr (by simpa using hk))]
 have h1:t.k≠1:=by simpa using h1
 have h2:t.k≠2:=by simpa using h2
 have nv:¬ja9 t:=nvk _ rfl h1 h2;apply cond_intro<;>intro h3
 ·have h3:t.k=3:=by simpa using h3
  have key:∀X:Prop,(bif !(decide (t.p≥0) &&decide (t.p≤255)) || !(t.k==t.k&& (t.p==t.p&& (t.q==0&& (t.v==t.v&& (t.s.toList==(ByteArray.mk #[]).toList&&true)))))then Value.int IntKind.i64 5=I (chk4 t)else Value.int IntKind.i64 0=I (chk4 t)):=fun _=>by
   rw[jce];unfold chk4;rw[if_neg nv];apply cond_intro<;>intro h
   ·rw[if_neg,if_neg (by omega),if_neg (by omega),if_neg (by omega)];rintro ⟨-,q1,q2,q3,q4⟩;simp[q1,q2,q3,q4]at h
   ·rw[if_pos];simp at h;exact⟨h3,h.2.1,h.2.2,h.1.1,h.1.2⟩
  exact⟨c_t (Bool.or_true _) (c_t (Bool.or_true _) (key True)),c_t (Bool.or_true _) (c_t (Bool.or_true _) (key True))⟩
 have h3:t.k≠3:=by simpa using h3
 apply cond_intro<;>intro h4
 ·have h4:t.k=4:=by simpa using h4
  refine c_t (Bool.or_true _) (c_t (Bool.or_true _) ?_);rw[jce];unfold chk4;rw[if_neg nv,if_neg (by omega)];apply cond_intro<;>intro h
  ·rw[if_neg,if_neg (by omega),if_neg (by omega)];rintro ⟨-,q1,q2,q3,q4,q5⟩;simp[q1,q2,q3,q4,q5]at h
  ·rw[if_pos];simp at h;exact⟨h4,h.2.1,h.2.2.2,h.2.2.1,h.1.1,h.1.2⟩
 have h4:t.k≠4:=by simpa using h4
 apply cond_intro<;>intro h5
 ·have h5:t.k=5:=by simpa using h5
  refine c_t (jaa hs) (c_t (Bool.or_true _) ?_);unfold chk4;rw[if_neg nv,if_neg (by omega),if_neg (by omega)];apply cond_intro<;>intro h
  ·rw[if_neg,if_neg (by omega)];rintro ⟨-,q1,q2,q3,q4⟩;simp[q1,q2,q3,q4]at h
  ·rw[if_pos];simp at h;exact⟨h5,h.2.1,h.2.2.1,h.2.2.2,h.1⟩
 have h5:t.k≠5:=by simpa using h5
 apply cond_intro<;>intro h6
 ·have h6:t.k=6:=by simpa using h6
  rw[jce];unfold chk4;rw[if_neg nv,if_neg (by omega),if_neg (by omega),if_neg (by omega)];apply cond_intro<;>intro h
  ·rw[if_neg];rintro ⟨-,q1,q2,q3,q4⟩;simp[q1,q2,q3,q4]at h
  ·rw[if_pos];simp at h;exact⟨h6,h.2.1,h.2.2.2,h.1,h.2.2.1⟩
 have h6:t.k≠6:=by simpa using h6
 unfold chk4;rw[if_neg nv,if_neg (by omega),if_neg (by omega),if_neg (by omega),if_neg (by omega)]
def s43(t:Ty):Bool×Value:=(decide (sz63 t),.tuple ⟨[Fx.tv (bitT t),I (scal t)]⟩)
instance tabsT1:Tabs:=tabs
def Q0:Env:=(((Env.nil.add 72 (sp1 s20f)).add 73 (sp2 s70)).add 74 (sp1 s71)).add 75 (sp2 Px.s24)
theorem ok_Q0:ja0 Tryz.prog Q0:=jak (jak (jak (jak jav ok20f) ok70) ok71) Px.ok24
def s22f(v:Vl)(t:Ty):Bool×Value:=(decide (t.s.size≤9223372036854775807∧v.s.size≤9223372036854775807),I (fit4 v t))
def kl(b:Fx.Ty)(a:Fx.Vl):Bool:=ii (Fx.Vl.s a) (Fx.Ty.s b).size 9223372036854775807 9223372036854775807
theorem v22f(v:Vl)(t:Ty)(R:Value→Prop):jaz Tryz.prog Q0 noL Tryz.f23 [Enc.enc v,Enc.enc t] (fun _=>none) 0 (fun v _ _=>R v)=(bif decide (sz63 t)then bif chk4 t !=0 then R (I (chk4 t))else ot (cm (Fx.Vl.n v==0) (bif dx (Fx.Vl.s v)==Fx.Ty.p t then ax (Fx.Vl.s v) &&true else true) true) (!(Fx.Vl.n v==0&& (dx (Fx.Vl.s v)==Fx.Ty.p t&&jca (bz (Fx.Vl.s v))))) (cm (Fx.Vl.n v==0) (kl t v&&true) true) (!(Fx.Vl.n v==0&&hoZ (bz (Fx.Ty.s t)) (bz (Fx.Vl.s v)))) t (Fx.fits v t) (ji (Fx.Vl.n v==0) (dx (Fx.Vl.s v)==Fx.Ty.p t || (Fx.Ty.v t || true)) true (!(Fx.Vl.n v==0&& (dx (Fx.Vl.s v)==Fx.Ty.p t || Fx.Ty.v t&&decide (dx (Fx.Vl.s v)<Fx.Ty.p t)))) (R (ak 6)) (R (ak 0))) (R (ak 6)) (R (ak 0)) (R (ak 6)) (ji (du (Fx.Vl.s v) am) (gz (Fx.Vl.n v) 0) true (!(du (Fx.Vl.s v) am&&gp (Fx.Vl.n v) 0 524288)) (R (ak 6)) (R (ak 0))) (bif !Fx.Vl.n v==0 then R (ak 6)else R (ak 0)) R else False):=by kernel_rfl
theorem ok22f:jan Tryz.prog 23 (sp2 s22f):=by
 refine jdg ok_Q0 hmix fn22 jaj jag fun v t hc=> ?_
 rw[ja5,v22f];delta cl jw ot ak ji im f9 gp du am gz dx cm ii kl ax;have hc:(t.s.size≤9223372036854775807∧v.s.size≤9223372036854775807):=jab hc
 try dsimp only[s22f]
 rw[jce];unfold fit4 is4;refine c_t (jaa hc.1) ?_
 have hk:chk4 t=0→(t.k=1∨t.k=2∨t.k=3∨t.k=4∨t.k=5∨t.k=6)∧((t.k=1∨t.k=2)→ja9 t):=fun h=>by
  unfold chk4 at h;have hv:ja9 t→t.k=1∨t.k=2:=fun h=>h.1
  grind
 apply cond_intro<;>intro h
 ·rw[if_pos (by simpa using h)]
 have h0:chk4 t=0:=by simpa using h
 rw[if_neg (fun z=>z h0)];obtain⟨hk,hval⟩:=hk h0;have hf:ja9 t→Fx.fits v t=if Fit v t then 0 else 6:=fun h=>if_pos h
 simp only[Bool.or_true,Bool.and_true,Bool.cond_self,jaa hc,jaa hc.2]
 repeat' apply cond_intro<;>intro h
 all_goals first | (exfalso;simp at h;done) | (congr 1;grind) | (exfalso;grind)
end Go.Cx
end
noncomputable section
namespace Go.Cx
open Go Go.Ab Go.Px Go.Cv
theorem jhh{p:Int→Bool}:∀{l r:J},l.all p=true→(l++r).dropWhile p=r.dropWhile p
 | [],_,_=>rfl
 | c::l,r,h=>by
  simp only[List.all_cons,jaf]at h;rw[List.cons_append,List.dropWhile_cons_of_pos h.1,jhh h.2]
theorem drop_nil{p:Int→Bool}:∀{l:J},l.dropWhile p=[]→ ∀a∈l,p a=true
 | [],_,_,ha=>by cases ha
 | c::l,h,a,ha=>by
  cases hc:p c with
  | false=>rw[List.dropWhile_cons_of_neg (by simp[hc])]at h;cases h
  | true=>
   rw[List.dropWhile_cons_of_pos hc]at h;rcases List.mem_cons.1 ha with rfl | ha
   ·exact hc
   ·exact drop_nil h a ha
theorem u8n{n:Nat}(h:n<10):((UInt8.ofNat (48+n)).toNat:Int)=48+n:=by
 rw[UInt8.toNat_ofNat'];omega
end Go.Cx
end
noncomputable section
namespace Go.Cx
open Go Go.Ab Go.Px Go.Cv
open Go.Fx (Ty Vl check ja9 most base pw bnd Fit fits)
theorem jj3:∀(k n:Nat),n<10^ (k+1)→ja7 (zl (Lib.decDigits n))=true∧zl (Lib.decDigits n)≠ []
 | k,n,h=>by
  have one:∀j,j<10→dig ((UInt8.ofNat (48+j)).toNat:Int)=true:=fun j hj=>by
   rw[u8n hj];unfold dig;exact jaa (by omega)
  rw[Lib.decDigits];by_cases h10:n<10
  ·rw[dif_pos h10];exact⟨by simp only[zl,List.map_cons,List.map_nil,ja7,List.all_cons,List.all_nil,one n h10,Bool.and_self],by simp[zl]⟩
  ·rw[dif_neg h10];cases k with
   | zero=>omega
   | succ k=>
    have ih:=jj3 k (n/10) (by rw[Nat.pow_succ]at h;omega);refine⟨?_,by simp[zl]⟩;rw[zl,List.map_append];rw[digs_app];have e:ja7 (List.map (fun b:UInt8=>(b.toNat:Int)) (Lib.decDigits (n/10)))=true:=ih.1;rw[e];simp only[List.map_cons,List.map_nil,ja7,List.all_cons,List.all_nil,one (n%10) (by omega),Bool.and_self]
theorem jjl{m:Int}(h:0≤m∧m≤2147483648):ja7 (itoZ m)=true∧itoZ m≠ []:=by
 obtain⟨k,rfl⟩:∃k:Nat,m=(k:Int):=⟨m.toNat,by omega⟩
 rw[itoZ,Lib.itoa_nonneg];exact jj3 9 k (by omega)
theorem rep48_digs(n:Nat):ja7 (rep48 n)=true:=List.all_eq_true.2 fun c hc=>by rw[List.eq_of_mem_replicate hc];rfl
def numA(n q:Int):Num:=ja1 (decide (n<0)) (itoZ (if n<0 then -n else n)) q
end Go.Cx
end
noncomputable section
set_option maxHeartbeats 3200000
namespace Go.Cx
open Go Go.Ab Go.Proofs Go.Shelf Go.Px Go.Cv
open Go.Fx (Ty Vl check ja9 most base pw bnd Fit fits tv vv tup V0 T0 jbs jbw jbj jcd str0)
def K9p:Env:=((((((((((Env.nil.add 74 (sp1 s71)).addG 114 (hideS (sp2 s30))).add 340 (sp1 s322)).add 342 (sp1 s324)).addG 173 hidN).add 239 (sp3 s77)).add 280 (sp1 s115)).add 130 (sp1 s29)).add 338 (sp1 s321)).add 240 (sp1 s78)).add 279 (sp2 s223)
theorem ok_K9p:ja0 Tryz.prog K9p:=jak (jak (jak (jak (jak (jak (jau (jak (jak (jau (jak jav ok71) (jfb ok30)) ok322) ok324) gen_hidN) ok77) ok115) ok29) ok321) ok78) ok223
theorem fn222:Fn1 Tryz.prog 277 Tryz.f277:= .m Tryz.func277
theorem fn170:Fn1 Tryz.prog 232 Tryz.f232:= .m Tryz.func232
theorem fn97:Fn1 Tryz.prog 158 Tryz.f158:= .m Tryz.func158
theorem fn169:Fn1 Tryz.prog 231 Tryz.f231:= .m Tryz.func231
theorem fn101:Fn1 Tryz.prog 169 Tryz.f169:= .m Tryz.func169
theorem fn168:Fn1 Tryz.prog 230 Tryz.f230:= .m Tryz.func230
theorem fn99:Fn1 Tryz.prog 167 Tryz.f167:= .m Tryz.func167
theorem fn34:Fn1 Tryz.prog 115 Tryz.f115:= .m Tryz.func115
def pi(a b c:Int)(d:Value→Prop):Prop:=bif jm (-9223372036854775808) a 9223372036854775807 then aq (lp (szO (itoZ a)) (-100000) b 100000 100000) (az [ay (l7 (au c 0) (szO (itoZ a)) b),Value.nilIface]) d else False
theorem x222w(n:Int)(k:Int)(p:Int)(q:Int)(w:Bool)(u:Y)(R:Value→Prop):(jaz Tryz.prog K9p noL Tryz.f277 [.iface 241 (.agg ⟨[I n,I k,I p,I q,B w,S u]⟩)] (fun _=>none) 0 (fun v _ _=>R v))=(bif au n 0 then pi (bu 0 n) q n R else pi n q n R):=by kernel_rfl
theorem x222b(s:Y)(R:Value→Prop):(jaz Tryz.prog K9p noL Tryz.f277 [.iface 242 (S s)] (fun _=>none) 0 (fun v _ _=>R v))=(g8 (jca (bz s) &&decide (s.size≤64)) (lp (szO (dz (binG (bz s) 0))) (-100000) 0 100000 100000) (az [ay (l7 false (szO (dz (binG (bz s) 0))) 0),Value.nilIface]) R):=by kernel_rfl
theorem x222c(s:Y)(R:Value→Prop):(jaz Tryz.prog K9p noL Tryz.f277 [.iface 245 (S s)] (fun _=>none) 0 (fun v _ _=>R v))=(bif ax s then∀a:Bool,∀b:Bool,∀c:Y,∀d:Int,RdN s a b c d→(bif !a then co [k7,.iface 210 (ay [S s])] R else co [ay [B b,S c,ak d],Value.nilIface] R)else False):=by kernel_rfl
theorem x169(s:Y)(n:Int)(c:Y)(R:Value→Prop):(jaz Tryz.prog K9p noL Tryz.f231 [S s,I n,S c] (fun _=>none) 0 (fun v _ _=>R v))=(bif decide ((s.size:Int)≥n)then bif decide ((0:Int)≤0∧0≤n∧n≤(s.size:Int))then R (S (ByteArray.extract s 0 n.toNat))else False else bif decide (0≤IntKind.wrap .i64 (n-(s.size:Int))∧IntKind.wrap .i64 (n-(s.size:Int))≤1000∧c.size≤1000)then∀(s':Y),szO (repZ (bz c) (IntKind.wrap .i64 (n-(s.size:Int))).toNat)=s'→bif jbn (s.size+s'.size)then R (S (s++s'))else False else False):=by kernel_rfl
def divT:Nat→Int→Int
 | 0,n=>n
 | k+1,n=>divT k (n/10)
theorem divT_rng:∀(k:Nat)(n:Int),0≤n→0≤divT k n∧divT k n≤n
 | 0,n,h=>⟨h,Int.le_refl _⟩
 | k+1,n,h=>by
  have:=divT_rng k (n/10) (by omega);rw[divT];omega
def V170_1:Int×Int×Int×Int×Bool×Y×Int×Int×Int→F:=fun(m,k,p,q,w,u,n,Q,i)=> [.pointer (some ⟨6,0,some 0⟩),I n,I Q,I i]
def B170_1:Int×Int×Int×Int×Bool×Y×Int×Int×Int→O:=fun(m,k,p,q,w,u,n,Q,i)=> [some ⟨[I m,I k,I p,I q,B w,S u],241,true⟩]
def S170_1:LSpec (Int×Int×Int×Int×Bool×Y×Int×Int×Int) where
 live:=[4,5,21,22]
 mid:=[6]
 n:=60
 dec vs bs:=match vs,bs with | [.pointer (some ⟨6,0,some 0⟩),.int .i64 n,.int .i64 Q,.int .i64 i],[some ⟨[.int .i64 m,.int .i64 k,.int .i64 p,.int .i64 q,.bool w,.string u],241,true⟩]=>some (m,k,p,q,w,u,n,Q,i) | _,_=>none
 pre:=fun(m,k,p,q,w,u,n,Q,i)=>decide (0≤n∧n≤2147483648∧0≤i∧i≤Q∧Q≤1000)
 fin:=fun(m,k,p,q,w,u,n,Q,i) Z=>Z (.exit 1) [.pointer (some ⟨6,0,some 0⟩),I (divT (Q-i).toNat n),I Q,I Q] [some ⟨[I m,I k,I p,I q,B w,S u],241,true⟩]
theorem r170_1(m:Int)(k:Int)(p:Int)(q:Int)(w:Bool)(u:Y)(n:Int)(Q:Int)(i:Int)(jk:Tmps)(R:Exit→F→O→Prop):(jb6 Tryz.prog K9p noL Tryz.f232.ntmps (jbb Tryz.f232 1) (tl S170_1.live (V170_1 (m,k,p,q,w,u,n,Q,i)) jk) (ml S170_1.mid (B170_1 (m,k,p,q,w,u,n,Q,i))) S170_1.n fun e t' m' _=>R e (List.map t' S170_1.live) (List.map m' S170_1.mid))=(bif au i Q then R .normal (ar 6::bp (n.tdiv 10)::d8 Q i) [some (.mk [ak m,ak k,ak p,ak q,B w,S u] 241 true)]else R (.exit 1) [ar 6,ak n,ak Q,ak i] [some (.mk [ak m,ak k,ak p,ak q,B w,S u] 241 true)]):=by kernel_rfl
theorem l170_1:LOKf Tryz.prog (oneL 1 S170_1.h) Tryz.f232:=by
 refine jcb (h:=S170_1.h) (by kernel_rfl) (jcq ok_K9p hmix (by kernel_rfl) (jbf _) S170_1 V170_1 B170_1 (fun(m,k,p,q,w,u,n,Q,i)=>(Q-i).toNat) ?_ ?_ ?_)
 ·intro vs bs s h;simp only[S170_1]at h;split at h
  all_goals first | (cases h;exact⟨rfl,rfl⟩) | cases h | (split at h<;>first | (rename_i hq;cases h;have hq:=jah hq;subst hq;exact⟨rfl,rfl⟩) | cases h)
 ·exact fun _ _ _ h=>h
 ·intro⟨m,k,p,q,w,u,n,Q,i⟩ jk Z hp hf;rw[r170_1];delta ak dq ar bp d8 au;simp only[S170_1]at hp hf;have hp:=jab hp;apply cond_intro<;>intro h
  ·have h:=jab h;rw[show(Q-i).toNat=(Q-(i+1)).toNat+1 by omega,divT]at hf;rw[Int.tdiv_eq_ediv_of_nonneg hp.1,w64 (n:=n/10) (by omega),w64 (n:=i+1) (by omega)];exact⟨(m,k,p,q,w,u,n/10,Q,i+1),rfl,rfl,by simp only[S170_1,jae];omega,by simp only;omega,hf⟩
  ·have h:=jac h;obtain rfl:i=Q:=by omega
   rw[Int.sub_self]at hf;exact hf
def pj(e:Bool)(f:Y)(a b c d g:Int)(h:Value→Prop):Prop:=kw (S170_1.pre (a,(b,(c,(d,(e,(f,(g,(d,(0:Int)))))))))) (g8 (ez d c 1000 0 d) (km 0 (divT (j8 d) g) 2147483648 0 (if b=2 then c else(332*(c-d)+99)/100) 1000) (az [.string (szO (inB (if b=2 then c else(332*(c-d)+99)/100).toNat (divT (j8 d) g))),Value.nilIface]) h) Tmps
theorem x170w(n:Int)(k:Int)(p:Int)(q:Int)(w:Bool)(u:Y)(R:Value→Prop):(jaz Tryz.prog K9p (oneL 1 S170_1.h) Tryz.f232 [.iface 241 (.agg ⟨[I n,I k,I p,I q,B w,S u]⟩)] (fun _=>none) 0 (fun v _ _=>R v))=(bif au n 0 then pj w u n k p q (bu 0 n) R else pj w u n k p q n R):=by kernel_rfl
theorem x170b(s:Y)(R:Value→Prop):(jaz Tryz.prog K9p (oneL 1 S170_1.h) Tryz.f232 [.iface 242 (S s)] (fun _=>none) 0 (fun v _ _=>R v))=(R (.tuple (.mk [S s,Value.nilIface]))):=by kernel_rfl
theorem x170c(s:Y)(R:Value→Prop):(jaz Tryz.prog K9p (oneL 1 S170_1.h) Tryz.f232 [.iface 245 (S s)] (fun _=>none) 0 (fun v _ _=>R v))=(dt (jca (bz s)) s (co [S s,Value.nilIface] R) (co [bq,.iface 210 (ay [S s])] R)):=by kernel_rfl
def jdi(l:J)(n:Nat)(c:Int):J:=l.take n++List.replicate (n-l.length) c
def jf0(t:Ty):Int:=if t.k=2 then t.p else(332*(t.p-t.q)+99)/100
def absI(n:Int):Int:=if n<0 then -n else n
def s222:Ab.Spec:=fun args _=>match args with
 | [.iface 241 (.agg ⟨[.int .i64 n,.int .i64 _,.int .i64 _,.int .i64 q,.bool _,.string _]⟩)]=>some (decide (-2147483648≤n∧n≤2147483648∧0≤q∧q≤9),.tuple ⟨[numV (numA n q),.nilIface]⟩)
 | [.iface 242 (.string s)]=>some (jca (bz s) &&decide (s.size≤64),.tuple ⟨[numV (ja1 false (binD (bz s)) 0),.nilIface]⟩)
 | [.iface 245 (.string s)]=>some (decide (s.size≤9223372036854775807),.tuple ⟨[numV ((rdN (bz s)).getD num0),if(rdN (bz s)).isSome=true then .nilIface else .iface 210 (.agg ⟨[.string s]⟩)]⟩)
 | _=>none
def s170:Ab.Spec:=fun args _=>match args with
 | [.iface 241 (.agg ⟨[.int .i64 n,.int .i64 k,.int .i64 p,.int .i64 q,.bool w,.string u]⟩)]=>some (decide (ja9 ⟨k,p,q,w,u⟩∧ -2147483648≤n∧n≤2147483648),.tuple ⟨[S (szO (inB (jf0 ⟨k,p,q,w,u⟩).toNat (divT q.toNat (absI n)))),.nilIface]⟩)
 | [.iface 242 (.string s)]=>some (true,.tuple ⟨[S s,.nilIface]⟩)
 | [.iface 245 (.string s)]=>some (decide (s.size≤9223372036854775807),.tuple ⟨[if jca (bz s)=true then S s else S ⟨#[]⟩,if jca (bz s)=true then .nilIface else .iface 210 (.agg ⟨[.string s]⟩)]⟩)
 | _=>none
def s97:Ab.Spec:=fun args _=>match args with
 | [.agg ⟨[.int .i64 n,.string s]⟩,.agg ⟨[.int .i64 k,.int .i64 p,.int .i64 q,.bool w,.string u]⟩]=>match eqI k 1,eqI k 2,eqI k 3,eqI k 4 with
  | true,_,_,_=>some (true,.iface 241 (.agg ⟨[.int .i64 n,.int .i64 1,.int .i64 p,.int .i64 q,.bool w,.string u]⟩))
  | _,true,_,_=>some (true,.iface 241 (.agg ⟨[.int .i64 n,.int .i64 2,.int .i64 p,.int .i64 q,.bool w,.string u]⟩))
  | _,_,true,_=>some (true,.iface 245 (.string s))
  | _,_,_,true=>some (true,.iface 242 (.string s))
  | _,_,_,_=>none
 | _=>none
def s169(s:Y)(n:Int)(c:Y):Bool×Value:=(decide (0≤n∧n≤1000) &&oneB c,S (szO (jdi (bz s) n.toNat ((bz c).getD 0 0))))
theorem num_abs{n q:Int}(h: -2147483648≤n∧n≤2147483648)(hq:0≤q∧q≤9){x:Value}{m:Int}(hm:(if n<0 then -n else n)=m)
  (hx:x= .tuple ⟨[numV (ja1 (decide (n<0)) (bz (szO (itoZ m))) q),.nilIface]⟩):x= .tuple ⟨[numV (numA n q),.nilIface]⟩:=by
 rw[hx,jco (jgn _),numA,hm]
theorem ok222:jan Tryz.prog 277 s222:=by
 refine jc7 ok_K9p hmix fn222 jaj fun args bs v hs=> ?_
 unfold s222 at hs;split at hs
 ·rename_i n k p q w u;simp only[Option.some.injEq,Prod.mk.injEq,jae]at hs;obtain⟨⟨h1,h2,h3,h4⟩,rfl⟩:=hs;refine⟨rfl,jag,?_⟩;rw[ja5,x222w];delta aq az ay k8 l7 au lp jm pi bu;apply cond_intro<;>intro h
  ·have h:=jab h;have hl:=jdl (m:=0-n) (by omega);rw[w64 (n:=0-n) (by omega)];refine c_t (jaa (by omega)) (c_t (jaa ⟨by rw[jb2];omega,by omega,by omega⟩) ?_);exact num_abs ⟨h1,h2⟩ ⟨h3,h4⟩ (by rw[if_pos h];omega) rfl
  ·have h:=jac h;have hl:=jdl (m:=n) (by omega);refine c_t (jaa (by omega)) (c_t (jaa ⟨by rw[jb2];omega,by omega,by omega⟩) ?_);exact num_abs ⟨h1,h2⟩ ⟨h3,h4⟩ (by rw[if_neg h]) rfl
 ·rename_i s;simp only[Option.some.injEq,Prod.mk.injEq,jaf,jae]at hs;obtain⟨⟨h1,h2⟩,rfl⟩:=hs;refine⟨rfl,jag,?_⟩;rw[ja5,x222b];delta aq g8 az ay k8 l7 lp;have hb:=jmb h1 (by rw[jam];exact h2);have hd:=jl6 20 (binG (bz s) 0) hb.1 (Int.lt_of_lt_of_le hb.2 (by decide));refine c_t (by rw[h1,jaa h2];rfl) (c_t (jaa ⟨by rw[jb2];omega,by omega,by omega⟩) ?_);rw[jco (dz_isB _),jk1]
 ·rename_i s;simp only[Option.some.injEq,Prod.mk.injEq,jae]at hs;obtain⟨h1,rfl⟩:=hs;refine⟨rfl,jag,?_⟩;rw[ja5,x222c];delta az co ay ak am bq k7 ax;refine c_t (jaa h1) fun b g d c hR=> ?_
  rcases hR with⟨r,rfl,rfl,rfl,rfl⟩ | ⟨l,r,rfl,rfl⟩
  ·refine c_t rfl ?_;rw[r];show _=Value.tuple ⟨[.agg ⟨[.bool false,.string (szO []),.int .i64 0]⟩,.iface 210 (.agg ⟨[.string s]⟩)]⟩;rw[jdv]
  ·refine c_f rfl ?_;rw[r];rfl
 ·cases hs
theorem ok170:jan Tryz.prog 232 s170:=by
 refine jc7 ok_K9p hmix fn170 l170_1 fun args bs v hs=> ?_
 unfold s170 at hs;split at hs
 ·rename_i n k p q w u;simp only[Option.some.injEq,Prod.mk.injEq,jae]at hs;obtain⟨⟨hv,h1,h2⟩,rfl⟩:=hs;obtain⟨v1,v2,v3,v4,v5⟩:=Fx.valid_r hv;simp only at v1 v2 v3 v4 v5;refine⟨rfl,jag,?_⟩;rw[ja5,x170w];delta kw aq g8 az j8 km ez pj bu au;have hbw:0≤jf0 ⟨k,p,q,w,u⟩∧jf0 ⟨k,p,q,w,u⟩≤200:=by unfold jf0;simp only;split<;>omega
  have key:∀m:Int,absI n=m→0≤m∧m≤2147483648→LSpec.pre S170_1 (n,k,p,q,w,u,m,q,0)=true∧0≤divT (q-0).toNat m∧divT (q-0).toNat m≤2147483648∧divT (q-0).toNat m=divT q.toNat (absI n):=fun m hm hr=>by
   have:=divT_rng (q-0).toNat m hr.1;refine⟨by simp only[S170_1,jae];omega,by omega,by omega,by rw[hm,Int.sub_zero]⟩
  apply cond_intro<;>intro h
  ·have h:=jab h;rw[w64 (n:=0-n) (by omega)];obtain⟨k1,k2,k3,k4⟩:=key (0-n) (by unfold absI;rw[if_pos h];omega) (by omega);refine c_t k1 fun x=>c_t (jaa ⟨v4,by omega,v3⟩) (c_t (jaa ⟨k2,k3,hbw.1,by have:=hbw.2;show jf0 ⟨k,p,q,w,u⟩≤1000;omega⟩) ?_)
   rw[k4];rfl
  ·have h:=jac h;obtain⟨k1,k2,k3,k4⟩:=key n (by unfold absI;rw[if_neg h]) (by omega);refine c_t k1 fun x=>c_t (jaa ⟨v4,by omega,v3⟩) (c_t (jaa ⟨k2,k3,hbw.1,by have:=hbw.2;show jf0 ⟨k,p,q,w,u⟩≤1000;omega⟩) ?_)
   rw[k4];rfl
 ·rename_i s;simp only[Option.some.injEq,Prod.mk.injEq]at hs;obtain⟨-,rfl⟩:=hs;refine⟨rfl,jag,?_⟩;rw[ja5,x170b]
 ·rename_i s;simp only[Option.some.injEq,Prod.mk.injEq,jae]at hs;obtain⟨h1,rfl⟩:=hs;refine⟨rfl,jag,?_⟩;rw[ja5,x170c];delta ax dt az co ay am bq;refine c_t (jaa h1) (cond_intro (fun h=> ?_) (fun h=> ?_))
  ·rw[if_pos h,if_pos h]
  ·rw[if_neg (by rw[h];decide),if_neg (by rw[h];decide)]
 ·cases hs
theorem ok169:jan Tryz.prog 231 (sp3 s169):=by
 refine jkh ok_K9p hmix fn169 jaj jag fun s n c hc=> ?_
 have hc:(decide (0≤n∧n≤1000) &&oneB c)=true:=hc;simp only[jaf,jae]at hc;obtain⟨⟨h0,h1⟩,ho⟩:=hc;obtain⟨ch,hc1,hc2⟩:=jef ho;rw[ja5];have hx:=x169 s n c (fun v=>v=(s169 s n c).2);rw[show(Enc.enc s:Value)= .string s from rfl,show(Enc.enc n:Value)= .int .i64 n from rfl,show(Enc.enc c:Value)= .string c from rfl,hx]
 have hb:bz c=[(bz c).getD 0 0]:=by
  have:c.size=1:=by rw[hc1];rfl
  have hl:(bz c).length=1:=by rw[jam];exact this
  match hq:bz c,hl with
  | [a],_=>rfl
 generalize hd:(bz c).getD 0 0=d at hb;have hcs:c.size=1:=by rw[←jam,hb];rfl
 show _;unfold s169;rw[hd];apply cond_intro<;>intro h
 ·have h:=jab h;refine c_t (jaa (by omega)) ?_;rw[jdi,show n.toNat-(bz s).length=0 by rw[jam];omega,List.replicate_zero,List.append_nil,←jgu,jcl,jf3]
 ·have h:=jac h;rw[w64 (n:=n-(s.size:Int)) (by omega)];refine c_t (jaa ⟨by omega,by omega,by omega⟩) fun s' e=> ?_
  rw[hb,jdk]at e;have hdB:IsB [d]:=by rw[←hb];exact jdb c
  have hrB:IsB (List.replicate (n-(s.size:Int)).toNat d):=fun x hx=>by rw[List.eq_of_mem_replicate hx];exact hdB d (List.mem_singleton.2 rfl)
  have b':bz s'=List.replicate (n-(s.size:Int)).toNat d:=by rw[←e,jco hrB]
  have z':s'.size=(n-(s.size:Int)).toNat:=by rw[←jam,b',List.length_replicate]
  refine c_t (fitN (by omega)) ?_;rw[jdi,List.take_of_length_le (by rw[jam];omega),show n.toNat-(bz s).length=(n-(s.size:Int)).toNat by rw[jam];omega,←b',←jbr,jcl,jf3]
structure NumIs (x y:Num):Prop where
 h:x=y
structure RdIs (s:Y)(x:Option Num):Prop where
 h:rdN (bz s)=x
structure StrIs (x:J)(s:Y):Prop where
 h:szO x=s
structure BitsIs (s:Y)(b:Bool):Prop where
 h:jca (bz s)=b
theorem jdc{P:Program}{f:FuncId}{s:Ab.Spec}(h:jan P f s){H:F→Lk→Nat→(Value→Lk→Nat→Prop)→Prop}
  (hH:∀args m n K,H args m n K→ ∃v,s args (args.map (blkOf m))=some (true,v)∧plain v=true∧K v m n):jcw P f H:=by
 obtain⟨hc,hp⟩:=h;refine⟨hc,fun args m n K hh N w0 ι w hrel hwf hargs=> ?_⟩;obtain⟨v,hs,hv,hk⟩:=hH args m n K hh;refine(hp args v N w0 m ι w hrel hs hv).mono fun e' w' ⟨h1,h2⟩=> ?_
 exact⟨v,m,n,ι,by rw[h1,ja3 _ hv],hk,Nat.le_refl _,fun _ _=>rfl,hrel.grow h2,hwf,by simp[jbi hv]⟩
def jl1:F→Lk→Nat→(Value→Lk→Nat→Prop)→Prop:=fun args m n K=>match args with
 | [.iface 241 (.agg ⟨[.int .i64 a,.int .i64 _,.int .i64 _,.int .i64 q,.bool _,.string _]⟩)]=>match cnd (decide (-2147483648≤a∧a≤2147483648∧0≤q∧q≤9))with
  | true=>∀x:Num,NumIs (numA a q) x→K (.tuple ⟨[numV x,.nilIface]⟩) m n
  | false=>False
 | [.iface 242 (.string s)]=>match cnd (jca (bz s) &&decide (s.size≤64))with
  | true=>∀x:Num,NumIs (ja1 false (binD (bz s)) 0) x→K (.tuple ⟨[numV x,.nilIface]⟩) m n
  | false=>False
 | [.iface 245 (.string s)]=>match cnd (decide (s.size≤9223372036854775807))with
  | true=>(∀x:Num,RdIs s (some x)→K (.tuple ⟨[numV x,.nilIface]⟩) m n)∧(RdIs s none→K (.tuple ⟨[.agg ⟨[.bool false,.string ⟨#[]⟩,.int .i64 0]⟩,.iface 210 (.agg ⟨[.string s]⟩)]⟩) m n)
  | false=>False
 | _=>False
theorem gen_hid222:jcw Tryz.prog 277 jl1:=by
 refine jdc ok222 fun args m n K hh=> ?_
 unfold jl1 at hh;split at hh
 ·split at hh
  case h_2=>exact hh.elim
  rename_i hcc;exact⟨_,congrArg some (Prod.ext hcc rfl),rfl,hh _ ⟨rfl⟩⟩
 ·split at hh
  case h_2=>exact hh.elim
  rename_i hcc;exact⟨_,congrArg some (Prod.ext hcc rfl),rfl,hh _ ⟨rfl⟩⟩
 ·split at hh
  case h_2=>exact hh.elim
  rename_i s _ hcc;cases hr:rdN (bz s)with
  | some x=>
   refine⟨_,congrArg some (Prod.ext hcc rfl),?_,?_⟩
   ·rw[hr];rfl
   ·rw[hr];exact hh.1 x ⟨hr⟩
  | none=>
   refine⟨_,congrArg some (Prod.ext hcc rfl),?_,?_⟩
   ·rw[hr];rfl
   ·rw[hr];have:=hh.2 ⟨hr⟩;rw[←jdv]at this;exact this
 ·exact hh.elim
def jl2:F→Lk→Nat→(Value→Lk→Nat→Prop)→Prop:=fun args m n K=>match args with
 | [.iface 241 (.agg ⟨[.int .i64 a,.int .i64 k,.int .i64 p,.int .i64 q,.bool w,.string u]⟩)]=>match cnd (decide (ja9 ⟨k,p,q,w,u⟩∧ -2147483648≤a∧a≤2147483648))with
  | true=>∀s:Y,StrIs (inB (jf0 ⟨k,p,q,w,u⟩).toNat (divT q.toNat (absI a))) s→K (.tuple ⟨[S s,.nilIface]⟩) m n
  | false=>False
 | [.iface 242 (.string s)]=>K (.tuple ⟨[S s,.nilIface]⟩) m n
 | [.iface 245 (.string s)]=>match cnd (decide (s.size≤9223372036854775807))with
  | true=>(BitsIs s true→K (.tuple ⟨[S s,.nilIface]⟩) m n)∧(BitsIs s false→K (.tuple ⟨[S ⟨#[]⟩,.iface 210 (.agg ⟨[.string s]⟩)]⟩) m n)
  | false=>False
 | _=>False
theorem gen_hid170:jcw Tryz.prog 232 jl2:=by
 refine jdc ok170 fun args m n K hh=> ?_
 unfold jl2 at hh;split at hh
 ·split at hh
  case h_2=>exact hh.elim
  rename_i hcc;exact⟨_,congrArg some (Prod.ext hcc rfl),rfl,hh _ ⟨rfl⟩⟩
 ·exact⟨_,rfl,rfl,hh⟩
 ·split at hh
  case h_2=>exact hh.elim
  rename_i s _ hcc;cases hr:jca (bz s)with
  | true=>
   refine⟨_,congrArg some (Prod.ext hcc rfl),?_,?_⟩
   ·rw[hr];rfl
   ·rw[hr];exact hh.1 ⟨hr⟩
  | false=>
   refine⟨_,congrArg some (Prod.ext hcc rfl),?_,?_⟩
   ·rw[hr];rfl
   ·rw[hr];exact hh.2 ⟨hr⟩
 ·exact hh.elim
instance tabsU:Tabs:=tabs
def Ua:Env:=(Env.nil.add 125 (sp2 Px.s22)).add 172 (sp1 Px.s46)
def Ub:Env:=((Env.nil.addG 277 jl1).addG 232 jl2).addG 281 (inlQ Tryz.prog Ua noL Tryz.f281)
theorem ok_Ua:ja0 Tryz.prog Ua:=jak (jak jav Px.ok22) Px.ok46
theorem ok_Ub:ja0 Tryz.prog Ub:=jau (jau (jau jav gen_hid222) gen_hid170) (jbd ok_Ua hmix (.m Tryz.func281) jaj)
def j3(a b:Y):Int:=(rdV (bz a) (bz b)).fst
theorem u222(s:Y)(p:Y)(R:Value→Prop):(jaz Tryz.prog Ub noL Tryz.f277 [.iface 244 (.agg ⟨[.string s,.string p]⟩)] (fun _=>none) 0 (fun v _ _=>R v))=(bif j6 s p then dt (km (-2147483648) (j3 p s) 2147483648 0 (pQ (bz p)) 9) p (∀a:Cv.Num,NumIs (numA (j3 p s) (pQ (bz p))) a→co [ay (k8 (Prod.fst a) (Prod.snd a)),Value.nilIface] R) False else False):=by kernel_rfl
def lv(a:Fx.Ty)(b:Int):Bool:=decide (Fx.ja9 a∧ -(2147483648:Int)≤b∧b≤2147483648)
theorem u170(s:Y)(p:Y)(R:Value→Prop):(jaz Tryz.prog Ub noL Tryz.f232 [.iface 244 (.agg ⟨[.string s,.string p]⟩)] (fun _=>none) 0 (fun v _ _=>R v))=(bif j6 s p then dt (lv (Fx.Ty.mk (tyK (bz p)) (tyP (bz p)) (pQ (bz p)) false am) (j3 p s)) p (∀a:Y,StrIs (inB (jf0 (Fx.Ty.mk (tyK (bz p)) (tyP (bz p)) (pQ (bz p)) false am)).toNat (divT (pQ (bz p)).toNat (absI (j3 p s)))) a→co [.string a,Value.nilIface] R) False else False):=by kernel_rfl
theorem jmt{s t:Y}(h:pN (bz s)=true): -1000000000<(rdV (bz s) (bz t)).1∧(rdV (bz s) (bz t)).1<1000000000:=by
 have hp:=jed h;have hv:=jmw (jiy s) h (rdA (bz s) (bz t));obtain⟨g1,g2,g3,g4,g5,g6⟩:=hv;have hr:0≤rdA (bz s) (bz t)∧rdA (bz s) (bz t)<1000000000:=jha _ _ 0 0 (by omega) (by decide) (by omega);unfold rdV;rw[if_pos h]
 repeat' split
 all_goals (simp only;omega)
abbrev pT(p:Y):Ty:=⟨tyK (bz p),tyP (bz p),pQ (bz p),false,⟨#[]⟩⟩
theorem pT_v{p:Y}(h:pN (bz p)=true):ja9 (pT p)∧0≤pQ (bz p)∧pQ (bz p)≤9:=by
 obtain⟨h1,h2,h3,h4⟩:=jed h;have hv:=jdh h
 have e:tyK (bz p)=1∧tyP (bz p)=pD (bz p):=by
  unfold tyK tyP;rw[if_pos hv,if_pos hv,if_pos h,if_pos h];exact⟨rfl,rfl⟩
 refine⟨⟨.inl e.1,?_,?_,h3,?_,?_,rfl,by rw[ByteArray.toList_eq]⟩,h3,by omega⟩
 ·show 1≤tyP (bz p);omega
 ·show tyP (bz p)≤most (tyK (bz p));rw[e.1];unfold most;rw[if_pos rfl];omega
 ·show pQ (bz p)≤tyP (bz p);omega
 ·show tyK (bz p)=2→_;omega
def s222s:Ab.Spec:=fun args _=>match args with
 | [.iface 244 (.agg ⟨[.string s,.string p]⟩)]=>some (pN (bz p) &&decide (s.size≤9223372036854775807∧p.size≤9223372036854775807),.tuple ⟨[numV (numA (rdV (bz p) (bz s)).1 (pQ (bz p))),.nilIface]⟩)
 | _=>none
theorem ok222s:jan Tryz.prog 277 s222s:=by
 refine jc7 ok_Ub hmix fn222 jaj fun args bs v hs=> ?_
 unfold s222s at hs;split at hs
 case h_2=>cases hs
 rename_i s p;simp only[Option.some.injEq,Prod.mk.injEq,jaf,jae]at hs;obtain⟨⟨hn,h1,h2⟩,rfl⟩:=hs;refine⟨rfl,jag,?_⟩;rw[ja5,u222];delta ax dt az co ay k8 j3 km ii j6;have hr:=jmt (t:=s) hn;have hp:=pT_v hn;exact c_t (jaa ⟨h2,h1⟩) (c_t (jaa h2) (c_t (jaa (by omega)) fun x hx=>by rw[←hx.h]))
def s170s:Ab.Spec:=fun args _=>match args with
 | [.iface 244 (.agg ⟨[.string s,.string p]⟩)]=>some (pN (bz p) &&decide (s.size≤9223372036854775807∧p.size≤9223372036854775807),.tuple ⟨[S (szO (inB (jf0 (pT p)).toNat (divT (pQ (bz p)).toNat (absI (rdV (bz p) (bz s)).1)))),.nilIface]⟩)
 | _=>none
theorem ok170s:jan Tryz.prog 232 s170s:=by
 refine jc7 ok_Ub hmix fn170 jaj fun args bs v hs=> ?_
 unfold s170s at hs;split at hs
 case h_2=>cases hs
 rename_i s p;simp only[Option.some.injEq,Prod.mk.injEq,jaf,jae]at hs;obtain⟨⟨hn,h1,h2⟩,rfl⟩:=hs;refine⟨rfl,jag,?_⟩;rw[ja5,u170];delta ax dt az co j3 am lv ii j6;have hr:=jmt (t:=s) hn;have hp:=pT_v hn;exact c_t (jaa ⟨h2,h1⟩) (c_t (jaa h2) (c_t (jaa ⟨hp.1,by omega,by omega⟩) fun x hx=>by rw[←hx.h]))
def jn1:F→Lk→Nat→(Value→Lk→Nat→Prop)→Prop:=fun args m n K=>match args with
 | [.iface 244 (.agg ⟨[.string s,.string p]⟩)]=>match cnd (pN (bz p) &&decide (s.size≤9223372036854775807∧p.size≤9223372036854775807))with
  | true=>∀x:Num,NumIs (numA (rdV (bz p) (bz s)).1 (pQ (bz p))) x→K (.tuple ⟨[numV x,.nilIface]⟩) m n
  | false=>False
 | _=>jl1 args m n K
def jn3:F→Lk→Nat→(Value→Lk→Nat→Prop)→Prop:=fun args m n K=>match args with
 | [.iface 244 (.agg ⟨[.string s,.string p]⟩)]=>match cnd (pN (bz p) &&decide (s.size≤9223372036854775807∧p.size≤9223372036854775807))with
  | true=>∀b:Y,StrIs (inB (jf0 (pT p)).toNat (divT (pQ (bz p)).toNat (absI (rdV (bz p) (bz s)).1))) b→K (.tuple ⟨[S b,.nilIface]⟩) m n
  | false=>False
 | _=>jl2 args m n K
theorem gen_two{f:FuncId}{H1 H2 H:F→Lk→Nat→(Value→Lk→Nat→Prop)→Prop}(h1:jcw Tryz.prog f H1)(h2:jcw Tryz.prog f H2)(h:∀args m n K,H args m n K→H1 args m n K∨H2 args m n K):jcw Tryz.prog f H:=
 ⟨h1.1,fun args m n K hh=>(h args m n K hh).elim (fun q=>h1.2 args m n K q) (fun q=>h2.2 args m n K q)⟩
def hs222:F→Lk→Nat→(Value→Lk→Nat→Prop)→Prop:=fun args m n K=>match args with
 | [.iface 244 (.agg ⟨[.string s,.string p]⟩)]=>match cnd (pN (bz p) &&decide (s.size≤9223372036854775807∧p.size≤9223372036854775807))with
  | true=>∀x:Num,NumIs (numA (rdV (bz p) (bz s)).1 (pQ (bz p))) x→K (.tuple ⟨[numV x,.nilIface]⟩) m n
  | false=>False
 | _=>False
theorem gen_hs222:jcw Tryz.prog 277 hs222:=by
 refine jdc ok222s fun args m n K hh=> ?_
 unfold hs222 at hh;split at hh
 case h_2=>exact hh.elim
 split at hh
 case h_2=>exact hh.elim
 rename_i hcc;exact⟨_,congrArg some (Prod.ext hcc rfl),rfl,hh _ ⟨rfl⟩⟩
theorem gen_hu222:jcw Tryz.prog 277 jn1:=gen_two gen_hs222 gen_hid222 fun args m n K hh=>by
 unfold jn1 at hh;split at hh
 ·exact .inl hh
 ·exact .inr hh
def hs170:F→Lk→Nat→(Value→Lk→Nat→Prop)→Prop:=fun args m n K=>match args with
 | [.iface 244 (.agg ⟨[.string s,.string p]⟩)]=>match cnd (pN (bz p) &&decide (s.size≤9223372036854775807∧p.size≤9223372036854775807))with
  | true=>∀b:Y,StrIs (inB (jf0 (pT p)).toNat (divT (pQ (bz p)).toNat (absI (rdV (bz p) (bz s)).1))) b→K (.tuple ⟨[S b,.nilIface]⟩) m n
  | false=>False
 | _=>False
theorem gen_hs170:jcw Tryz.prog 232 hs170:=by
 refine jdc ok170s fun args m n K hh=> ?_
 unfold hs170 at hh;split at hh
 case h_2=>exact hh.elim
 split at hh
 case h_2=>exact hh.elim
 rename_i hcc;exact⟨_,congrArg some (Prod.ext hcc rfl),rfl,hh _ ⟨rfl⟩⟩
theorem gen_hu170:jcw Tryz.prog 232 jn3:=gen_two gen_hs170 gen_hid170 fun args m n K hh=>by
 unfold jn3 at hh;split at hh
 ·exact .inl hh
 ·exact .inr hh
structure EdIs (p:Y)(n q:Int)(x:Y×Bool×Int):Prop where
 h:(sz (edS (bz p) n q),edF (bz p) n q,edE (bz p) q)=x
def jn2:F→Lk→Nat→(Value→Lk→Nat→Prop)→Prop:=fun args m n K=>match args with
 | [.int .i64 a,.int .i64 q,.string p]=>match cnd (decide (p.size≤9223372036854775807∧ -9223372036854775808≤a∧a≤9223372036854775807))with
  | true=>∀(s:Y)(b:Bool)(e:Int),EdIs p a q (s,b,e)→K (.tuple ⟨[S s,B b,I e]⟩) m n
  | false=>False
 | _=>False
theorem gen_hu171:jcw Tryz.prog 233 jn2:=by
 refine jdc Px.ok20 fun args m n K hh=> ?_
 unfold jn2 at hh;split at hh
 case h_2=>exact hh.elim
 split at hh
 case h_2=>exact hh.elim
 rename_i hcc;exact⟨_,congrArg some (Prod.ext hcc rfl),rfl,hh _ _ _ ⟨rfl⟩⟩
structure HoIs (p s:Y)(b:Bool):Prop where
 h:hoZ (bz p) (bz s)=b
def hu72:F→Lk→Nat→(Value→Lk→Nat→Prop)→Prop:=fun args m n K=>match args with
 | [.string p,.string s]=>match cnd (decide (p.size≤9223372036854775807∧s.size≤9223372036854775807))with
  | true=>∀b:Bool,HoIs p s b→K (B b) m n
  | false=>False
 | _=>False
theorem gen_hu72:jcw Tryz.prog 75 hu72:=by
 refine jdc Px.ok24 fun args m n K hh=> ?_
 unfold hu72 at hh;split at hh
 case h_2=>exact hh.elim
 split at hh
 case h_2=>exact hh.elim
 rename_i hcc;exact⟨_,congrArg some (Prod.ext hcc rfl),rfl,hh _ ⟨rfl⟩⟩
instance tabsU4:Tabs:=tabs
def s323u:Ab.Spec:=fun args _=>match args with
 | [.agg ⟨[.string s,.string _]⟩]=>some (true,.string s)
 | _=>none
def U0:Env:=(Env.nil.add 278 (sp2 s26)).addG 277 jn1
def U1:Env:=((((((((((Env.nil.add 338 (sp1 s321)).addG 232 jn3).addG 231 (hideS (sp3 s169))).addG 233 jn2).addG 75 hu72).add 170 (sp1 Px.s31)).add 172 (sp1 Px.s46)).add 340 (sp1 s322)).add 341 s323u).add 342 (sp1 s324)).addG 230 (inlQ Tryz.prog U0 noL Tryz.f230)
theorem u323(s p:Y)(R:Value→Prop):jaz Tryz.prog Env.nil noL Tryz.f341 [.agg ⟨[.string s,.string p]⟩] (fun _=>none) 0 (fun v _ _=>R v)=R (Value.string s):=by kernel_rfl
theorem ok323u:jan Tryz.prog 341 s323u:=by
 refine jc7 jav hmix (.m Tryz.func341) jaj fun args bs v hs=> ?_
 unfold s323u at hs;split at hs
 case h_2=>cases hs
 cases hs;refine⟨rfl,jag,?_⟩;rw[ja5,u323]
theorem ok_U0:ja0 Tryz.prog U0:=jau (jak jav ok26) gen_hu222
theorem ok_U1:ja0 Tryz.prog U1:=jau (jak (jak (jak (jak (jak (jau (jau (jau (jau (jak jav ok321) gen_hu170) (jfb ok169)) gen_hu171) gen_hu72) Px.ok31) Px.ok46) ok322) ok323u) ok324) (jbd ok_U0 hmix fn168 jaj)
abbrev tp3(a:Int)(s:Y)(c:Int)(e:Value):Value:= .tuple ⟨[.agg ⟨[I a,S s]⟩,I c,e]⟩
abbrev er(s:Y):Value:= .iface 210 (.agg ⟨[.string s]⟩)
def tlA(R:Value→Prop)(t:Ty)(x:Num):Prop:=bif decide (ByteArray.size (szO x.2.1)≤9223372036854775807)then R (tp3 (tkV x.1 (bz (szO x.2.1)) x.2.2 t).1 ⟨#[]⟩ (tkV x.1 (bz (szO x.2.1)) x.2.2 t).2.1 .nilIface)else False
def tlC(R:Value→Prop)(t:Ty)(s:Y):Prop:=bif !t.v || true then bif !t.v || decide ((↑(ByteArray.size s):Int)>t.p)then bif decide (0≤t.p∧t.p≤1000) &&true then
  ∀s':Y,szO (jdi (bz s) (Int.toNat t.p) (List.getD (bz (ByteArray.mk #[32])) 0 0))=s'→R (tp3 0 s' 0 .nilIface)else False else R (tp3 0 s 0 .nilIface)else False
def tlB(R:Value→Prop)(t:Ty)(e:Value)(s:Y):Prop:=bif decide (0≤t.p∧t.p≤1000) &&true then
  ∀s':Y,szO (jdi (bz s) (Int.toNat t.p) (List.getD (bz (ByteArray.mk #[48])) 0 0))=s'→R (tp3 0 s' 0 e)else False
def tlX(R:Value→Prop)(t:Ty)(s:Y):Prop:=bif decide (0≤tyP (bz t.s)∧tyP (bz t.s)≤1000) &&true then
  ∀s':Y,szO (jdi (bz s) (Int.toNat (tyP (bz t.s))) (List.getD (bz (ByteArray.mk #[32])) 0 0))=s'→bif decide (ByteArray.size t.s≤9223372036854775807∧ByteArray.size s'≤9223372036854775807)then
   ∀b:Bool,HoIs t.s s' b→bif !b then R (tp3 0 ⟨#[]⟩ 0 (er s'))else R (tp3 0 s' 0 .nilIface)else False else False
def tlE(R:Value→Prop)(t:Ty)(x:Num):Prop:=bif decide (ByteArray.size (szO x.2.1)≤9223372036854775807)then bif decide (ByteArray.size t.s≤9223372036854775807∧ -9223372036854775808≤(tkV x.1 (bz (szO x.2.1)) x.2.2 (pT t.s)).1∧(tkV x.1 (bz (szO x.2.1)) x.2.2 (pT t.s)).1≤9223372036854775807)then
  ∀(s:Y)(b:Bool)(e:Int),EdIs t.s (tkV x.1 (bz (szO x.2.1)) x.2.2 (pT t.s)).1 (pQ (bz t.s)) (s,b,e)→bif !b then R (tp3 0 s 1 .nilIface)else R (tp3 0 s (tkV x.1 (bz (szO x.2.1)) x.2.2 (pT t.s)).2.1 .nilIface)else False else False
def skU(R:Value→Prop)(t:Ty)(nm:(Num→Prop)→Prop)(tx:(Y→Prop)→Prop)(bt:Prop):Prop:=
 bif t.k==1 then nm (tlA R t)else bif t.k==2 then nm (tlA R t)else bif t.k==3 then tx (tlC R t)else bif t.k==4 then bt else
 bif decide (ByteArray.size t.s≤9223372036854775807)then bif decide (ByteArray.size t.s≤9223372036854775807)then bif !pN (bz t.s)then tx (tlX R t)∧tx (tlX R t)∧tx (tlX R t)else nm (tlE R t)else False else False
theorem u99_w(n k p q:Int)(w:Bool)(u:Y)(t:Ty)(R:Value→Prop):jaz Tryz.prog U1 noL Tryz.f167 [.iface 241 (.agg ⟨[.int .i64 n,.int .i64 k,.int .i64 p,.int .i64 q,.bool w,.string u]⟩),Enc.enc t] (fun _=>none) 0 (fun v _ _=>R v)=(skU R t (fun a=>bif km (-2147483648) n 2147483648 0 q 9 then∀b:Cv.Num,NumIs (numA n q) b→a b else False) (fun a=>bif lv (Fx.Ty.mk k p q w u) n then a (szO (txtZ n (Fx.Ty.mk k p q w u)))else False) (bif lv (Fx.Ty.mk k p q w u) n then∀a:Y,StrIs (inB (jf0 (Fx.Ty.mk k p q w u)).toNat (divT q.toNat (absI n))) a→tlB R t Value.nilIface a else False)):=by kernel_rfl
theorem u99_b(s:Y)(t:Ty)(R:Value→Prop):jaz Tryz.prog U1 noL Tryz.f167 [.iface 242 (.string s),Enc.enc t] (fun _=>none) 0 (fun v _ _=>R v)=(skU R t (fun a=>bif jca (bz s) &&decide (s.size≤64)then∀b:Cv.Num,NumIs (ja1 false (binD (bz s)) 0) b→a b else False) (fun a=>a s) (tlB R t Value.nilIface s)):=by kernel_rfl
theorem u99_c(s:Y)(t:Ty)(R:Value→Prop):jaz Tryz.prog U1 noL Tryz.f167 [.iface 245 (.string s),Enc.enc t] (fun _=>none) 0 (fun v _ _=>R v)=(skU R t (fun a=>bif ax s then(∀b:Cv.Num,RdIs s (some b)→a b)∧(RdIs s none→R (tp3 0 am 0 (er s)))else False) (fun a=>a s) (bif ax s then(BitsIs s true→tlB R t Value.nilIface s)∧(BitsIs s false→tlB R t (er s) am)else False)):=by kernel_rfl
theorem u99_p(s pc:Y)(t:Ty)(R:Value→Prop):jaz Tryz.prog U1 noL Tryz.f167 [.iface 244 (.agg ⟨[.string s,.string pc]⟩),Enc.enc t] (fun _=>none) 0 (fun v _ _=>R v)=(skU R t (fun a=>bif pN (bz pc) &&j6 pc s then∀b:Cv.Num,NumIs (numA (j3 pc s) (pQ (bz pc))) b→a b else False) (fun a=>a s) (bif pN (bz pc) &&j6 pc s then∀a:Y,StrIs (inB (jf0 (pT pc)).toNat (divT (pQ (bz pc)).toNat (absI (j3 pc s)))) a→tlB R t Value.nilIface a else False)):=by kernel_rfl
end Go.Cx
end
noncomputable section
namespace Go.Cx
open Go Go.Ab Go.Proofs Go.Shelf Go.Px Go.Cv
theorem nz_len(l:J):(nz l).length≤l.length:=Nat.le_trans (jkd _ _) (je2 _ _)
theorem jf9(g:Bool)(l:J)(q:Int):(ja1 g l q).2.1.length≤l.length:=by
 unfold ja1;split
 ·simp
 ·exact nz_len l
theorem decR_len{g:Bool}{l:J}{x:Num}(h:decR ja1 g l=some x):x.2.1.length≤l.length+l.length:=by
 rw[decR_eq]at h;cases hd:decE l with
 | none=>rw[hd]at h;cases h
 | some e=>
  rw[hd]at h;have h:decB g (Cv.ahead 69 l) e=some x:=h;unfold decB at h;split at h
  ·cases h;refine Nat.le_trans (jf9 _ _ _) ?_;have h1:=jhp 69 l;have h2:=jhp 46 (Cv.ahead 69 l)
   have h3:((past 46 (Cv.ahead 69 l)).getD []).length≤l.length:=by
    rw[jhy];split
    ·rw[Option.getD_some,List.length_drop];omega
    ·simp
   rw[List.length_append];omega
  ·cases h
theorem jj9{g:Bool}{l:J}{x:Num}(hl:l.length≤255)(h:bodR ja1 binD g l=some x):x.2.1.length≤600:=by
 unfold bodR at h;split at h
 ·split at h
  ·rename_i q;cases h;refine Nat.le_trans (jf9 _ _ _) ?_;have hr:=bin_31 q.2 (by rw[List.length_dropLast];exact q.1);rw[binD,decZ,zl,List.length_map];have:=jhk 9 (binG l.dropLast 0).toNat (by omega);omega
  ·cases h
 ·have:=decR_len h;omega
theorem rdN_len(l:J):((rdN l).getD num0).2.1.length≤600:=by
 cases h:rdN l with
 | none=>simp[num0]
 | some x=>
  rw[Option.getD_some];unfold rdN at h;split at h
  ·cases h
  rename_i hl;have h1:=jkd (tlZ l 32) 32;have h2:=je2 l 32;unfold numR at h;rw[trL_eq,trR_eq]at h;generalize trZ (tlZ l 32) 32=u at h h1;unfold sgnR at h;split at h
  ·cases h;simp
  ·rename_i r _;exact jj9 (by simp at h1;omega) h
  ·rename_i r _;exact jj9 (by simp at h1;omega) h
  ·exact jj9 (by omega) h
end Go.Cx
end
noncomputable section
namespace Go.Cx
open Go Go.Ab Go.Px Go.Cv
open Go.Fx (Ty Vl check ja9 most base pw bnd Fit fits scl cutN cutC InB)
theorem jd9:∀(l:J)(a:Int),decG l a=a*10^l.length+decG l 0
 | [],a=>by simp[decG]
 | c::r,a=>by
  rw[decG,decG,jd9 r (10*a+(c-48)),jd9 r (10*0+(c-48)),List.length_cons,Int.pow_succ];grind
theorem jcs(l r:J)(a:Int):decG (l++r) a=decG r (decG l a):=by
 rw[jin,jin,jin,List.foldl_append]
theorem jd8:∀(k:Nat)(a:Int),decG (rep48 k) a=a*10^k
 | 0,a=>by simp[rep48,decG]
 | k+1,a=>by
  rw[rep48,List.replicate_succ,decG,←rep48,jd8 k,Int.pow_succ];grind
theorem jli:∀(l:J)(a:Int),ja7 l=true→0≤a→a≤decG l a
 | [],a,_,_=>by simp[decG]
 | c::r,a,h,h0=>by
  simp only[ja7,List.all_cons,jaf]at h;have hc:48≤c∧c≤57:=by simpa[dig]using h.1
  rw[decG];have:=jli r (10*a+(c-48)) h.2 (by omega);omega
theorem jim:∀(l:J),ja7 l=true→decG l 0<10^l.length
 | [],_=>by simp[decG]
 | c::r,h=>by
  simp only[ja7,List.all_cons,jaf]at h;have hc:48≤c∧c≤57:=by simpa[dig]using h.1
  have ih:=jim r h.2;have hp:(0:Int)<10^r.length:=Int.pow_pos (by decide);rw[decG,jd9,List.length_cons,Int.pow_succ];have:(10*0+(c-48))*10^r.length≤9*(10:Int) ^r.length:=Int.mul_le_mul_of_nonneg_right (by omega) (by omega);omega
theorem jhj(l:J)(h:ja7 l=true):0≤decG l 0:=jli l 0 h (Int.le_refl _)
theorem decG_mod{b:Int}(l:J)(y:Int):decG l (y%b)%b=decG l y%b:=by
 rw[jd9 l (y%b),jd9 l y,Int.add_emod,Int.mul_emod,Int.emod_emod_of_dvd y (Int.dvd_refl b),←Int.mul_emod,←Int.add_emod]
theorem jmp{b:Int}(hb:0<b):∀(l:J)(x k:Int),ja7 l=true→0≤x∧x<b→(tkGo b l x k).1=decG l x%b
 | [],x,k,_,hx=>by simp only[tkGo,decG];exact(Int.emod_eq_of_lt hx.1 hx.2).symm
 | c::r,x,k,h,hx=>by
  simp only[ja7,List.all_cons,jaf]at h;have hc:48≤c∧c≤57:=by simpa[dig]using h.1
  have h0:0≤10*x+(c-48):=by omega
  rw[tkGo,decG];split
  ·have e:(10*x+(c-48)).tmod b=(10*x+(c-48))%b:=Int.tmod_eq_emod_of_nonneg h0;rw[e,jmp hb r _ _ h.2 ⟨Int.emod_nonneg _ (by omega),Int.emod_lt_of_pos _ hb⟩,decG_mod]
  ·exact jmp hb r _ _ h.2 ⟨h0,by omega⟩
theorem tk_one{b:Int}:∀(l:J)(x:Int),(tkGo b l x 1).2=1
 | [],x=>rfl
 | c::r,x=>by rw[tkGo];split<;>exact tk_one r _
theorem tk_snd{b:Int}(hb:0<b):∀(l:J)(x k:Int),ja7 l=true→0≤x∧x<b→(tkGo b l x k).2=if decG l x<b then k else 1
 | [],x,k,_,hx=>(if_pos hx.2).symm
 | c::r,x,k,h,hx=>by
  simp only[ja7,List.all_cons,jaf]at h;have hc:48≤c∧c≤57:=by simpa[dig]using h.1
  have h0:0≤10*x+(c-48):=by omega
  rw[tkGo,decG];split
  ·have:=jli r _ h.2 h0;rw[tk_one,if_neg (by omega)]
  ·exact tk_snd hb r _ _ h.2 ⟨h0,by omega⟩
theorem decG_take{l:J}(h:ja7 l=true){k:Nat}(hk:k≤l.length):decG (l.take (l.length-k)) 0=decG l 0/10^k:=by
 have e:decG l 0=decG (l.take (l.length-k)) 0*10^k+decG (l.drop (l.length-k)) 0:=by
  have:=jcs (l.take (l.length-k)) (l.drop (l.length-k)) 0;rw[List.take_append_drop,jd9 (l.drop _)]at this;rw[this,List.length_drop,show l.length-(l.length-k)=k by omega]
 have hd:ja7 (l.drop (l.length-k))=true:=List.all_eq_true.2 fun c hc=>List.all_eq_true.1 h c (List.drop_subset _ _ hc)
 have h1:=jhj _ hd;have h2:=jim _ hd;rw[List.length_drop,show l.length-(l.length-k)=k by omega]at h2;rw[e,Int.add_comm,Int.add_mul_ediv_right _ _ (by have:(0:Int)<10^k:=Int.pow_pos (by decide);omega),Int.ediv_eq_zero_of_lt h1 h2,Int.zero_add]
def shf(m d:Int):Int:=if 0≤d then m*10^d.toNat else m/10^ (-d).toNat
theorem jkz{ds:J}{sc q:Int}(h:ja7 ds=true):decG (plcR ds sc q) 0=shf (decG ds 0) (q-sc):=by
 unfold plcR plcZ shf;by_cases he:ds=[]
 ·subst he;rw[if_pos rfl,List.take_nil];have:decG [] 0=0:=rfl;rw[this];split<;>simp
 ·rw[if_neg he];split
  ·have e:((ds++rep48 (q-sc).toNat).length-max 0 (min ((ds++rep48 (q-sc).toNat).length:Int) (sc-q))).toNat=(ds++rep48 (q-sc).toNat).length:=by omega
   rw[e,List.take_of_length_le (Nat.le_refl _),jcs,jd8]
  ·have e:(q-sc).toNat=0:=by omega
   rw[e,show rep48 0=[]from rfl,List.append_nil];by_cases hl:(sc-q).toNat≤ds.length
   ·have e2:((ds.length:Int)-max 0 (min (ds.length:Int) (sc-q))).toNat=ds.length-(-(q-sc)).toNat:=by omega
    rw[e2,decG_take h (by omega)]
   ·have e2:((ds.length:Int)-max 0 (min (ds.length:Int) (sc-q))).toNat=0:=by omega
    rw[e2,List.take_zero];refine(Int.ediv_eq_zero_of_lt (jhj ds h) (Int.lt_of_lt_of_le (jim ds h) ?_)).symm;have:(10:Nat) ^ds.length≤10^ (-(q-sc)).toNat:=Nat.pow_le_pow_right (by decide) (by omega)
    exact_mod_cast this
theorem jmo(l:J):∃k,l=rep48 k++tlZ l 48:=by
 induction l with
 | nil=>exact⟨0,rfl⟩
 | cons c r ih=>
  by_cases h:c=48
  ·subst h;obtain⟨k,e⟩:=ih;refine⟨k+1,?_⟩;rw[tl_cons,rep48,List.replicate_succ,List.cons_append,←rep48,←e]
  ·exact⟨0,by rw[tl_ne h];rfl⟩
theorem jmm(l:J):∃k,l=trZ l 48++rep48 k∧l.length=(trZ l 48).length+k:=by
 obtain⟨k,e⟩:=jmo l.reverse;refine⟨k,?_,?_⟩
 ·have:=congrArg List.reverse e;rw[List.reverse_reverse,List.reverse_append,rep48,List.reverse_replicate,←rep48]at this;exact this
 ·have:=congrArg List.length e;rw[List.length_reverse,List.length_append,rep48,List.length_replicate]at this;rw[trZ,List.length_reverse];unfold tlZ at this;omega
theorem jmx(l:J):∃k:Nat,decG l 0=decG (nz l) 0*10^k∧(tlZ l 48).length=(nz l).length+k:=by
 obtain⟨j,e⟩:=jmo l;obtain⟨k,e2,e3⟩:=jmm (tlZ l 48);refine⟨k,?_,e3⟩
 have e1:decG l 0=decG (tlZ l 48) 0:=by
  have:=jcs (rep48 j) (tlZ l 48) 0;rw[←e,jd8,Int.zero_mul]at this;exact this
 rw[e1];have:=jcs (nz l) (rep48 k) 0;rw[jd8]at this;rw[←this];exact congrArg (decG · 0) e2
theorem shf_mul(m:Int)(k:Nat)(d:Int):shf m (d+k)=shf (m*10^k) d:=by
 unfold shf;have hp:∀n:Nat,(10:Int) ^n≠0:=fun n=>Int.ne_of_gt (Int.pow_pos (by decide))
 by_cases h:0≤d
 ·rw[if_pos h,if_pos (by omega),show(d+k).toNat=k+d.toNat by omega,Int.pow_add,Int.mul_assoc]
 ·rw[if_neg h];by_cases h2:0≤d+k
  ·rw[if_pos h2,show k=(d+k).toNat+(-d).toNat by omega,Int.pow_add,←Int.mul_assoc,Int.mul_ediv_cancel _ (hp _)];congr 2;omega
  ·rw[if_neg h2,show(-d).toNat=k+(-(d+k)).toNat by omega,Int.pow_add,Int.mul_comm m,Int.mul_ediv_mul_of_pos _ _ (Int.pow_pos (by decide))]
theorem jk0{l:J}(h:ja7 l=true):ja7 (nz l)=true:=List.all_eq_true.2 fun c hc=>by
 refine List.all_eq_true.1 h c ?_;unfold nz trZ at hc;rw[List.mem_reverse]at hc;have h1:=(List.dropWhile_sublist _).subset hc;rw[List.mem_reverse]at h1;exact(List.dropWhile_sublist _).subset h1
theorem norm_val{g:Bool}{l:J}{q Q:Int}(h:ja7 l=true):decG (plcR (ja1 g l q).2.1 (ja1 g l q).2.2 Q) 0=shf (decG l 0) (Q-q):=by
 obtain⟨k,e1,e2⟩:=jmx l;unfold ja1;by_cases h0:nz l=[]
 ·rw[if_pos h0,jkz rfl];rw[h0]at e1;rw[e1];have:decG [] 0=0:=rfl;rw[this,Int.zero_mul];unfold shf;split<;>split<;>simp
 ·rw[if_neg h0,jkz (jk0 h),e1,←shf_mul];congr 1;simp only;omega
theorem jlf{p:Int→Bool}:∀(l:J)(c:Int),(l.dropWhile p).head?=some c→p c=false
 | [],c,h=>by cases h
 | a::r,c,h=>by
  by_cases ha:p a=true
  ·rw[List.dropWhile_cons_of_pos ha]at h;exact jlf r c h
  ·rw[List.dropWhile_cons_of_neg ha]at h;cases h;simpa using ha
theorem nz_head{l:J}:(nz l).head?≠some 48∧(nz l).getLast?≠some 48:=by
 constructor
 ·intro q;obtain⟨k,e,_⟩:=jmm (tlZ l 48)
  have:(tlZ l 48).head?=some 48:=by
   rw[e];change (nz l++rep48 k).head?=_;rw[List.head?_append,q];rfl
  have:=jlf l 48 this;simp at this
 ·intro q;unfold nz trZ at q;rw[List.getLast?_reverse]at q;have:=jlf _ 48 q;simp at this
theorem norm_isNum{g:Bool}{l:J}{q:Int}(h:ja7 l=true)(hl:l.length≤300)(hq: -100≤q∧q≤100):je8 (ja1 g l q).1 (ja1 g l q).2.1 (ja1 g l q).2.2=true:=by
 obtain⟨k,e1,e2⟩:=jmx l;have hk:=je2 l 48;unfold ja1;by_cases h0:nz l=[]
 ·rw[if_pos h0];rfl
 ·rw[if_neg h0];obtain⟨n1,n2⟩:=nz_head (l:=l);unfold je8;simp only;rw[if_neg h0,jk0 h,jaa (show(nz l).length≤400 by omega),jaa (show -400≤q-(((tlZ l 48).length:Int)-(nz l).length)∧q-(((tlZ l 48).length:Int)-(nz l).length)≤400 by omega)];have a1:((nz l).head?==some 48)=false:=by simpa using n1
  have a2:((nz l).getLast?==some 48)=false:=by simpa using n2
  rw[a1,a2];rfl
theorem dec_val:∀(k n:Nat),n<10^ (k+1)→decG (zl (Lib.decDigits n)) 0=n
 | k,n,h=>by
  rw[Lib.decDigits];by_cases h10:n<10
  ·rw[dif_pos h10];simp only[zl,List.map_cons,List.map_nil,decG,u8n h10];omega
  ·rw[dif_neg h10];cases k with
   | zero=>omega
   | succ k=>
    have ih:=dec_val k (n/10) (by rw[Nat.pow_succ]at h;omega);rw[zl,List.map_append,←zl,jcs,ih];simp only[List.map_cons,List.map_nil,decG,u8n (show n%10<10 by omega)];omega
theorem ito_val{m:Int}(h:0≤m∧m≤2147483648):decG (itoZ m) 0=m:=by
 obtain⟨k,rfl⟩:∃k:Nat,m=(k:Int):=⟨m.toNat,by omega⟩
 rw[itoZ,Lib.itoa_nonneg];exact dec_val 9 k (by omega)
theorem scl_shf{n d:Int}:scl n d=if n<0 then -(shf (-n) d)else shf n d:=by
 unfold scl shf pw;have hp:∀k:Nat,(0:Int)<10^k:=fun k=>Int.pow_pos (by decide)
 split
 ·split
  ·rw[Int.neg_mul,Int.neg_neg]
  ·rfl
 ·split
  ·rw[←Int.tdiv_eq_ediv_of_nonneg (by omega),Int.neg_tdiv,Int.neg_neg]
  ·rw[Int.tdiv_eq_ediv_of_nonneg (by omega)]
theorem shf_pos{n d:Int}(h:0≤n):0≤shf n d:=by
 have hp:∀k:Nat,(0:Int)<10^k:=fun k=>Int.pow_pos (by decide)
 unfold shf;split
 ·exact Int.mul_nonneg h (Int.le_of_lt (hp _))
 ·exact Int.ediv_nonneg h (Int.le_of_lt (hp _))
theorem norm_sg{g:Bool}{l:J}{q:Int}:(ja1 g l q).1=(!decide (nz l=[]) &&g):=by
 unfold ja1;by_cases h:nz l=[]
 ·rw[if_pos h,jaa h];rfl
 ·rw[if_neg h,jad h];rfl
theorem tk_num{n q:Int}{t:Ty}(hv:ja9 t)(hn: -2147483648≤n∧n≤2147483648)(hq:0≤q∧q≤9):
  tkV (numA n q).1 (numA n q).2.1 (numA n q).2.2 t=(cutN (scl n (t.q-q)) t,cutC (scl n (t.q-q)) t 1,0):=by
 have hm:0≤(if n<0 then -n else n)∧(if n<0 then -n else n)≤2147483648:=by split<;>omega
 obtain⟨d1,d2⟩:=jjl hm;have dl:=jdl hm;have hb:=(Fx.bnd_range hv).1;have hN:=norm_isNum (g:=decide (n<0)) (q:=q) d1 (by omega) (by omega);have hV:=norm_val (g:=decide (n<0)) (q:=q) (Q:=t.q) d1;rw[ito_val hm]at hV;obtain⟨-,hD,-,-,-⟩:=jes hN;have hP:ja7 (plcR (ja1 (decide (n<0)) (itoZ (if n<0 then -n else n)) q).2.1 (ja1 (decide (n<0)) (itoZ (if n<0 then -n else n)) q).2.2 t.q)=true:=jfj hD;have hs:=shf_pos (d:=t.q-q) hm.1
 have hg:(numA n q).1=true→n<0:=fun h=>by
  rw[numA,norm_sg]at h;simp only[jaf,jae]at h;exact h.2
 have hg2:(numA n q).1=false→n<0→shf (-n) (t.q-q)=0:=fun h hlt=>by
  rw[numA,norm_sg,jaa hlt,Bool.and_true]at h;have h0:nz (itoZ (if n<0 then -n else n))=[]:=by simpa using h
  rw[ja1,if_pos h0]at hV;rw[if_pos hlt]at hV;rw[←hV];show decG (plcR [] 0 t.q) 0=0;rw[jkz rfl];show shf 0 _=0;unfold shf;split<;>simp
 unfold tkV;rw[if_neg (by rw[numA,hN];decide),if_neg (fun h=>h hv)];unfold tkR
 rw[show plcR (numA n q).2.1 (numA n q).2.2 t.q=plcR (ja1 (decide (n<0)) (itoZ (if n<0 then -n else n)) q).2.1 (ja1 (decide (n<0)) (itoZ (if n<0 then -n else n)) q).2.2 t.q from rfl,
  jmp (by omega) _ 0 0 hP ⟨Int.le_refl _,by omega⟩,tk_snd (by omega) _ 0 0 hP ⟨Int.le_refl _,by omega⟩,hV]
 have key:∀X:Int,0≤X→(X.tmod (bnd t)=X%bnd t):=fun X h=>Int.tmod_eq_emod_of_nonneg h
 have inb:∀Z:Int,InB Z t↔(-bnd t<Z∧Z<bnd t):=fun _=>Iff.rfl
 unfold cutN cutC;by_cases hlt:n<0
 ·rw[scl_shf,if_pos hlt];rw[if_pos hlt]at hs ⊢;generalize hX:shf (-n) (t.q-q)=X at*;have hmod:=key X hs;by_cases hg1:(numA n q).1=true
  ·rw[if_pos hg1];by_cases hl:X<bnd t
   ·rw[if_pos hl,if_pos ((inb _).2 (by omega)),if_pos ((inb _).2 (by omega)),Int.emod_eq_of_lt hs hl]
   ·rw[if_neg hl,if_neg (fun h=>absurd ((inb _).1 h) (by omega)),if_neg (fun h=>absurd ((inb _).1 h) (by omega)),Int.neg_tmod,hmod]
  ·have h0:=hg2 (by simpa using hg1) hlt;have h0:X=0:=h0;subst h0;rw[if_neg hg1,if_pos (by omega),if_pos ((inb _).2 (by omega)),if_pos ((inb _).2 (by omega))];simp
 ·rw[scl_shf,if_neg hlt];rw[if_neg hlt]at hs ⊢;generalize hX:shf n (t.q-q)=X at*;have hmod:=key X hs;rw[if_neg (fun h=>hlt (hg h))];by_cases hl:X<bnd t
  ·rw[if_pos hl,if_pos ((inb _).2 (by omega)),if_pos ((inb _).2 (by omega)),Int.emod_eq_of_lt hs hl]
  ·rw[if_neg hl,if_neg (fun h=>absurd ((inb _).1 h) (by omega)),if_neg (fun h=>absurd ((inb _).1 h) (by omega)),hmod]
end Go.Cx
end
noncomputable section
set_option maxHeartbeats 3200000
namespace Go.Cx
open Go Go.Ab Go.Proofs Go.Shelf Go.Px Go.Cv
open Go.Fx (Ty Vl check ja9 most base pw bnd Fit fits tv vv tup V0 T0 jbs jbw jbj jcd str0)
inductive Fu where
 | w (n:Int) (t:Ty)
 | b (s:Y)
 | c (s:Y)
 | p (s pc:Y)
def numU:Fu→Option Num
 | .w n t=>some (numA n t.q)
 | .b s=>some (ja1 false (binD (bz s)) 0)
 | .c s=>rdN (bz s)
 | .p s pc=>some (numA (rdV (bz pc) (bz s)).1 (pQ (bz pc)))
def txtU:Fu→Y
 | .w n t=>szO (txtZ n t)
 | .b s=>s
 | .c s=>s
 | .p s _=>s
def bitU:Fu→Option Y
 | .w n t=>some (szO (inB (jf0 t).toNat (divT t.q.toNat (absI n))))
 | .b s=>some s
 | .c s=>if jca (bz s)=true then some s else none
 | .p s pc=>some (szO (inB (jf0 (pT pc)).toNat (divT (pQ (bz pc)).toNat (absI (rdV (bz pc) (bz s)).1))))
abbrev Cu:=Int×Y×Int×Option Y
def tkU(x:Num)(t:Ty):Int×Int×Int:=tkV x.1 (bz (szO x.2.1)) x.2.2 t
def fiU(s:Y)(n c:Int):Y:=szO (jdi (bz s) n.toNat c)
def cuN(f:Fu)(C:Num→Cu):Cu:=match numU f with
 | some x=>C x
 | none=>(0,⟨#[]⟩,0,some (txtU f))
def cuV(f:Fu)(t:Ty):Cu:=
 if t.k=1∨t.k=2 then cuN f fun x=>((tkU x t).1,⟨#[]⟩,(tkU x t).2.1,none)
 else if t.k=3 then(0,if t.v=true∧ ¬((txtU f).size:Int)>t.p then txtU f else fiU (txtU f) t.p 32,0,none)
 else if t.k=4 then(0,fiU ((bitU f).getD ⟨#[]⟩) t.p 48,0,if(bitU f).isSome then none else some (txtU f))
 else if pN (bz t.s)=true then cuN f fun x=>(0,sz (edS (bz t.s) (tkU x (pT t.s)).1 (pQ (bz t.s))),if edF (bz t.s) (tkU x (pT t.s)).1 (pQ (bz t.s))=true then(tkU x (pT t.s)).2.1 else 1,none)
 else if hoZ (bz t.s) (bz (fiU (txtU f) (tyP (bz t.s)) 32))=true then(0,fiU (txtU f) (tyP (bz t.s)) 32,0,none)else(0,⟨#[]⟩,0,some (fiU (txtU f) (tyP (bz t.s)) 32))
def cuF:Fu→Prop
 | .w n u=>ja9 u∧ -2147483648≤n∧n≤2147483648
 | .b s=>jca (bz s)=true∧s.size≤64
 | .c s=>s.size≤9223372036854775807
 | .p s pc=>pN (bz pc)=true∧s.size≤9223372036854775807∧pc.size≤9223372036854775807
def cuA(f:Fu)(t:Ty):Prop:=cuF f∧chk4 t=0∧t.k≠6∧t.s.size≤9223372036854775807
def eV:Option Y→Value
 | none=> .nilIface
 | some s=>er s
abbrev cuR(x:Cu):Value:=tp3 x.1 x.2.1 x.2.2.1 (eV x.2.2.2)
theorem numU_len{f:Fu}(h:cuF f){x:Num}(hx:numU f=some x):x.2.1.length≤600:=by
 cases f with
 | w n u=>
  obtain⟨hv,h1,h2⟩:=h;cases hx;show(numA n u.q).2.1.length≤600;refine Nat.le_trans (jf9 _ _ _) ?_;have:=jdl (m:=if n<0 then -n else n) (by split<;>omega);omega
 | b s=>
  cases hx;have hb:=jmb h.1 (by rw[jam];exact h.2);have hd:=jl6 20 (binG (bz s) 0) hb.1 (Int.lt_of_lt_of_le hb.2 (by decide));show(ja1 false (binD (bz s)) 0).2.1.length≤600;rw[←jk1];exact Nat.le_trans (jf9 _ _ _) (by omega)
 | c s=>
  have:=rdN_len (bz s);rw[show rdN (bz s)=some x from hx]at this;exact this
 | p s pc=>
  cases hx;have hr:=jmt (t:=s) h.1;show(numA (rdV (bz pc) (bz s)).1 (pQ (bz pc))).2.1.length≤600;refine Nat.le_trans (jf9 _ _ _) ?_;have:=jdl (m:=if(rdV (bz pc) (bz s)).1<0 then -(rdV (bz pc) (bz s)).1 else(rdV (bz pc) (bz s)).1) (by split<;>omega);omega
theorem tkV_rng(g:Bool)(l:J)(c:Int)(t:Ty): -2147483648≤(tkV g l c t).1∧(tkV g l c t).1≤2147483648:=by
 unfold tkV;split
 ·simp
 rename_i hn;split
 ·simp
 rename_i hv;have hv:ja9 t:=Classical.not_not.1 hv;have hb:=Fx.bnd_range hv
 have hd:ja7 l=true:=by
  unfold je8 at hn;split at hn
  ·rename_i e;rw[e];rfl
  ·simp at hn;exact hn.2.1
 have hr:=jg8 (b:=bnd t) (by omega) (plcR l c t.q) 0 0 (jfj hd) (by omega);unfold tkR;simp only;split<;>omega
theorem k5_of{t:Ty}(h:chk4 t=0)(h6:t.k≠6)(h1:¬(t.k=1∨t.k=2))(h3:t.k≠3)(h4:t.k≠4):t.k=5∧vOK (bz t.s)=true:=by
 unfold chk4 at h;have hv:ja9 t→t.k=1∨t.k=2:=fun h=>h.1
 rw[if_neg (fun q=>h1 (hv q)),if_neg (fun q=>h3 q.1),if_neg (fun q=>h4 q.1)]at h;split at h
 ·rename_i q;refine⟨q.1,?_⟩;have:=q.2.2.2.2;unfold pE at this;split at this
  ·assumption
  ·cases this
 ·rw[if_neg (fun q=>h6 q.1)]at h;cases h
theorem p1000{t:Ty}(h:chk4 t=0)(h3:t.k=3∨t.k=4):0≤t.p∧t.p≤1000:=by
 unfold chk4 at h;have hv:ja9 t→t.k=1∨t.k=2:=fun h=>h.1
 grind
theorem jnm{f:Fu}{t:Ty}(h:cuA f t){nm:(Num→Prop)→Prop}{tx:(Y→Prop)→Prop}{bt:Prop}
  (hN:∀C:Num→Prop,(∀x,numU f=some x→C x)→(numU f=none→tp3 0 ⟨#[]⟩ 0 (er (txtU f))=cuR (cuV f t))→nm C)
  (hX:∀C:Y→Prop,C (txtU f)→tx C)
  (hB:(∀s,bitU f=some s→tlB (fun v=>v=cuR (cuV f t)) t .nilIface s)→(bitU f=none→tlB (fun v=>v=cuR (cuV f t)) t (er (txtU f)) ⟨#[]⟩)→bt):skU (fun v=>v=cuR (cuV f t)) t nm tx bt:=by
 obtain⟨hF,hk,h6,hs⟩:=h;unfold skU
 have hA:(t.k=1∨t.k=2)→nm (tlA (fun v=>v=cuR (cuV f t)) t):=fun hk12=>by
  have e:cuV f t=cuN f fun x=>((tkU x t).1,⟨#[]⟩,(tkU x t).2.1,none):=if_pos hk12
  refine hN _ (fun x hx=> ?_) (fun hx=> ?_)
  ·rw[e,cuN,hx];exact c_t (jaa (by rw[jb2];exact Nat.le_trans (numU_len hF hx) (by decide))) rfl
  ·rw[e,cuN,hx];rfl
 refine cond_intro (fun h1=>hA (.inl (by simpa using h1))) (fun h1=>cond_intro (fun h2=>hA (.inr (by simpa using h2))) (fun h2=> ?_));have n12:¬(t.k=1∨t.k=2):=by simp at h1 h2;omega
 refine cond_intro (fun h3=> ?_) (fun h3=>cond_intro (fun h4=> ?_) (fun h4=> ?_))
 ·have h3:t.k=3:=by simpa using h3
  have e:cuV f t=(0,if t.v=true∧ ¬((txtU f).size:Int)>t.p then txtU f else fiU (txtU f) t.p 32,0,none):=by unfold cuV;rw[if_neg n12,if_pos h3]
  rw[e];refine hX _ (c_t (Bool.or_true _) (cond_intro (fun h=> ?_) (fun h=> ?_)))
  ·refine c_t (by rw[jaa (p1000 hk (.inl h3))];rfl) fun s' hs=> ?_
   rw[if_neg,←hs]
   ·rfl
   ·rintro ⟨h1,h2⟩;rw[h1,jad h2]at h;cases h
  ·rw[if_pos]
   ·rfl
   ·cases hw:t.v<;>simp[hw]at h ⊢;omega
 ·have h4:t.k=4:=by simpa using h4
  have e:cuV f t=(0,fiU ((bitU f).getD ⟨#[]⟩) t.p 48,0,if(bitU f).isSome then none else some (txtU f)):=by unfold cuV;rw[if_neg n12,if_neg (by omega),if_pos h4]
  rw[e]at hB;refine hB (fun s hs'=> ?_) (fun hs'=> ?_)
  ·rw[hs'];refine c_t (by rw[jaa (p1000 hk (.inr h4))];rfl) fun s' hs=> ?_
   rw[←hs];rfl
  ·rw[hs'];refine c_t (by rw[jaa (p1000 hk (.inr h4))];rfl) fun s' hs=> ?_
   rw[←hs];rfl
 ·have n3:t.k≠3:=by simpa using h3
  have n4:t.k≠4:=by simpa using h4
  have h5:=k5_of hk h6 n12 n3 n4;refine c_t (jaa hs) (c_t (jaa hs) (cond_intro (fun hp=> ?_) (fun hp=> ?_)))
  ·have hp:¬pN (bz t.s)=true:=by simpa using hp
   have e:cuV f t=if hoZ (bz t.s) (bz (fiU (txtU f) (tyP (bz t.s)) 32))=true then(0,fiU (txtU f) (tyP (bz t.s)) 32,0,none)else(0,⟨#[]⟩,0,some (fiU (txtU f) (tyP (bz t.s)) 32)):=by unfold cuV;rw[if_neg n12,if_neg n3,if_neg n4,if_neg hp]
   have hw:0≤tyP (bz t.s)∧tyP (bz t.s)≤1000:=by
    have:= @jki t.s;unfold tyP;rw[if_pos h5.2,if_neg hp];omega
   have hT:tlX (fun v=>v=cuR (cuV f t)) t (txtU f):=by
    rw[e];refine c_t (by rw[jaa hw];rfl) fun s' hs'=> ?_
    have es:fiU (txtU f) (tyP (bz t.s)) 32=s':=hs'
    have hl:s'.size≤9223372036854775807:=by
     rw[←es,fiU,jb2,jdi,List.length_append,List.length_take,List.length_replicate];omega
    rw[es];refine c_t (jaa ⟨hs,hl⟩) fun b hb=> ?_
    rw[hb.h];cases b
    ·rfl
    ·rfl
   exact⟨hX _ hT,hX _ hT,hX _ hT⟩
  ·have hp:pN (bz t.s)=true:=by simpa using hp
   have e:cuV f t=cuN f fun x=>(0,sz (edS (bz t.s) (tkU x (pT t.s)).1 (pQ (bz t.s))),if edF (bz t.s) (tkU x (pT t.s)).1 (pQ (bz t.s))=true then(tkU x (pT t.s)).2.1 else 1,none):=by unfold cuV;rw[if_neg n12,if_neg n3,if_neg n4,if_pos hp]
   refine hN _ (fun x hx=> ?_) (fun hx=> ?_)
   ·rw[e,cuN,hx];refine c_t (jaa (by rw[jb2];exact Nat.le_trans (numU_len hF hx) (by decide))) ?_;have hr:=tkV_rng x.1 (bz (szO x.2.1)) x.2.2 (pT t.s);refine c_t (jaa ⟨hs,by omega,by omega⟩) fun s b c hc=> ?_
    have hc:=hc.h;simp only[Prod.mk.injEq]at hc;obtain⟨c1,c2,c3⟩:=hc;simp only[tkU];rw[c1];simp only[c2];cases b<;>rfl
   ·rw[e,cuN,hx];rfl
def decU:Value→Option Fu
 | .iface 241 (.agg ⟨[.int .i64 n,.int .i64 k,.int .i64 p,.int .i64 q,.bool w,.string u]⟩)=>some (.w n ⟨k,p,q,w,u⟩)
 | .iface 242 (.string s)=>some (.b s)
 | .iface 245 (.string s)=>some (.c s)
 | .iface 244 (.agg ⟨[.string s,.string p]⟩)=>some (.p s p)
 | _=>none
open Classical in
theorem cuD_ex:∃d:Fu→Ty→Bool,∀f t,d f t=true↔cuA f t:=⟨fun f t=>decide (cuA f t),fun f t=>by simp⟩
def cuD:Fu→Ty→Bool:=Classical.choose cuD_ex
theorem jlj{f:Fu}{t:Ty}:cuD f t=true↔cuA f t:=Classical.choose_spec cuD_ex f t
def s99u:Ab.Spec:=fun args _=>match args with
 | [a,.agg ⟨[.int .i64 k,.int .i64 p,.int .i64 q,.bool w,.string u]⟩]=>match decU a with
  | some f=>some (cuD f ⟨k,p,q,w,u⟩,cuR (cuV f ⟨k,p,q,w,u⟩))
  | none=>none
 | _=>none
theorem ok99u:jan Tryz.prog 167 s99u:=by
 refine jc7 ok_U1 hmix fn99 jaj fun args bs v hs=> ?_
 unfold s99u at hs;split at hs
 case h_2=>cases hs
 rename_i a k p q w u;split at hs
 case h_2=>cases hs
 rename_i f hf;simp only[Option.some.injEq,Prod.mk.injEq]at hs;obtain⟨hA,rfl⟩:=hs;have hA:=jlj.1 hA;have en:(.agg ⟨[.int .i64 k,.int .i64 p,.int .i64 q,.bool w,.string u]⟩:Value)=Enc.enc (⟨k,p,q,w,u⟩:Ty):=rfl;unfold decU at hf;split at hf
 ·cases hf;refine⟨rfl,jag,?_⟩;rw[ja5];rw[en,u99_w];delta lv km;refine jnm hA (fun C h1 _=> ?_) (fun C h1=> ?_) (fun h1 _=> ?_)
  ·exact c_t (jaa (by have⟨h1,h2,h3⟩:=hA.1;obtain⟨v1,v2,v3,v4,v5⟩:=Fx.valid_r h1;exact⟨h2,h3,v3,v5⟩)) fun x hx=>h1 x (congrArg some hx.h)
  ·exact c_t (jaa hA.1) h1
  ·exact c_t (jaa hA.1) fun s hs=>h1 s (congrArg some hs.h)
 ·cases hf;refine⟨rfl,jag,?_⟩;rw[ja5];rw[en,u99_b];refine jnm hA (fun C h1 _=> ?_) (fun C h1=>h1) (fun h1 _=>h1 _ rfl);have:=hA.1;exact c_t (by rw[this.1,jaa this.2];rfl) fun x hx=>h1 x (congrArg some hx.h)
 ·cases hf;refine⟨rfl,jag,?_⟩;rw[ja5];rw[en,u99_c];delta am ax;refine jnm hA (fun C h1 h2=> ?_) (fun C h1=>h1) (fun h1 h2=> ?_)
  ·exact c_t (jaa hA.1) ⟨fun x hx=>h1 x hx.h,fun hx=>h2 hx.h⟩
  ·exact c_t (jaa hA.1) ⟨fun hx=>h1 _ (if_pos hx.h),fun hx=>h2 (if_neg (by rw[hx.h];decide))⟩
 ·cases hf;refine⟨rfl,jag,?_⟩;rw[ja5];have hc:=hA.1;rw[en,u99_p];delta j3 ii j6;refine jnm hA (fun C h1 _=> ?_) (fun C h1=>h1) (fun h1 _=> ?_)
  ·exact c_t (by rw[hc.1,jaa hc.2];rfl) fun x hx=>h1 x (congrArg some hx.h)
  ·exact c_t (by rw[hc.1,jaa hc.2];rfl) fun s hs=>h1 s (congrArg some hs.h)
 ·cases hf
instance tabsT2:Tabs:=tabs
theorem ex_ck3(t:Ty):∃x:Int,x=chk4 t:=⟨_,rfl⟩
def ckT(t:Ty):Int:=Classical.choose (ex_ck3 t)
theorem ckT_eq(t:Ty):ckT t=chk4 t:=Classical.choose_spec (ex_ck3 t)
theorem ex_ft3(v:Vl)(t:Ty):∃x:Int,x=fit4 v t:=⟨_,rfl⟩
def ftT(v:Vl)(t:Ty):Int:=Classical.choose (ex_ft3 v t)
theorem jl4(v:Vl)(t:Ty):ftT v t=fit4 v t:=Classical.choose_spec (ex_ft3 v t)
def z20(t:Ty):Bool×Value:=(decide (t.s.size≤9223372036854775807),I (ckT t))
def z22(v:Vl)(t:Ty):Bool×Value:=(decide (t.s.size≤9223372036854775807∧v.s.size≤9223372036854775807),I (ftT v t))
theorem z20_eq:z20=s20f:=by funext t;simp only[z20,s20f,ckT_eq];rfl
theorem z22_eq:z22=s22f:=by funext v t;simp only[z22,s22f,jl4]
def s3(t:Ty)(v:Vl):Bool×Value:=(decide (t.s.size≤9223372036854775807∧v.s.size≤9223372036854775807),B true)
def isR(s:Y)(c:Int)(l:J):Prop:=bz s=List.replicate (s.size-l.length) c++l∧l.length≤s.size
instance (s:ByteArray)(c:Int)(l:List Int):Decidable (isR s c l):=by unfold isR;infer_instance
theorem fixU_len{m q:Int}(hm:0≤m∧m≤2147483648)(hq:0≤q∧q≤9):q<(fixU m q).length∧(fixU m q).length≤20∧IsB (fixU m q):=by
 have h:=jdl hm;refine⟨?_,?_,jf7 _ |>.append (jgn _)⟩
 ·unfold fixU Cv.rep48;rw[List.length_append,List.length_replicate];omega
 ·unfold fixU Cv.rep48;rw[List.length_append,List.length_replicate];omega
theorem fixS_len{n q:Int}(hn: -2147483648≤n∧n≤2147483648)(hq:0≤q∧q≤9):(fixS n q).length≤30∧IsB (fixS n q):=by
 have key:∀m:Int,0≤m∧m≤2147483648→(fixD m q).length≤25∧IsB (fixD m q):=fun m hm=>by
  obtain⟨l1,l2,l3⟩:=fixU_len hm hq;unfold fixD;split
  ·refine⟨?_,(l3.take _).append (.cons (by omega) (l3.drop _))⟩;simp only[List.length_append,List.length_take,List.length_cons,List.length_drop];omega
  ·exact⟨by have:=jdl hm;omega,jgn _⟩
 unfold fixS;split
 ·obtain⟨a,b⟩:=key (-n) (by omega);exact⟨by rw[List.length_cons];omega,.cons (by omega) b⟩
 ·obtain⟨a,b⟩:=key n (by omega);exact⟨by omega,b⟩
def txS(v:Vl)(t:Ty):Y:=if ja9 t then szO (txtZ v.n t)else v.s
theorem jlb{v:Vl}{t:Ty}(h:fit4 v t=0)(hv:ja9 t): -2147483648≤v.n∧v.n≤2147483648:=by
 unfold fit4 at h;have hc:chk4 t=0:=if_pos hv;rw[if_neg (fun q=>q hc)]at h;split at h
 ·rename_i i;unfold is4 at i;rw[if_pos hv.1]at i;have i:Fx.fits v t=0:=by simpa using i
  unfold Fx.fits at i;rw[if_pos hv]at i;split at i
  ·rename_i f;have:=Fx.bnd_range hv;have:=f.2;omega
  ·cases i
 ·cases h
def txE(v:Vl)(t:Ty):Int:=if fit4 v t≠0 then fit4 v t else if t.k=6 then 5 else 0
def txV(v:Vl)(t:Ty):Value:= .tuple ⟨[S (if txE v t≠0 then⟨#[]⟩else txS v t),I (txE v t)]⟩
end Go.Cx
end
noncomputable section
namespace Go.Px
open Go Go.Ab Go.Proofs
def cel0(le fill dr:Int)(neg:Bool)(m c d o:Int):Int:=
 bif m==100 then fmZ c d neg else bif m==99 then(bif decide (o<le)then fill else d)
 else bif m==105 then(bif c==66 then 32 else bif decide (o<le)then fill else c)else ssZ c dr neg
def celZ(le fill dr:Int)(neg:Bool)(m c d o:Int):Int:=bif dr !=0&&o==le-1 then sgZ dr neg else cel0 le fill dr neg m c d o
def fsGo(le fill dr:Int)(neg:Bool):J→J→J→Int→J
 | [],_,_,_=> []
 | m::r,sp,ds,o=>bif m==118 then fsGo le fill dr neg r sp.tail ds o
  else celZ le fill dr neg m (sp.headD 0) (ds.headD 0) o::fsGo le fill dr neg r sp.tail (bif isP m then ds.tail else ds) (o+1)
theorem fd_cons(le fill dr:Int)(neg:Bool)(m:Int)(r sp ds:J)(o:Int):fdGo le fill dr neg (m::r) sp ds o=
  bif m==118 then fdGo le fill dr neg r sp.tail ds o else cel0 le fill dr neg m (sp.headD 0) (ds.headD 0) o::fdGo le fill dr neg r sp.tail (bif isP m then ds.tail else ds) (o+1):=by
 rw[fdGo,cel0,isP];by_cases h1:m=100
 ·subst h1;rfl
 by_cases h2:m=99
 ·subst h2;rfl
 by_cases h3:m=105
 ·subst h3;rfl
 have e1:(m==100)=false:=beq_eq_false_iff_ne.2 h1;have e2:(m==99)=false:=beq_eq_false_iff_ne.2 h2;have e3:(m==105)=false:=beq_eq_false_iff_ne.2 h3;rw[e1,e2,e3];by_cases h4:m=118
 ·subst h4;rfl
 have e4:(m==118)=false:=beq_eq_false_iff_ne.2 h4;have e5:(m !=118)=true:=by rw[bne,e4];rfl
 rw[e4,e5];rfl
theorem jjr{le fill dr:Int}{neg:Bool}:∀(ms sp ds:J)(o:Int),dr=0∨le-1<o→fsGo le fill dr neg ms sp ds o=fdGo le fill dr neg ms sp ds o
 | [],_,_,_,_=>rfl
 | m::r,sp,ds,o,h=>by
  have hc:(dr !=0&&o==le-1)=false:=by
   rcases h with rfl | h
   ·rfl
   ·have:(o==le-1)=false:=beq_eq_false_iff_ne.2 (by omega);rw[this,Bool.and_false]
  rw[fsGo,fd_cons,celZ,hc,cond_false,jjr r _ _ (o+1) (by omega),jjr r _ _ o h]
theorem jm7{le fill dr:Int}{neg:Bool}(hd:dr≠0):∀(ms sp ds:J)(o:Int),o≤le-1→le-1<o+nv ms→fsGo le fill dr neg ms sp ds o=(fdGo le fill dr neg ms sp ds o).set (le-1-o).toNat (sgZ dr neg)
 | [],_,_,o,h1,h2=>by simp[nv]at h2;omega
 | m::r,sp,ds,o,h1,h2=>by
  rw[je5]at h2;rw[fsGo,fd_cons];by_cases hm:m=118
  ·subst hm;rw[if_pos rfl]at h2;exact jm7 hd r _ _ o h1 (by omega)
  ·have e:(m==118)=false:=beq_eq_false_iff_ne.2 hm;rw[if_neg hm]at h2;rw[e,cond_false,cond_false,celZ];have hd':(dr !=0)=true:=bne_iff_ne.2 hd;by_cases ho:o=le-1
   ·have e2:(o==le-1)=true:=beq_iff_eq.2 ho;rw[hd',e2,jjr r _ _ (o+1) (.inr (by omega))];have:(le-1-o).toNat=0:=by omega
    rw[this];rfl
   ·have e2:(o==le-1)=false:=beq_eq_false_iff_ne.2 ho;have:(le-1-o).toNat=(le-1-(o+1)).toNat+1:=by omega
    rw[e2,Bool.and_false,cond_false,jm7 hd r _ _ (o+1) (by omega) (by omega),this];rfl
theorem jm8(le fill dr:Int)(neg:Bool):∀(ms sp ds:J)(o:Int),(fsGo le fill dr neg ms sp ds o).length=nv ms
 | [],_,_,_=>rfl
 | m::r,sp,ds,o=>by
  rw[fsGo,je5];by_cases hm:m=118
  ·subst hm;rw[if_pos rfl,Nat.zero_add];exact jm8 le fill dr neg r _ _ _
  ·have e:(m==118)=false:=beq_eq_false_iff_ne.2 hm;rw[e,cond_false,List.length_cons,jm8,if_neg hm];omega
theorem field_fs{sp:J}{w:Int}{k:Nat}{n:Int}(h:fdOK sp w k n=true):jft sp w k n=
  bif fdBl sp w k n then rep1 (fdFl sp) w.toNat else fsGo (fdLe sp w k n) (fdFl sp) (fdDr sp) (decide (n<0)) (ja4 sp) sp (digZ n.natAbs k) 0:=by
 unfold jft;cases hb:fdBl sp w k n with
 | true=>rfl
 | false=>
  rw[cond_false,cond_false];unfold fdOK at h;rw[hb,Bool.false_or]at h;by_cases h0:fdDr sp=0
  ·have e:(fdDr sp !=0)=false:=by rw[h0];rfl
   rw[e,cond_false,jg5,jjr _ _ _ _ (.inl h0)]
  ·have e:(fdDr sp !=0)=true:=bne_iff_ne.2 h0;have e2:(fdDr sp==0)=false:=beq_eq_false_iff_ne.2 h0;rw[e2,Bool.false_or,jae,jg5,jib]at h;rw[e,cond_true,jg5,jm7 h0 _ _ _ _ (by omega) (by omega),Int.sub_zero]
theorem fdN_len{l:J}(hl:IsB (pS l)∧(pS l).length≤32)(h:pN l=true)(n:Int):((fdN l n).length:Int)=pW l:=by
 obtain⟨_,_,p3,p4,_,p6⟩:=jmw hl h n;rw[fdN,field_fs p6];cases fdBl (pS l) (pW l) (pD l).toNat n with
 | true=>simp[rep1];omega
 | false=>rw[cond_false,jm8,pN_nv h]
theorem cuM_same(n q:Int):cuM n q q=n.natAbs:=by
 rw[cuM,if_pos (by omega),Int.sub_self];exact Int.ediv_one _
theorem cu_in{l:J}{n:Int}(hn:(n.natAbs:Int)<tenZ (pD l).toNat)(hg:n<0→pG l=true):cuN n (pQ l) (pQ l) (pD l) (pG l)=n∧cuF n (pQ l) (pQ l) (pD l) (pG l)=true:=by
 have e:cuV n (pQ l) (pQ l) (pD l)=n.natAbs:=by rw[cuV,cuM_same,Int.emod_eq_of_lt (by omega) hn]
 constructor
 ·rw[cuN,e];by_cases h0:n<0
  ·rw[if_pos ⟨h0,hg h0⟩];omega
  ·rw[if_neg (fun q=>h0 q.1)];omega
 ·rw[cuF,cuM_same,jaa hn,Bool.true_and];by_cases h0:n<0
  ·rw[hg h0];simp
  ·rw[jaa (show n≥0 by omega)];rfl
theorem ed_in{l:J}(h:pN l=true){n:Int}(hn:(n.natAbs:Int)<tenZ (pD l).toNat)(hg:n<0→pG l=true):edS l n (pQ l)=fdN l n∧edF l n (pQ l)=true∧edE l (pQ l)=0:=by
 have hp:=jed h;have hq:0≤pQ l∧pQ l≤9:=by omega
 obtain⟨e1,e2⟩:=cu_in hn hg;rw[edS,edF,edE,if_pos ⟨h,hq⟩,if_pos ⟨h,hq⟩,if_pos h,if_pos hq,e1,e2];exact⟨rfl,rfl,rfl⟩
theorem ho_rd{l t:J}(h:pN l=true):hoZ l t=decide ((rdV l t).2=0):=by
 rw[hoZ,if_pos (jdh h),if_pos h]
theorem rd_val{s t:Y}(h:pN (bz s)=true):((rdV (bz s) (bz t)).1.natAbs:Int)<tenZ (pD (bz s)).toNat∧((rdV (bz s) (bz t)).1<0→pG (bz s)=true)∧((rdV (bz s) (bz t)).2=0→fdN (bz s) (rdV (bz s) (bz t)).1=bz t):=by
 obtain⟨_,u2,u3,_⟩:=gs_use (t:=t) h;have hp:=jcy (pD (bz s)).toNat;rw[rdV,if_pos h];split
 ·split
  ·rename_i h1;exact⟨by dsimp only;omega,fun q=>by dsimp only at q;omega,fun _=>h1⟩
  ·split
   ·rename_i h1;exact⟨by dsimp only;omega,fun _=>h1.1,fun _=>h1.2.2⟩
   ·exact⟨by dsimp only;omega,fun q=>by dsimp only at q;omega,fun q=>by cases q⟩
 ·exact⟨by dsimp only;omega,fun q=>by dsimp only at q;omega,fun q=>by cases q⟩
theorem size_fdN{s:Y}(h:pN (bz s)=true)(n:Int):((sz (fdN (bz s) n)).size:Int)=pW (bz s):=by
 rw[jgh,fdN_len (jiy s) h n]
end Go.Px
end
noncomputable section
namespace Go.Ff
open Go Go.Ab Go.Proofs Go.Shelf Go.Px
theorem c187:jbq Tryz.prog 273:=cal Tryz.func273 (by kernel_rfl) (by kernel_rfl)
theorem ok187:jan Tryz.prog 273 (sp2 s141):=jda c187 fun s c hc w _=>by
 have hc:0≤c.n∧c.n<256:=jab hc;refine(Any.stringslite_IndexByte (ρ:=Tryz.lays137_ren) {Tryz.lays137 with} s c.n w).mono fun e w' ⟨h1,h2⟩=>⟨?_,jch h2⟩
 rw[h1,jl0];simp only[s141]
 have:((c.n.toNat.toUInt8.toNat:Nat):Int)=c.n:=by
  simp only[Nat.toUInt8,UInt8.toNat_ofNat'];omega
 rw[this,jj6]
def anyI:J→J→Int
 | [],_=> -1
 | b::l,cs=>if hasZ cs b=true then 0 else if anyI l cs= -1 then -1 else anyI l cs+1
theorem anyI_zl(cs:Yb):∀l:Yb,Lib.indexAny l cs=anyI (zl l) (zl cs)
 | []=>rfl
 | b::l=>by
  have ih:=anyI_zl cs l;have hb:hasZ (zl cs) b.toNat=cs.contains b:=(jko b cs).symm;simp only[zl,List.map_cons,anyI]at ih hb ⊢;rw[hb,Lib.indexAny,ih];simp only[beq_iff_eq]
theorem c87:jbq Tryz.prog 146:=cal Tryz.func146 (by kernel_rfl) (by kernel_rfl)
def s87(s t:Y):Bool×Value:=(decide (s.size≤1000000) && (decide (t.size≤1000) && (asc (bz s) &&asc (bz t))),.int .i64 (anyI (bz s) (bz t)))
theorem ok87:jan Tryz.prog 146 (sp2 s87):=jda c87 fun s t hc w _=>by
 simp only[s87,jaf,jae]at hc;obtain⟨h1,h2,h3,h4⟩:=hc;refine(Any.strings_IndexAny_laid (ρ:=Tryz.lays150_ren) {Tryz.lays150 with} info128 s t w (by omega) (by omega) (jdf h3) (jdf h4)).mono fun e w' ⟨h5,h6⟩=>⟨?_,h6⟩
 rw[h5,anyI_zl,jj6,jj6];rfl
def tlsZ(l cs:J):J:=l.dropWhile (hasZ cs ·)
theorem tls_zl(cs:Yb)(l:Yb):zl (l.dropWhile (cs.contains ·))=tlsZ (zl l) (zl cs):=by
 rw[tlsZ,jeu (q:=(hasZ (zl cs) ·)) (fun b=>jko b cs)]
theorem c80:jbq Tryz.prog 110:=cal Tryz.func110 (by kernel_rfl) (by kernel_rfl)
def s80(s t:Y):Bool×Value:=(decide (t.size≤1000) &&asc (bz t),.string (sz (tlsZ (bz s) (bz t))))
theorem ok80:jan Tryz.prog 110 (sp2 s80):=jda c80 fun s t hc w _=>by
 simp only[s80,jaf,jae]at hc;refine(Any.strings_TrimLeft_laid (ρ:=Tryz.lays161_ren) {Tryz.lays161 with} jjn s t w (by omega) (jdf hc.2)).mono fun e w' ⟨h5,h6⟩=>⟨?_,h6⟩
 rw[h5,jg2,Lib.trimLeftS,tls_zl,jj6,jj6];rfl
def s103(s:Y)(c:U8):Bool×Value:=(decide (s.size≤4611686018427387903),.int .i64 (jb9 (bz s) c.n))
theorem ok103:jan Tryz.prog 118 (sp2 s103):=jda c280 fun s c hc w _=>by
 have hc:=jab hc;refine(Any.strings_LastIndexByte Tryz.lays149 s c.n (by omega) w).mono fun e w' ⟨h1,h2⟩=>⟨?_,jch h2⟩
 rw[h1,last_zl];rfl
end Go.Ff
end
noncomputable section
set_option maxHeartbeats 3200000
namespace Go.Ff
open Go Go.Ab Go.Proofs Go.Shelf Go.Px Go.Cv Go.Cx
end Go.Ff
end
section
namespace Go.Fg
section
variable {α : Type} (d : α → Bool)
variable {d} {l : List α}
end
end Go.Fg
end
noncomputable section
namespace Go.Ff
open Go Go.Ab Go.Proofs Go.Shelf Go.RowKit
section
variable {P : Program} {ρ : Ren}
set_option maxHeartbeats 1000000 in
set_option maxRecDepth 100000 in
theorem chk_fresh(L:Lays.n240 P ρ)(X:Builder.X72 P ρ){e:TypeId}{cells:Nat}(b:Nat)(w:World)(h0:w.cell? ⟨b,0,none⟩=some (.pointer none))(hsh:w.shape? b=some (e,cells))(hlt:0<cells)
  (hlies:liesAt P P.depth e (cells/P.cellsOf e) 0 (ρ.t 72) 1=true) (hfz:w.frozen? ⟨b,0,none⟩=false):
  Calls P (ρ.f 240) #[.pointer (some ⟨b,0,none⟩)] w fun e w'=>e= .returned (.tuple #[])∧w'=w.setCell ⟨b,0,none⟩ (.pointer (some ⟨b,0,none⟩)):=by
 obtain⟨j,hj,hjs⟩:=Option.map_eq_some_iff.1 X.sizeBuilder;have mixed:=L.mixed;have t72:=L.t72;have a72:=L.a72;have z72:=L.z72;have v72:=L.v72;have u72:=run_underlying L.t72;have t70:=L.t70;have a70:=L.a70;have z70:=L.z70;have v70:=L.v70;have u70:=run_underlying L.t70;have t9:=L.t9;have a9:=L.a9;have z9:=L.z9;have v9:=L.v9;have u9:=run_underlying L.t9;have t4:=L.t4;have a4:=L.a4;have z4:=L.z4;have v4:=L.v4;have u4:=run_underlying L.t4;have t164:=L.t164;have a164:=L.a164;have z164:=L.z164;have v164:=L.v164;have u164:=run_underlying L.t164
 go_enter L.f240,Body.n240_ntmps ρ
 go_wp2
 rw[Lib.run_to_unsafe w ⟨b,0,none⟩ L.t70 L.t164 hj (by rw[hjs];decide) hsh hlt];simp only[Result.andThen];rw[Oper.upon_value]
 go_wp2
 rw[run_callFunc_extern L.f276 (by kernel_rfl) (by kernel_rfl) (by kernel_rfl) (e:=Extern.AbiNoEscape.same) (by kernel_rfl)];rw[Lib.run_noEscape];simp only[Result.andThen];rw[Oper.upon_value]
 go_wp2
 rw[Lib.run_from_unsafe w ⟨b,0,none⟩ L.t164 L.t70 hj hsh hlies];simp only[Result.andThen];rw[Oper.upon_value]
 go_wp2
 go_end0
 exact⟨rfl,rfl⟩
set_option maxHeartbeats 1000000 in
set_option maxRecDepth 100000 in
theorem str_row(L:Lays.n169 P ρ)(X:Builder.Extra P ρ)(b g cap:Nat)(cur:Array Value)(l:Yb)(w:World)(h0:l≠ [])
  (hb:w.cell? ⟨b,1,none⟩=some (.slice (some ⟨g,0,none⟩) l.length cap)) (hg:w.shape? g=some (ρ.t 5,cur.size)) (hcap:cap≠0) (hl:l.length≤cur.size) (h63:l.length≤9223372036854775807)
  (hc:∀j x,l[j]?=some x→w.cell? ((⟨g,0,none⟩:Addr).add j)=some (.int .u8 x.toNat)):
  Calls P (ρ.f 169) #[.pointer (some ⟨b,0,none⟩)] w fun e w'=>e= .returned (.string ⟨l.toArray⟩)∧w'=w.drew.freeze ⟨g,0,none⟩ l.length:=by
 have c1:w.drew.cell? ⟨b,1,none⟩=some (.slice (some ⟨g,0,none⟩) l.length cap):=hb
 have hSD:(Builtin.unsafeSliceData_ #[(ρ.t 37)] (ρ.t 127) #[.slice (some ⟨g,0,none⟩) l.length cap]).run P w.drew= .ok (.pointer (some ⟨g,0,none⟩)) w.drew:=
  Lib.run_unsafeSliceData_row _ _ _ _ _ _ (by omega)
 have hUS:(Builtin.unsafeString_ #[(ρ.t 127),(ρ.t 3)] (ρ.t 9) #[.pointer (some ⟨g,0,none⟩),.int .i64 l.length]).run P w.drew= .ok (.string ⟨l.toArray⟩) (w.drew.freeze ⟨g,0,none⟩ l.length):=
  Lib.run_unsafeString_row w.drew (ρ.t 127) (ρ.t 3) (ρ.t 9) (ρ.t 5) L.t127 X.cellsByte g cur.size hg l h0 hl h63 hc
 have mixed:=L.mixed;have t72:=L.t72;have a72:=L.a72;have z72:=L.z72;have v72:=L.v72;have u72:=run_underlying L.t72;have t70:=L.t70;have a70:=L.a70;have z70:=L.z70;have v70:=L.v70;have u70:=run_underlying L.t70;have t37:=L.t37;have a37:=L.a37;have z37:=L.z37;have v37:=L.v37;have u37:=run_underlying L.t37;have t127:=L.t127;have a127:=L.a127;have z127:=L.z127;have v127:=L.v127;have u127:=run_underlying L.t127;have t3:=L.t3;have a3:=L.a3;have z3:=L.z3;have v3:=L.v3;have u3:=run_underlying L.t3;have t9:=L.t9;have a9:=L.a9;have z9:=L.z9;have v9:=L.v9;have u9:=run_underlying L.t9;have t5:=X.t5;have a5:=X.a5;have z5:=X.z5;have v5:=X.v5;have u5:=run_underlying X.t5
 go_enter L.f169,Body.n169_ntmps ρ
 go_wp2
 go_region_o
 all_goals (go_wp2;go_ret;exact⟨rfl,rfl⟩)
set_option maxHeartbeats 2000000 in
set_option maxRecDepth 100000 in
theorem str_nil(L:Lays.n169 P ρ)(X:Builder.Extra P ρ)(b:Nat)(w:World)(hb:w.cell? ⟨b,1,none⟩=some (.slice none 0 0)):
  Calls P (ρ.f 169) #[.pointer (some ⟨b,0,none⟩)] w fun e w'=>e= .returned (.string ⟨#[]⟩)∧w'=w.drew:=by
 have hUS:=Any.unsafeString_none L X;have c1:w.drew.cell? ⟨b,1,none⟩=some (.slice none 0 0):=hb;have hSD:(Builtin.unsafeSliceData_ #[(ρ.t 37)] (ρ.t 127) #[.slice none 0 0]).run P w.drew= .ok (.pointer none) w.drew:=rfl;have mixed:=L.mixed;have t72:=L.t72;have a72:=L.a72;have z72:=L.z72;have v72:=L.v72;have u72:=run_underlying L.t72;have t70:=L.t70;have a70:=L.a70;have z70:=L.z70;have v70:=L.v70;have u70:=run_underlying L.t70;have t37:=L.t37;have a37:=L.a37;have z37:=L.z37;have v37:=L.v37;have u37:=run_underlying L.t37;have t127:=L.t127;have a127:=L.a127;have z127:=L.z127;have v127:=L.v127;have u127:=run_underlying L.t127;have t3:=L.t3;have a3:=L.a3;have z3:=L.z3;have v3:=L.v3;have u3:=run_underlying L.t3;have t9:=L.t9;have a9:=L.a9;have z9:=L.z9;have v9:=L.v9;have u9:=run_underlying L.t9;have t5:=X.t5;have a5:=X.a5;have z5:=X.z5;have v5:=X.v5;have u5:=run_underlying X.t5
 go_enter L.f169,Body.n169_ntmps ρ
 go_wp2
 go_region_o
 all_goals (go_wp2;go_ret;exact⟨rfl,rfl⟩)
set_option maxHeartbeats 1000000 in
set_option maxRecDepth 100000 in
theorem len_at(L:Lays.n170 P ρ)(b:Nat){ao:Option Addr}{q cap:Nat}(w:World)(c1:w.cell? ⟨b,1,none⟩=some (.slice ao q cap)):
  Calls P (ρ.f 170) #[.pointer (some ⟨b,0,none⟩)] w fun e w'=>e= .returned (.int .i64 q)∧w'=w:=by
 have mixed:=L.mixed;have t72:=L.t72;have a72:=L.a72;have z72:=L.z72;have v72:=L.v72;have u72:=run_underlying L.t72;have t70:=L.t70;have a70:=L.a70;have z70:=L.z70;have v70:=L.v70;have u70:=run_underlying L.t70;have t37:=L.t37;have a37:=L.a37;have z37:=L.z37;have v37:=L.v37;have u37:=run_underlying L.t37;have t3:=L.t3;have a3:=L.a3;have z3:=L.z3;have v3:=L.v3;have u3:=run_underlying L.t3
 go_enter L.f170,Body.n170_ntmps ρ
 go_wp2
 go_ret
 exact⟨rfl,rfl⟩
end
section
variable [Tabs] {N : Nat} {w0 w : World} {m : Lk} {ι : Nm}
theorem RelM.drew(h:RelM N w0 m ι w):RelM N w0 m ι w.drew:=h.grow (Below.drew (Below.refl _ w))
theorem freezeN_heap(w:World)(a:Addr){n:Nat}(hn:n≠0)(j:Nat):(w.freeze a n).heap[j]?=if j=a.block then(w.heap[j]?).map (fun o=>match o with | .cells c el (lo,hi)=> .cells c el (if lo==hi then(a.off,a.off+n)else(min lo a.off,max hi (a.off+n))) | o=>o)else w.heap[j]?:=by
 unfold World.freeze;rw[if_neg hn];simp only[Array.getElem?_modify];by_cases h:a.block=j
 ·subst h;rw[if_pos rfl,if_pos rfl];cases w.heap[a.block]? with
  | none=>rfl
  | some o=>cases o<;>rfl
 ·rw[if_neg h,if_neg (fun q=>h q.symm)]
theorem freezeN_cell(w:World)(a p:Addr){n:Nat}(hn:n≠0):(w.freeze a n).cell? p=w.cell? p:=by
 unfold World.cell?;rw[freezeN_heap w a hn];by_cases h:p.block=a.block
 ·rw[if_pos h];cases hh:w.heap[p.block]? with
  | none=>rfl
  | some o=>
   cases o with
   | cells c el fr=>obtain⟨lo,hi⟩:=fr;rfl
   | _=>rfl
 ·rw[if_neg h]
theorem RelM.frozenN(h:RelM N w0 m ι w){k:Nat}{b:Blk}(hk:m k=some b)(ho:b.own=true)(hit:Nat.ble itTy b.ty=false)(q:Nat){n:Nat}(hn:n≠0):
  RelM N w0 (m.upd k ⟨b.c,b.ty,false⟩) ι (w.freeze ⟨(ι k).1,q,none⟩ n):=by
 obtain⟨g1,g2,g3⟩:=h.blk k b hk ho
 have hsz:(w.freeze ⟨(ι k).1,q,none⟩ n).heap.size=w.heap.size:=by
  unfold World.freeze;rw[if_neg hn];simp
 have hoth:∀j,j≠(ι k).1→(w.freeze ⟨(ι k).1,q,none⟩ n).heap[j]?=w.heap[j]?:=fun j hj=>by rw[freezeN_heap _ _ hn,if_neg hj]
 have hget:∀j c,m.upd k ⟨b.c,b.ty,false⟩ j=some c→(j=k∧c=⟨b.c,b.ty,false⟩)∨(j≠k∧m j=some c):=fun j c hj=>by
  by_cases e:j=k
  ·subst e;rw[Lk.upd_same]at hj;cases hj;exact .inl ⟨rfl,rfl⟩
  ·rw[Lk.upd_other _ _ e]at hj;exact .inr ⟨e,hj⟩
 refine⟨⟨?_,?_,?_,?_,?_⟩,h.base,?_,?_,?_⟩
 ·rw[←h.below.os];unfold World.freeze;rw[if_neg hn]
 ·rw[←h.below.tape];unfold World.freeze;rw[if_neg hn]
 ·rw[←h.below.output];unfold World.freeze;rw[if_neg hn]
 ·rw[hsz];exact h.below.size
 ·intro j hj;rw[hoth j (by omega)];exact h.below.block j hj
 ·intro j c hj hc;rcases hget j c hj with⟨_,rfl⟩ | ⟨e,hj⟩
  ·cases hc
  ·obtain⟨q1,q2,q3⟩:=h.blk j c hj hc;refine⟨q1,q2,?_⟩;rw[hoth _ (h.inj j k c b hj hk hc e)];exact q3
 ·intro j c hj hc;rcases hget j c hj with⟨rfl,rfl⟩ | ⟨e,hj⟩
  ·refine⟨by rw[hsz];exact h.lt hk ho,fun i v hv=> ?_⟩;rw[freezeN_cell _ _ _ hn,World.cell?,g3,objOf_cells hit,g1,Nat.zero_add];simp only[Option.isSome_none,Bool.false_eq_true,if_false];have hv:b.c[i]?=some v:=hv;simp[hv]
  ·obtain⟨q1,q2⟩:=h.view j c hj hc;refine⟨by rw[hsz];exact q1,fun i v hv=> ?_⟩;rw[freezeN_cell _ _ _ hn];exact q2 i v hv
 ·intro j j' c c' hj hj' hc hne;rcases hget j c hj with⟨_,rfl⟩ | ⟨e,hj1⟩
  ·cases hc
  ·rcases hget j' c' hj' with⟨e',_⟩ | ⟨e',hj2⟩
   ·exact h.inj j j' c b hj1 (by rw[e'];exact hk) hc hne
   ·exact h.inj j j' c c' hj1 hj2 hc hne
end
def jns(b:Blk):Bool:=b.own&& (Nat.beq b.ty 109&&Nat.beq b.c.length 2 || Nat.beq b.ty 111&&Nat.beq b.c.length 3)
def h134:F→Lk→Nat→(Value→Lk→Nat→Prop)→Prop:=fun args m n K=>match args with
 | [.pointer (some ⟨k,0,some sp⟩)]=>match m k with
  | some b=>match jns b,b.c with
   | true,.pointer none::r=>K (.tuple ⟨[]⟩) (m.upd k ⟨.pointer (some ⟨k,0,some sp⟩)::r,b.ty,true⟩) n
   | true,.pointer (some ⟨k',0,some _⟩)::_=>match Nat.beq k' k with
    | true=>K (.tuple ⟨[]⟩) m n
    | false=>False
   | _,_=>False
  | none=>False
 | _=>False
def isB8:F→Bool
 | []=>true
 | .int .u8 n::r=>decide (0≤n∧n<256) &&isB8 r
 | _=>false
def h54:F→Lk→Nat→(Value→Lk→Nat→Prop)→Prop:=fun args m n K=>match args with
 | [.pointer (some ⟨k,0,some _⟩)]=>match m k with
  | some b=>match jns b,b.c with
   | true,_:: .slice none 0 0::_=>K (.string ⟨#[]⟩) m n
   | true,_:: .slice (some ⟨g,0,some _⟩) q cap::_=>match m g with
    | some d=>match d.own&& (Nat.beq d.ty 5&& (!Nat.beq q 0&& (Nat.ble q d.c.length&& (Nat.ble q 9223372036854775807&& (isB8 (d.c.take q) &&Nat.ble q cap)))))with
     | true=>K (.string (ja8 d.c 0 q)) (m.upd g ⟨d.c,d.ty,false⟩) n
     | false=>False
    | none=>False
   | _,_=>False
  | none=>False
 | _=>False
theorem jhc{b:Blk}(h:jns b=true):b.own=true∧Nat.ble itTy b.ty=false∧0<b.c.length∧liesAt Tryz.prog Tryz.prog.depth b.ty (b.c.length/Tryz.prog.cellsOf b.ty) 0 109 1=true:=by
 unfold jns at h;simp only[jaf,Bool.or_eq_true,Nat.beq_eq]at h;obtain⟨h1,⟨h2,h3⟩ | ⟨h2,h3⟩⟩:=h
 ·rw[h2,h3];exact⟨h1,rfl,by decide,by kernel_rfl⟩
 ·rw[h2,h3];exact⟨h1,rfl,by decide,by kernel_rfl⟩
theorem isB8_spec:∀{l:F},isB8 l=true→(jdj l).length=l.length∧ ∀(j:Nat)(x:UInt8),(jdj l)[j]?=some x→l[j]?=some (.int .u8 x.toNat)
 | [],_=>⟨rfl,fun j x h=>by simp[jdj]at h⟩
 | v::r,h=>by
  unfold isB8 at h;split at h
  ·rename_i heq;cases heq
  ·rename_i n r' heq;cases heq;simp only[jaf,jae]at h;obtain⟨⟨h1,h2⟩,h3⟩:=h;obtain⟨q1,q2⟩:=isB8_spec h3;refine⟨by simp[jdj,q1],fun j x hx=> ?_⟩;cases j with
   | zero=>
    simp only[jdj,List.getElem?_cons_zero,Option.some.injEq]at hx;subst hx;have:((UInt8.ofNat n.toNat).toNat:Int)=n:=by rw[UInt8.toNat_ofNat'];omega
    rw[this];rfl
   | succ j=>exact q2 j x (by simpa[jdj]using hx)
  ·cases h
variable [Tabs]
theorem gen134:jcw Tryz.prog 157 h134:=by
 refine⟨⟨_,Tryz.func157,by kernel_rfl,rfl⟩,fun args m n K hh N w0 ι w hrel hwf hargs=> ?_⟩;unfold h134 at hh;split at hh
 case h_2=>exact hh.elim
 rename_i k sp;split at hh
 case h_2=>exact hh.elim
 rename_i b hk;have hargs':([.pointer (some ⟨k,0,some sp⟩)]:F).map (ren ι)=[.pointer (some ⟨(ι k).1,0,none⟩)]→True:=fun _=>trivial
 split at hh
 ·rename_i r hb hc;obtain⟨ho,hit,hpos,hlies⟩:=jhc hb;obtain⟨g1,g2,g3⟩:=hrel.blk k b hk ho;rw[objOf_cells hit]at g3;have e1:([.pointer (some ⟨k,0,some sp⟩)]:F).map (ren ι)=[.pointer (some ⟨(ι k).1,0,none⟩)]:=by simp[ren,ren1,g1]
  rw[e1]
  have hc0:w.cell? ⟨(ι k).1,0,none⟩=some (.pointer none):=by
   rw[World.cell?,g3,hc];rfl
  have hfz:w.frozen? ⟨(ι k).1,0,none⟩=false:=by simp[World.frozen?,g3]
  have hsh:w.shape? (ι k).1=some (b.ty,b.c.length):=by simp[World.shape?,g3]
  refine(chk_fresh (P:=Tryz.prog) (ρ:=Tryz.lays105_ren) {Tryz.lays105 with} Tryz.Builder_Extra_105.toX72 (ι k).1 w hc0 hsh hpos hlies hfz).mono fun e w' ⟨h1,h2⟩=> ?_
  subst h2;have hw:=hrel.write hk ho (b':=⟨.pointer (some ⟨k,0,some sp⟩)::r,b.ty,true⟩) rfl rfl (by rw[hc];rfl) (it_ble hit);refine⟨.tuple ⟨[]⟩,_,n,ι,by rw[h1];simp[ren,renL],hh,Nat.le_refl _,fun _ _=>rfl,?_,fun j c hj=> ?_,by simp[ids,idsL]⟩
  ·rw[setCell_eq_setRow _ _ _ _ _ _ _ g3]
   have:(⟨(⟨.pointer (some ⟨k,0,some sp⟩)::r,b.ty,true⟩:Blk).c.map (ren ι)⟩:Array Value)=(⟨b.c.map (ren ι)⟩:Array Value).setIfInBounds 0 (.pointer (some ⟨(ι k).1,0,none⟩)):=by
    rw[hc];simp[ren,ren1,g1]
   rw[this]at hw;exact hw
  ·by_cases e:j=k
   ·subst e;rw[Lk.upd_same]at hj;cases hj;obtain⟨q1,q2⟩:=hwf j b hk;refine⟨q1,fun i hi=> ?_⟩;simp only[idsL,ids,List.singleton_append,List.mem_cons]at hi;rcases hi with rfl | hi
    ·exact q1
    ·exact q2 i (by rw[hc];simp only[idsL,ids,List.nil_append];exact hi)
   ·rw[Lk.upd_other _ _ e]at hj;exact hwf j c hj
 ·rename_i k' sp' r hb hc;split at hh
  case h_2=>exact hh.elim
  rename_i hkk;have hkk:=jah hkk;subst hkk;obtain⟨ho,hit,hpos,hlies⟩:=jhc hb;obtain⟨g1,g2,g3⟩:=hrel.blk k' b hk ho;rw[objOf_cells hit]at g3;have e1:([.pointer (some ⟨k',0,some sp⟩)]:F).map (ren ι)=[.pointer (some ⟨(ι k').1,0,none⟩)]:=by simp[ren,ren1,g1]
  rw[e1]
  have hc0:w.cell? ⟨(ι k').1,0,none⟩=some (.pointer (some ⟨(ι k').1,0,none⟩)):=by
   rw[World.cell?,g3,hc];simp[ren,ren1,g1]
  refine(Any.Builder_copyCheck_used (P:=Tryz.prog) (ρ:=Tryz.lays105_ren) {Tryz.lays105 with} Tryz.Builder_Extra_105.toX72 (ι k').1 w hc0).mono fun e w' ⟨h1,h2⟩=> ?_
  subst h2;exact⟨.tuple ⟨[]⟩,m,n,ι,by rw[h1];simp[ren,renL],hh,Nat.le_refl _,fun _ _=>rfl,hrel,hwf,by simp[ids,idsL]⟩
 ·exact hh.elim
def s53:Ab.Spec:=fun args bs=>match args,bs with
 | [.pointer (some ⟨_,0,some _⟩)],[some b]=>match b.own&& !Nat.ble itTy b.ty,b.c with
  | true,_:: .slice _ q _::_=>some (true,.int .i64 (Int.ofNat q))
  | _,_=>none
 | _,_=>none
theorem ok53:jan Tryz.prog 65 s53:=by
 refine⟨⟨_,Tryz.func65,by kernel_rfl,rfl⟩,fun args v N w0 lk ι w hrel hs hp=> ?_⟩;unfold s53 at hs;split at hs
 case h_2=>cases hs
 rename_i k sp b hbs;have hb:blkOf lk (.pointer (some ⟨k,0,some sp⟩))=some b:=by simpa using hbs
 split at hs
 case h_2=>cases hs
 rename_i v0 ao q cap r ho hc;simp only[jaf,Bool.not_eq_true']at ho;simp only[Option.some.injEq,Prod.mk.injEq,true_and]at hs;subst hs;have hk:=(jh1 hb).1;obtain⟨g1,g2,g3⟩:=hrel.blk k b hk ho.1;rw[objOf_cells ho.2]at g3;have e1:([.pointer (some ⟨k,0,some sp⟩)]:F).map (ren ι)=[.pointer (some ⟨(ι k).1,0,none⟩)]:=by simp[ren,ren1,g1]
 rw[e1]
 have hc1:∃ao',w.cell? ⟨(ι k).1,1,none⟩=some (.slice ao' q cap):=by
  rw[World.cell?,g3,hc];cases ao with
  | none=>exact⟨none,by simp[ren]⟩
  | some a=>exact⟨_,by simp[ren];rfl⟩
 obtain⟨ao',hc1⟩:=hc1;refine(len_at (P:=Tryz.prog) (ρ:=Tryz.lays105_ren) {Tryz.lays105 with} (ι k).1 w hc1).mono fun e w' ⟨h1,h2⟩=> ?_
 subst h2;exact⟨h1,Below.refl _ _⟩
theorem gen54:jcw Tryz.prog 66 h54:=by
 refine⟨⟨_,Tryz.func66,by kernel_rfl,rfl⟩,fun args m n K hh N w0 ι w hrel hwf hargs=> ?_⟩;unfold h54 at hh;split at hh
 case h_2=>exact hh.elim
 rename_i k sp;split at hh
 case h_2=>exact hh.elim
 rename_i b hk;split at hh
 ·rename_i v0 r hb hc;obtain⟨ho,hit,hpos,hlies⟩:=jhc hb;obtain⟨g1,g2,g3⟩:=hrel.blk k b hk ho;rw[objOf_cells hit]at g3;have e1:([.pointer (some ⟨k,0,some sp⟩)]:F).map (ren ι)=[.pointer (some ⟨(ι k).1,0,none⟩)]:=by simp[ren,ren1,g1]
  rw[e1]
  have hc1:w.cell? ⟨(ι k).1,1,none⟩=some (.slice none 0 0):=by
   rw[World.cell?,g3,hc];rfl
  refine(str_nil (P:=Tryz.prog) (ρ:=Tryz.lays105_ren) {Tryz.lays105 with} Tryz.Builder_Extra_105 (ι k).1 w hc1).mono fun e w' ⟨h1,h2⟩=> ?_
  subst h2;exact⟨.string ⟨#[]⟩,m,n,ι,by rw[h1];simp[ren],hh,Nat.le_refl _,fun _ _=>rfl,RelM.drew hrel,hwf,by simp[ids]⟩
 ·rename_i v0 g sp' q cap r hb hc;split at hh
  case h_2=>exact hh.elim
  rename_i d hd;split at hh
  case h_2=>exact hh.elim
  rename_i hq;simp only[jaf,Nat.beq_eq,Bool.not_eq_true',Nat.ble_eq]at hq;obtain⟨d1,d2,d3,d5,d6,d7,d4⟩:=hq;have d3:q≠0:=fun e=>by rw[e]at d3;cases d3
  obtain⟨ho,hit,hpos,hlies⟩:=jhc hb;obtain⟨g1,g2,g3⟩:=hrel.blk k b hk ho;rw[objOf_cells hit]at g3;have dit:Nat.ble itTy d.ty=false:=by rw[d2];rfl
  obtain⟨f1,f2,f3⟩:=hrel.blk g d hd d1;rw[objOf_cells dit]at f3;have e1:([.pointer (some ⟨k,0,some sp⟩)]:F).map (ren ι)=[.pointer (some ⟨(ι k).1,0,none⟩)]:=by simp[ren,ren1,g1]
  rw[e1];obtain⟨b1,b2⟩:=isB8_spec d7;have hl:(jdj (d.c.take q)).length=q:=by rw[b1,List.length_take];omega
  have hc1:w.cell? ⟨(ι k).1,1,none⟩=some (.slice (some ⟨(ι g).1,0,none⟩) (jdj (d.c.take q)).length cap):=by
   rw[World.cell?,g3,hc,hl];simp[ren,ren1,f1]
  have hsh:w.shape? (ι g).1=some (Tryz.lays105_ren.t 5,(⟨d.c.map (ren ι)⟩:Array Value).size):=by
   have:Tryz.lays105_ren.t 5=5:=rfl;rw[this,←d2];simp[World.shape?,f3]
  have hsz:(⟨d.c.map (ren ι)⟩:Array Value).size=d.c.length:=by simp
  refine(str_row (P:=Tryz.prog) (ρ:=Tryz.lays105_ren) {Tryz.lays105 with} Tryz.Builder_Extra_105 (ι k).1 (ι g).1 cap ⟨d.c.map (ren ι)⟩ (jdj (d.c.take q)) w (fun e=>by rw[e]at hl;exact d3 hl.symm) hc1 hsh (by omega) (by rw[hsz,hl];exact d5) (by rw[hl];exact d6) ?_).mono fun e w' ⟨h1,h2⟩=> ?_
  ·intro j x hx;have:=b2 j x hx;rw[List.getElem?_take]at this;split at this
   ·rw[World.cell?];have e2:((⟨(ι g).1,0,none⟩:Addr).add j)=⟨(ι g).1,j,none⟩:=by simp[Addr.add];omega
    rw[e2,f3];simp[this,ren]
   ·cases this
  ·subst h2;rw[hl];refine⟨.string (ja8 d.c 0 q),_,n,ι,by rw[h1];simp[ren,ja8],hh,Nat.le_refl _,fun _ _=>rfl,RelM.frozenN (RelM.drew hrel) hd d1 dit 0 d3,fun j c hj=> ?_,by simp[ids]⟩;by_cases e:j=g
   ·subst e;rw[Lk.upd_same]at hj;cases hj;exact hwf j d hd
   ·rw[Lk.upd_other _ _ e]at hj;exact hwf j c hj
 ·exact hh.elim
end Go.Ff
end
noncomputable section
set_option maxHeartbeats 3200000
namespace Go.Ff
open Go Go.Ab Go.Proofs Go.Shelf Go.Px
def P0:Env:=(Env.nil.add 118 (sp2 s103))
theorem ok_P0:ja0 Tryz.prog P0:=jak jav ok103
theorem jjk:∀(l:J)(c:Int),-1≤jb9 l c∧jb9 l c<l.length
 | [],_=>⟨Int.le_refl _,by simp[jb9]⟩
 | b::l,c=>by
  have:=jjk l c;simp only[jb9,List.length_cons];split
  ·split<;>omega
  ·omega
def s85:Ab.Spec:=fun args bs=>match args,bs with
 | [.pointer (some ⟨_,0,some 0⟩)],[some ⟨[.string s,.int .i64 p],ty,o⟩]=>some (decide (0≤p∧p≤s.size),S (s.extract p.toNat s.size))
 | [.pointer (some ⟨_,0,some (sp+1)⟩)],[some ⟨[.string s,.int .i64 p],ty,o⟩]=>some (decide (0≤p∧p≤s.size),S (s.extract p.toNat s.size))
 | _,_=>none
theorem v85_0(s:Y)(p:Int)(ty:TypeId)(o:Bool)(R:Value→Prop):jaz Tryz.prog P0 noL Tryz.f144 [.pointer (some ⟨0,0,some 0⟩)] (jc3 [some ⟨[S s,I p],ty,o⟩]) 1 (fun v _ _=>R v)=(Cx.lq s (Cx.kj s p) p (al s) R):=by kernel_rfl
theorem v85_1(sp:Nat)(s:Y)(p:Int)(ty:TypeId)(o:Bool)(R:Value→Prop):jaz Tryz.prog P0 noL Tryz.f144 [.pointer (some ⟨0,0,some (sp+1)⟩)] (jc3 [some ⟨[S s,I p],ty,o⟩]) 1 (fun v _ _=>R v)=(Cx.lq s (Cx.kj s p) p (al s) R):=by kernel_rfl
theorem k85_0(s:Y)(p:Int)(ty:TypeId)(o:Bool)(hc:(decide (0≤p∧p≤s.size))=true):jba Tryz.prog P0 noL Tryz.f144 [.pointer (some ⟨0,0,some 0⟩)] [some ⟨[S s,I p],ty,o⟩] 1 (S (s.extract p.toNat s.size)):=by
 rw[jba,v85_0];delta aq ez al Cx.lq Cx.kj;have hc:=jab hc
 first
  | exact c_t (jaa ⟨hc.1,hc.2,Int.le_refl _⟩) rfl
  | trace_state
theorem k85_1(sp:Nat)(s:Y)(p:Int)(ty:TypeId)(o:Bool)(hc:(decide (0≤p∧p≤s.size))=true):jba Tryz.prog P0 noL Tryz.f144 [.pointer (some ⟨0,0,some (sp+1)⟩)] [some ⟨[S s,I p],ty,o⟩] 1 (S (s.extract p.toNat s.size)):=by
 rw[jba,v85_1];delta aq ez al Cx.lq Cx.kj;have hc:=jab hc
 first
  | exact c_t (jaa ⟨hc.1,hc.2,Int.le_refl _⟩) rfl
  | trace_state
theorem ok85:jan Tryz.prog 144 s85:=by
 refine jbz ok_P0 hmix (.m Tryz.func144) jaj fun args bs v hs=> ?_
 simp only[s85]at hs;split at hs
 ·simp only[Option.some.injEq,Prod.mk.injEq]at hs;obtain⟨hc,rfl⟩:=hs;exact⟨_,1,rfl,rfl,jag,k85_0 _ _ _ _ (by first | rfl | exact hc)⟩
 ·simp only[Option.some.injEq,Prod.mk.injEq]at hs;obtain⟨hc,rfl⟩:=hs;exact⟨_,1,rfl,rfl,jag,k85_1 _ _ _ _ _ (by first | rfl | exact hc)⟩
 ·cases hs
def s63:Ab.Spec:=fun args bs=>match args,bs with
 | [.pointer (some ⟨_,0,some 0⟩)],[some ⟨[.string s,.int .i64 p],ty,o⟩]=>some (decide (0≤p∧p≤s.size∧s.size≤1000000),I (p-jb9 ((bz s).take p.toNat) 10))
 | [.pointer (some ⟨_,0,some (sp+1)⟩)],[some ⟨[.string s,.int .i64 p],ty,o⟩]=>some (decide (0≤p∧p≤s.size∧s.size≤1000000),I (p-jb9 ((bz s).take p.toNat) 10))
 | _,_=>none
def ox(b:Y)(a:Int)(c:Value→Prop):Prop:=bif ez 0 0 a a (al b)then aq (decide ((b.extract 0 a.toNat).size≤4611686018427387903)) (bp (a-jb9 (bz (b.extract 0 a.toNat)) 10)) c else False
theorem v63_0(s:Y)(p:Int)(ty:TypeId)(o:Bool)(R:Value→Prop):jaz Tryz.prog P0 noL Tryz.f67 [.pointer (some ⟨0,0,some 0⟩)] (jc3 [some ⟨[S s,I p],ty,o⟩]) 1 (fun v _ _=>R v)=(ox s p R):=by kernel_rfl
theorem v63_1(sp:Nat)(s:Y)(p:Int)(ty:TypeId)(o:Bool)(R:Value→Prop):jaz Tryz.prog P0 noL Tryz.f67 [.pointer (some ⟨0,0,some (sp+1)⟩)] (jc3 [some ⟨[S s,I p],ty,o⟩]) 1 (fun v _ _=>R v)=(ox s p R):=by kernel_rfl
theorem k63_0(s:Y)(p:Int)(ty:TypeId)(o:Bool)(hc:(decide (0≤p∧p≤s.size∧s.size≤1000000))=true):jba Tryz.prog P0 noL Tryz.f67 [.pointer (some ⟨0,0,some 0⟩)] [some ⟨[S s,I p],ty,o⟩] 1 (I (p-jb9 ((bz s).take p.toNat) 10)):=by
 rw[jba,v63_0];delta aq bp ez al ox;have hc:=jab hc;have hb:=jjk ((bz s).take p.toNat) 10;rw[List.length_take,jam]at hb;have e:bz (s.extract 0 p.toNat)=(bz s).take p.toNat:=by rw[jb7];rfl
 rw[e,w64 (by omega)];refine c_t (jaa ⟨Int.le_refl _,hc.1,hc.2.1⟩) (c_t ?_ rfl);rw[ByteArray.size_extract];exact jaa (by omega)
theorem k63_1(sp:Nat)(s:Y)(p:Int)(ty:TypeId)(o:Bool)(hc:(decide (0≤p∧p≤s.size∧s.size≤1000000))=true):jba Tryz.prog P0 noL Tryz.f67 [.pointer (some ⟨0,0,some (sp+1)⟩)] [some ⟨[S s,I p],ty,o⟩] 1 (I (p-jb9 ((bz s).take p.toNat) 10)):=by
 rw[jba,v63_1];delta aq bp ez al ox;have hc:=jab hc;have hb:=jjk ((bz s).take p.toNat) 10;rw[List.length_take,jam]at hb;have e:bz (s.extract 0 p.toNat)=(bz s).take p.toNat:=by rw[jb7];rfl
 rw[e,w64 (by omega)];refine c_t (jaa ⟨Int.le_refl _,hc.1,hc.2.1⟩) (c_t ?_ rfl);rw[ByteArray.size_extract];exact jaa (by omega)
theorem ok63:jan Tryz.prog 67 s63:=by
 refine jbz ok_P0 hmix (.m Tryz.func67) jaj fun args bs v hs=> ?_
 simp only[s63]at hs;split at hs
 ·simp only[Option.some.injEq,Prod.mk.injEq]at hs;obtain⟨hc,rfl⟩:=hs;exact⟨_,1,rfl,rfl,jag,k63_0 _ _ _ _ (by first | rfl | exact hc)⟩
 ·simp only[Option.some.injEq,Prod.mk.injEq]at hs;obtain⟨hc,rfl⟩:=hs;exact⟨_,1,rfl,rfl,jag,k63_1 _ _ _ _ _ (by first | rfl | exact hc)⟩
 ·cases hs
def s61:Ab.Spec:=fun args bs=>match args,bs with
 | [.pointer (some ⟨_,0,some 0⟩)],[some ⟨[.string s,.int .i64 p],ty,o⟩]=>some (true,I p)
 | [.pointer (some ⟨_,0,some (sp+1)⟩)],[some ⟨[.string s,.int .i64 p],ty,o⟩]=>some (true,I p)
 | _,_=>none
theorem v61_0(s:Y)(p:Int)(ty:TypeId)(o:Bool)(R:Value→Prop):jaz Tryz.prog P0 noL Tryz.f99 [.pointer (some ⟨0,0,some 0⟩)] (jc3 [some ⟨[S s,I p],ty,o⟩]) 1 (fun v _ _=>R v)=(R (I p)):=by kernel_rfl
theorem v61_1(sp:Nat)(s:Y)(p:Int)(ty:TypeId)(o:Bool)(R:Value→Prop):jaz Tryz.prog P0 noL Tryz.f99 [.pointer (some ⟨0,0,some (sp+1)⟩)] (jc3 [some ⟨[S s,I p],ty,o⟩]) 1 (fun v _ _=>R v)=(R (I p)):=by kernel_rfl
theorem k61_0(s:Y)(p:Int)(ty:TypeId)(o:Bool)(hc:(true)=true):jba Tryz.prog P0 noL Tryz.f99 [.pointer (some ⟨0,0,some 0⟩)] [some ⟨[S s,I p],ty,o⟩] 1 (I p):=by
 rw[jba,v61_0]
theorem k61_1(sp:Nat)(s:Y)(p:Int)(ty:TypeId)(o:Bool)(hc:(true)=true):jba Tryz.prog P0 noL Tryz.f99 [.pointer (some ⟨0,0,some (sp+1)⟩)] [some ⟨[S s,I p],ty,o⟩] 1 (I p):=by
 rw[jba,v61_1]
theorem ok61:jan Tryz.prog 99 s61:=by
 refine jbz ok_P0 hmix (.m Tryz.func99) jaj fun args bs v hs=> ?_
 simp only[s61]at hs;split at hs
 ·simp only[Option.some.injEq,Prod.mk.injEq]at hs;obtain⟨hc,rfl⟩:=hs;exact⟨_,1,rfl,rfl,jag,k61_0 _ _ _ _ (by first | rfl | exact hc)⟩
 ·simp only[Option.some.injEq,Prod.mk.injEq]at hs;obtain⟨hc,rfl⟩:=hs;exact⟨_,1,rfl,rfl,jag,k61_1 _ _ _ _ _ (by first | rfl | exact hc)⟩
 ·cases hs
end Go.Ff
end
noncomputable section
namespace Go.Px
open Go Go.Proofs
open Go.Proofs.YtiahilhlpmohoaaGreatDoor
theorem q_laid:laidOutB Tryz.prog=true:=by kernel_rfl
theorem q_maps:mapsRowed Tryz.prog=true:=by kernel_rfl
theorem q_stop:(Tryz.prog.stops==[])=true:=by kernel_rfl
theorem q_knob:(Tryz.prog.stopKnobs==[])=true:=by kernel_rfl
theorem q_keys:(Rows.formatStarsRow.plainKeys==Tryz.prog.plainKeys)=true:=by kernel_rfl
theorem q_heard:Tryz.prog.stopsHeard=true:=by kernel_rfl
theorem q_enter:Tryz.prog.mayEnter=true:=by kernel_rfl
theorem q_lifts:(Rows.formatStarsRow.lifted==Tryz.prog.liftsFinal)=true:=by kernel_rfl
theorem q_make:(Tryz.prog.make==some Rows.formatStarsRow.make)=true:=by kernel_rfl
theorem main_is : Tryz.pinned.checked.prog.mainIs = some (true, ("162ec243084bfa9709d57c15b7c67653890d8251fb86ae663da2c28d9c8f9ac0" : String).toList) := by kernel_rfl
theorem looks_is:true=Tryz.pinned.checked.prog.looks []:=by kernel_rfl
end Go.Px
end
noncomputable section
set_option maxHeartbeats 3200000
namespace Go.Ff
open Go Go.Ab Go.Proofs Go.Shelf Go.Px
/-- The tables; bytes that are made of a string may be written into. -/
instance tabsB:Tabs:={row:=jme,plain:=tabs.plain,ownB:=true}
theorem RelM.toA{N:Nat}{w0:World}{m:Lk}{ι:Nm}{w:World}(h: @RelM tabsB N w0 m ι w): @RelM tabs N w0 m ι w:=
 @RelM.mk tabs N w0 m ι w h.below h.base h.blk h.view h.inj
theorem RelM.toB{N:Nat}{w0:World}{m:Lk}{ι:Nm}{w:World}(h: @RelM tabs N w0 m ι w): @RelM tabsB N w0 m ι w:=
 @RelM.mk tabsB N w0 m ι w (@RelM.below tabs N w0 m ι w h) (@RelM.base tabs N w0 m ι w h) (@RelM.blk tabs N w0 m ι w h) (@RelM.view tabs N w0 m ι w h) (@RelM.inj tabs N w0 m ι w h)
theorem pureB{f:FuncId}{s:Ab.Spec}(h: @jan tabs Tryz.prog f s): @jan tabsB Tryz.prog f s:=
 ⟨h.1,fun args v N w0 lk ι w hr hs hv=>h.2 args v N w0 lk ι w (RelM.toA hr) hs hv⟩
structure BrP (d:F)(m cap:Nat):Prop where
 bytes:jbx d=true
 len:d.length=cap
 le:m≤cap
 lim:m≤1000
def brOK(d:F)(m cap:Nat):Bool:=jbx d&& (Nat.beq d.length cap&& (Nat.ble m cap&&Nat.ble m 1000))
def jcu:Nat→J→J
 | 0,L=>if L.getD 0 0≠57 then L.set 0 (IntKind.u8.wrap (L.getD 0 0+1))else L
 | i+1,L=>if L.getD (i+1) 0≠57 then L.set (i+1) (IntKind.u8.wrap (L.getD (i+1) 0+1))else jcu i (L.set (i+1) 48)
def noN(L:J)(i:Nat):Bool:=(L.take (i+1)).any fun c=> !(c==57)
theorem jfr{d:F}{m cap:Nat}:brOK d m cap=true↔BrP d m cap:=by
 simp only[brOK,jaf,Nat.ble_eq,Nat.beq_eq];exact⟨fun⟨h1,h2,h3,h4⟩=>⟨h1,h2,h3,h4⟩,fun⟨h1,h2,h3,h4⟩=>⟨h1,h2,h3,h4⟩⟩
theorem BrP.plain{d:F}{m cap:Nat}(h:BrP d m cap):jay d=true:=isB_plain h.bytes
theorem BrP.good{d:F}{m cap:Nat}(h:BrP d m cap)(ps:List (Nat×Nat)):(jas ps d&&true&&true)=true:=by rw[goodL_plain h.plain];rfl
theorem BrP.rlb{d:F}{m cap:Nat}(h:BrP d m cap)(ps:List (Nat×Nat)):rlbL ps d=d:=rlbL_plain ps h.plain
theorem BrP.zlen{d:F}{m cap:Nat}(h:BrP d m cap):(zc d m).length=m:=by
 have h1:=h.len;have h2:=h.le;simp only[zc,List.length_map,List.length_take];omega
theorem BrP.at{d:F}{m cap:Nat}(h:BrP d m cap){i:Int}(h0:0≤i)(hi:i<m):jbc .u8 d i.toNat=true∧jaq d i.toNat=(zc d m).getD i.toNat 0:=by
 have h1:=h.len;have h2:=h.le;obtain⟨q1,q2⟩:=atB h.bytes (j:=i.toNat) (by omega);refine⟨q1,?_⟩;rw[q2,zc,List.getD_eq_getElem?_getD,List.getD_eq_getElem?_getD,List.getElem?_map,List.getElem?_map,List.getElem?_take_of_lt (by omega)]
theorem BrP.set{d:F}{m cap:Nat}(h:BrP d m cap)(k:Nat)(x:Int):BrP (d.set k (.int .u8 x)) m cap∧zc (d.set k (.int .u8 x)) m=(zc d m).set k x:=by
 refine⟨⟨jjm.2 fun v hv=> ?_,by rw[List.length_set];exact h.len,h.le,h.lim⟩,?_⟩
 ·rcases List.mem_or_eq_of_mem_set hv with q | q
  ·exact jjm.1 h.bytes v q
  ·exact⟨x,q⟩
 ·rw[zc,zc,List.take_set,List.map_set];rfl
theorem BrP.str{d:F}{m cap:Nat}(h:BrP d m cap):jbe d 0 m=true∧ja8 d 0 m=sz (zc d m):=by
 have hz:=h.zlen;have hb:jbx (d.take m)=true:=jjm.2 fun v hv=>jjm.1 h.bytes v (List.mem_of_mem_take hv)
 have e:d=cz (zc d m)++d.drop m:=by rw[zc,jmg hb,List.take_append_drop]
 have h1:=bytesOK_cz (zc d m) (d.drop m);have h2:=bytesOf_cz (zc d m) (d.drop m);rw[←e,hz]at h1 h2;exact⟨h1,h2⟩
def EN:Env:=Env.nil
theorem ok_EN:ja0 Tryz.prog EN:=jav
theorem jdw{n:Nat}(h:n≤9223372036854775807):jbn n=true:=Nat.ble_eq_true_of_le h
theorem noN_step{L:J}{k:Nat}(q:L.getD (k+1) 0=57)(h:noN L (k+1)=true)(hl:k+1<L.length):noN (L.set (k+1) 48) k=true:=by
 simp only[noN,List.any_eq_true]at h ⊢;obtain⟨c,hc,hn⟩:=h;refine⟨c,?_,hn⟩;rw[List.take_set_of_le (by omega)];rw[List.take_succ_eq_append_getElem hl]at hc;rcases List.mem_append.1 hc with hc | hc
 ·exact hc
 ·rw[List.getD_eq_getElem?_getD,List.getElem?_eq_getElem hl]at q;simp only[List.mem_singleton,Option.getD_some]at hc q;rw[hc,q]at hn;cases hn
def V180_0:Y×F×Nat×Nat×Int→F:=fun(r,d,m,cap,i)=> [S r,.slice (some ⟨3,0,some 1⟩) m cap,I i]
def B180_0:Y×F×Nat×Nat×Int→O:=fun(r,d,m,cap,i)=> [some ⟨d,itTy+1+5,true⟩]
def S180_0:LSpecA (Y×F×Nat×Nat×Int) where
 live:=[2,3,4]
 mid:=[3]
 n:=120
 ap:=[]
 dec vs bs:=match vs,bs with
  | [.string r,.slice (some ⟨3,0,some 1⟩) m cap,.int .i64 i],[some ⟨d,ty,true⟩]=>match Nat.beq ty (itTy+1+5)with | true=>some (r,d,m,cap,i) | false=>none
  | _,_=>none
 pre:=fun(r,d,m,cap,i)=>brOK d m cap&& (decide (0≤i∧i<m) &&noN (zc d m) i.toNat)
 fin:=fun(r,d,m,cap,i) Z=>∀d' i',brOK d' m cap=true→Z .ret [S (sz (jcu i.toNat (zc d m))),.slice (some ⟨3,0,some 1⟩) m cap,I i'] [some ⟨d',itTy+1+5,true⟩]
def ni(b:Int)(a:F):F:=setL a (e7 b) [kf (cq b a 0 1+1)]
theorem r180_0(r:Y)(d:F)(m:Nat)(cap:Nat)(i:Int)(jk:Tmps)(R:Exit→F→O→Prop):(jb6 Tryz.prog EN noL Tryz.f241.ntmps (jbb Tryz.f241 0) (tl S180_0.live (V180_0 (r,d,m,cap,i)) jk) (ml S180_0.mid (B180_0 (r,d,m,cap,i))) S180_0.n fun e t' m' _=>S180_0.out R e t' m')=(bif dp i m then bif jbc .u8 d (e7 i)then bif cq i d 0 1 !=57 then bif dp i m then bif jbc .u8 d (e7 i)then bif dp i m then bif Nat.ble (e7 i+1) d.length then bif jbe (ni i d) 0 m then bif bw [] (ni i d)then R .ret [S (ja8 (ni i d) 0 m),dv 3 0 m cap,ak i] [some (.mk (rlbL [] (ni i d)) 4611686018427387910 true)]else False else False else False else False else False else False else bif dp i m then bif Nat.ble (e7 i+1) d.length then cu (bw [] (setL d (e7 i) [bm 48])) R [some (.mk (rlbL [] (setL d (e7 i) [bm 48])) 4611686018427387910 true)] [S r,dv 3 0 m cap,bp (i-1)]else False else False else False else False):=by kernel_rfl
theorem l180_0:LOKf Tryz.prog (oneL 0 S180_0.hA) Tryz.f241:=by
 refine jcb (h:=S180_0.hA) (by kernel_rfl) (jbu ok_EN hmix (by kernel_rfl) (jbf _) S180_0 V180_0 B180_0 (fun(r,d,m,cap,i)=>i.toNat) ?_ ?_ ?_)
 ·intro vs bs s h;simp only[S180_0]at h;split at h
  all_goals first | (cases h;exact⟨rfl,rfl⟩) | cases h | (split at h<;>first | (rename_i hq;cases h;have hq:=jah hq;subst hq;exact⟨rfl,rfl⟩) | cases h)
 ·exact fun⟨r,d,m,cap,i⟩ hp=>by
   simp only[S180_0,jaf]at hp;simp[V180_0,B180_0,S180_0,jaw,jbt,idsL,ids,jao (jfr.1 hp.1).plain]
 ·intro⟨r,d,m,cap,i⟩ jk Z hp hf;rw[r180_0];delta cu bp dq dv bm e7 bw ct dp kf cq ni ak;simp only[S180_0]at hp hf;simp only[jaf,jae]at hp;obtain⟨hv,⟨h0,hi⟩,hn⟩:=hp;have hv:=jfr.1 hv;obtain⟨a1,a2⟩:=hv.at h0 hi;have hlen:=hv.len;have hle:=hv.le;have hlim:=hv.lim;have hz:=hv.zlen;rw[Nat.mul_one,Nat.zero_add];refine c_t (jaa ⟨h0,hi⟩) (c_t a1 (cond_intro (fun q=> ?_) (fun q=> ?_)))
  ·have q:jaq d i.toNat≠57:=by simpa using q
   obtain⟨b1,b2⟩:=hv.set i.toNat (IntKind.u8.wrap (jaq d i.toNat+1));have es:setL d i.toNat [.int .u8 (IntKind.u8.wrap (jaq d i.toNat+1))]=d.set i.toNat (.int .u8 (IntKind.u8.wrap (jaq d i.toNat+1))):=rfl;rw[es,b1.rlb];obtain⟨s1,s2⟩:=b1.str;refine c_t (jaa ⟨h0,hi⟩) (c_t a1 (c_t (jaa ⟨h0,hi⟩) (c_t (Nat.ble_eq_true_of_le (by omega)) (c_t s1 (c_t (b1.good _) ?_)))));rw[s2,b2]
   have e:jcu i.toNat (zc d m)=(zc d m).set i.toNat (IntKind.u8.wrap (jaq d i.toNat+1)):=by
    rw[a2]at q ⊢;cases hk:i.toNat with
    | zero=>rw[hk]at q;simp only[jcu];rw[if_pos q]
    | succ k=>rw[hk]at q;simp only[jcu];rw[if_pos q]
   have:=hf _ i (jfr.2 b1);rw[e]at this;exact this
  ·have q:jaq d i.toNat=57:=by simpa using q
   obtain⟨b1,b2⟩:=hv.set i.toNat 48;have es:setL d i.toNat [.int .u8 48]=d.set i.toNat (.int .u8 48):=rfl;rw[es,b1.rlb];rw[a2]at q
   obtain⟨k,hk⟩:∃k,i.toNat=k+1:=by
    cases hk:i.toNat with
    | zero=>
     rw[hk]at q hn;simp only[noN]at hn;cases hL:zc d m with
     | nil=>rw[hL]at hz;simp at hz;omega
     | cons c r=>rw[hL]at q hn;simp at hn q;exact absurd q hn
    | succ k=>exact⟨k,rfl⟩
   refine c_t (jaa ⟨h0,hi⟩) (c_t (Nat.ble_eq_true_of_le (by omega)) (c_t (b1.good _) ?_));have e1:(i-1).toNat=k:=by omega
   rw[w64 (n:=i-1) (by omega)];refine⟨(r,d.set i.toNat (.int .u8 48),m,cap,i-1),rfl,rfl,?_,by simp only;omega,fun d' i' h1=> ?_⟩
   ·simp only[S180_0,jaf,jae];refine⟨jfr.2 b1,by omega,?_⟩;rw[b2,e1,hk];exact noN_step (by rw[hk]at hn q;exact q) (by rw[hk]at hn;exact hn) (by omega)
   ·rw[b2,e1];have:=hf d' i' h1;rw[hk]at this q ⊢;simp only[jcu]at this;rw[if_neg (fun h=>h q)]at this;exact this
def s180(s:Y):Bool×Value:=(decide (s.size≤900),.string (sz (jcu s.size (48::bz s))))
theorem v180(s:Y)(R:Value→Prop):jaz Tryz.prog EN (oneL 0 S180_0.hA) Tryz.f241 [Enc.enc s] (fun _=>none) 0 (fun v _ _=>R v)=(bif fu cv s then∀a:Nat,∀b:F,jls (cv++s) a b=true→fw (bw [] b) (j2 b 120) (Ff.S180_0.toLSpec.pre (am,(rlbL [] b,((cv++s).size,(a,bu (natO (cv++s).size) 1))))) (∀c:F,Int→Ff.brOK c (cv++s).size a=true→gy c 120 (R (S (sz (Ff.jcu (bu (natO (cv++s).size) 1).toNat (zc (rlbL [] b) (cv++s).size)))))) False else False):=by kernel_rfl
theorem ok180:jan Tryz.prog 241 (sp1 s180):=by
 refine jck ok_EN hmix (.m Tryz.func241) l180_0 jag fun s hc=> ?_
 rw[ja5,v180];delta fw gy cv bu am j2 bw fu;have hc:(s.size≤900):=jab hc
 try dsimp only[s180]
 refine c_t (jdw (by show 1+s.size≤_;omega)) fun cap d hd=> ?_
 simp only[jls,jaf,Nat.beq_eq,Nat.ble_eq,jae]at hd;obtain⟨k1,k2,k3,k4⟩:=hd;have zS:(ByteArray.mk #[48]++s).size=s.size+1:=by rw[ByteArray.size_append];show 1+s.size=_;omega
 have B:BrP d (ByteArray.mk #[48]++s).size cap:=⟨k3,k1,k2,by omega⟩
 have kz:zc d (ByteArray.mk #[48]++s).size=48::bz s:=by
  rw[zc,show iv=cInt from by funext v;cases v<;>rfl,k4];show bz (ByteArray.mk #[48]++s)=_;rw[jbr];rfl
 have ei:IntKind.wrap .i64 (natO (ByteArray.mk #[48]++s).size-1)=(s.size:Int):=by
  rw[jb1,zS,w64 (by omega)];omega
 rw[B.rlb,kz,ei];refine c_t (by rw[B.good,jbl B.plain];rfl) (c_t ?_ fun d' i' hd'=>c_t (by rw[jbl (jfr.1 hd').plain];rfl) fun x=> ?_)
 ·simp only[S180_0,jaf,jae];refine⟨jfr.2 B,by rw[zS];omega,?_⟩;rw[kz];simp[noN]
 ·rw[Int.toNat_natCast]
end Go.Ff
end
noncomputable section
set_option maxHeartbeats 3200000
namespace Go.Ff
open Go Go.Ab Go.Proofs Go.Shelf Go.Px Go.Cv Go.Cx
open Go.Fx (Ty Vl)
def F0:Env:=(((((Env.nil.add 110 (sp2 Cx.s154)).add 114 (sp2 Cx.s30)).add 130 (sp1 Cx.s29)).add 241 (sp1 s180)))
theorem ok_F0:ja0 Tryz.prog F0:=jak (jak (jak (jak jav (pureB Cx.ok154)) (pureB Cx.ok30)) (pureB Cx.ok29)) ok180
def scZ(n q:Int):Num:=if trZ (itoZ (n.natAbs:Int)) 48=[]then(false,[],0)else(decide (n<0),trZ (itoZ (n.natAbs:Int)) 48,q-(((itoZ (n.natAbs:Int)).length:Int)-(trZ (itoZ (n.natAbs:Int)) 48).length))
def upS(l:J)(k:Nat):J:=if 53≤l.getD k 0 then jcu k (48::l.take k)else l.take k
def roF(l:J)(c b:Int):J×Bool:=
 if c≤b then if l≠ []∧(l.length:Int)+(b-c)>300 then([],false)else(tlZ (l++repZ [48] (min (b-c) 300).toNat) 48,decide (((l++repZ [48] (min (b-c) 300).toNat).length:Int)≤300))
 else if(l.length:Int)+(b-c)<0 then([],true)else
  (tlZ (upS l ((l.length:Int)+(b-c)).toNat) 48,decide (((upS l ((l.length:Int)+(b-c)).toNat).length:Int)≤300))
theorem plus_len:∀(i:Nat)(L:J),(jcu i L).length=L.length
 | 0,L=>by simp only[jcu];split<;>simp
 | i+1,L=>by
  simp only[jcu];split
  ·simp
  ·rw[plus_len i,List.length_set]
theorem jkv{L:J}(h:IsB L)(k:Nat){c:Int}(hc:0≤c∧c<256):IsB (L.set k c):=fun x hx=>by
 rcases List.mem_or_eq_of_mem_set hx with h' | rfl
 ·exact h x h'
 ·exact hc
theorem plus_isB{L:J}(h:IsB L):∀i,IsB (jcu i L):=by
 have w:∀n:Int,0≤IntKind.u8.wrap n∧IntKind.u8.wrap n<256:=fun n=>by rw[w8e];omega
 intro i
 induction i generalizing L with
 | zero=>simp only[jcu];split;exact jkv h _ (w _);exact h
 | succ i ih=>simp only[jcu];split;exact jkv h _ (w _);exact ih (jkv h _ (by omega))
theorem less5{c:UInt8}{l:Yb}:Op.bytesLess (c::l) [53]=decide (c.toNat<53):=by
 have e:Op.bytesLess l []=false:=by cases l<;>rfl
 rw[Op.bytesLess,e,Bool.and_false,Bool.or_false,Bool.eq_iff_iff];simp only[jae];exact Iff.rfl
theorem up_iff{s:Y}{k:Nat}(h:k<s.size):(!Op.bytesLess (s.extract k s.size).toList (ByteArray.mk #[53]).toList)=decide (53≤(bz s).getD k 0):=by
 have hl:k<s.data.toList.length:=by rw[Array.length_toList];exact h
 have hd:(s.extract k s.size).toList=s.data.toList.drop k:=by
  rw[ByteArray.toList_eq,ByteArray.data_extract,Array.toList_extract,List.extract_eq_take_drop,List.take_of_length_le];show(List.drop k s.data.toList).length≤s.data.size-k;rw[List.length_drop,Array.length_toList];exact Nat.le_refl _
 have h5:(ByteArray.mk #[53]).toList=[53]:=by rw[ByteArray.toList_eq]
 have hb:(bz s).getD k 0=((s.data.toList[k]).toNat:Int):=by
  rw[←jek,jai,List.getElem?_eq_getElem hl];rfl
 rw[hd,h5,List.drop_eq_getElem_cons hl,less5,hb,Bool.eq_iff_iff];simp only[Bool.not_eq_true',decide_eq_false_iff_not,jae];omega
def V129_0:Bool×Y×Int×Bool×Y×Int→F:=fun(xb,x,xi,ng,d,c)=> [.pointer (some ⟨0,0,some 0⟩),.pointer (some ⟨10,0,some 0⟩)]
def B129_0:Bool×Y×Int×Bool×Y×Int→O:=fun(xb,x,xi,ng,d,c)=> [some ⟨[B xb,S x,I xi],59,true⟩,some ⟨[B ng,S d,I c],59,true⟩]
def S129_0:LSpec (Bool×Y×Int×Bool×Y×Int) where
 live:=[4,5]
 mid:=[0,10]
 n:=60
 dec vs bs:=match vs,bs with | [.pointer (some ⟨0,0,some 0⟩),.pointer (some ⟨10,0,some 0⟩)],[some ⟨[.bool xb,.string x,.int .i64 xi],59,true⟩,some ⟨[.bool ng,.string d,.int .i64 c],59,true⟩]=>some (xb,x,xi,ng,d,c) | _,_=>none
 pre:=fun(xb,x,xi,ng,d,c)=>decide (d.size≤100∧ -100000≤c-d.size∧c≤100000)
 fin:=fun(xb,x,xi,ng,d,c) Z=>∀d':Y,bz d'=trZ (bz d) 48→Z (.exit 0) [.pointer (some ⟨0,0,some 0⟩),.pointer (some ⟨10,0,some 0⟩)] [some ⟨[B xb,S x,I xi],59,true⟩,some ⟨[B ng,S d',I (c-((d.size:Int)-d'.size))],59,true⟩]
theorem r129_0(xb:Bool)(x:Y)(xi:Int)(ng:Bool)(d:Y)(c:Int)(jk:Tmps)(R:Exit→F→O→Prop):(jb6 Tryz.prog F0 noL Tryz.f171.ntmps (jbb Tryz.f171 0) (tl S129_0.live (V129_0 (xb,x,xi,ng,d,c)) jk) (ml S129_0.mid (B129_0 (xb,x,xi,ng,d,c))) S129_0.n fun e t' m' _=>R e (List.map t' S129_0.live) (List.map m' S129_0.mid))=(mj (!du d am) (bv d (fq d 1)==48) d R (fq d 1) 0 (fq d 1) [iy xb x xi,some (.mk [B ng,S (gk d 1),bp (c-1)] 59 true)] [iy xb x xi,iy ng d c] 0 (ar 0) (ar 10) (ar 0)):=by kernel_rfl
theorem l129_0:LOKf Tryz.prog (oneL 0 S129_0.h) Tryz.f171:=by
 refine jcb (h:=S129_0.h) (by kernel_rfl) (jcq ok_F0 hmix (by kernel_rfl) (jbf _) S129_0 V129_0 B129_0 (fun(xb,x,xi,ng,d,c)=>d.size) ?_ ?_ ?_)
 ·intro vs bs s h;simp only[S129_0]at h;split at h
  all_goals first | (cases h;exact⟨rfl,rfl⟩) | cases h | (split at h<;>first | (rename_i hq;cases h;have hq:=jah hq;subst hq;exact⟨rfl,rfl⟩) | cases h)
 ·exact fun _ _ _ h=>h
 ·intro⟨xb,x,xi,ng,d,c⟩ jk Z hp hf;rw[r129_0];delta cu ez al cm ct mj dq ar ak iy bp fq gk bv du am;simp only[S129_0]at hp hf;have hp:=jab hp;have hl:∀h:0<d.size,IntKind.i64.wrap ((d.size:Int)-1)=((d.size-1:Nat):Int):=fun h=>by rw[w64 (by omega)];omega
  have he:(d.toList==(ByteArray.mk #[]).toList)=decide (d.size=0):=by rw[jce,Bool.eq_iff_iff];simp[←List.length_eq_zero_iff]
  rw[he]
  refine c_t (by
    rcases Nat.eq_zero_or_pos d.size with q | q
    ·simp[q]
    ·rw[hl q];simp
     try omega) (cond_intro (fun h=> ?_) (fun h=> ?_))
  ·simp only[jaf,Bool.not_eq_true',decide_eq_false_iff_not]at h;have h0:0<d.size:=by omega
   rw[hl h0]at h ⊢;have hb:=jip (s:=d) (n:=((d.size-1:Nat):Int)) (by omega) (by omega);rw[Int.toNat_natCast]at hb;have hc:jai d (d.size-1)=48:=by simpa using h.2
   rw[hc]at hb;have hb':=hb;rw[hb,tr_snoc]at hf;refine c_t (by simp;try omega) ?_;rw[w64 (n:=c-1) (by omega)];refine⟨(xb,x,xi,ng,d.extract 0 (d.size-1),c-1),rfl,rfl,by simp only[S129_0,jae,jdn];omega,by simp only[jdn];omega,fun d' e=> ?_⟩;have e2:c-1-(((d.extract 0 (d.size-1)).size:Int)-d'.size)=c-((d.size:Int)-d'.size):=by rw[jdn];omega
   rw[e2];exact hf d' e
  ·have hz:bz d=trZ (bz d) 48:=by
    rcases Nat.eq_zero_or_pos d.size with h0 | h0
    ·rw[jma h0];rfl
    ·have hb:=jip (s:=d) (n:=((d.size-1:Nat):Int)) (by omega) (by omega);rw[Int.toNat_natCast]at hb;rw[hb];refine(tr_ne (fun q=> ?_) _).symm;rw[hl h0]at h;have:d.size≠0:=by omega
     simp[q,this]at h
   have e:=hf d hz;rw[show c-((d.size:Int)-d.size)=c by omega]at e;exact e
def s129(n:Int)(q:Int):Bool×Value:=(decide (-2147483648≤n∧n≤2147483648∧ -1000≤q∧q≤1000),numV (scZ n q))
theorem v129(n:Int)(q:Int)(R:Value→Prop):jaz Tryz.prog F0 (oneL 0 S129_0.h) Tryz.f171 [Enc.enc n,Enc.enc q] (fun _=>none) 0 (fun v _ _=>R v)=(bif jm (-9223372036854775808) (imax n (bu 0 n)) 9223372036854775807 then bif Ff.S129_0.pre (false,(am,((0:Int),(au n 0,(szO (itoZ (imax n (bu 0 n))),q)))))then∀a:Y,bz a=trZ (bz (szO (itoZ (imax n (bu 0 n))))) 48→Tmps→ol (au n 0) a (I (q-(dx (szO (itoZ (imax n (bu 0 n))))-al a))) R else False else False):=by kernel_rfl
theorem ok129:jan Tryz.prog 171 (sp2 s129):=by
 refine jdg ok_F0 hmix (.m Tryz.func171) l129_0 jag fun n q hc=> ?_
 rw[ja5,v129];delta ay ak am bq k7 du ol al dx bu au jm;have hc:(-2147483648≤n∧n≤2147483648∧ -1000≤q∧q≤1000):=jab hc
 try dsimp only[s129]
 have hw:IntKind.i64.wrap (0-n)=0-n:=w64 (by omega);have hm:imax n (0-n)=(n.natAbs:Int):=by rw[imax];split<;>omega
 rw[hw,hm];have hb:bz (szO (itoZ (n.natAbs:Int)))=itoZ (n.natAbs:Int):=jco (jgn _);have hl:=jdl (m:=(n.natAbs:Int)) (by omega);rw[hb,jb2];refine c_t (jaa (by omega)) (c_t ?_ fun d' e x=> ?_)
 ·simp only[S129_0,jae,jb2];omega
 ·have hs:d'.size=(trZ (itoZ (n.natAbs:Int)) 48).length:=by rw[←jam,e]
  rw[jce,e,hs,jnl e];apply cond_intro<;>intro h
  ·have h:=jab h;rw[scZ,if_pos h];show _=Value.agg ⟨[.bool false,.string (szO []),.int .i64 0]⟩;rw[jdv]
  ·have h:=jac h;rw[scZ,if_neg h]
def s133(x:Nu)(b:Int):Bool×Value:=(decide (x.d.size≤900∧0≤b∧b≤9∧ -100000≤x.c∧x.c≤100000),.tuple ⟨[S (szO (roF (bz x.d) x.c b).1),B (roF (bz x.d) x.c b).2]⟩)
theorem fn133:Fn1 Tryz.prog 174 Tryz.f174:= .m Tryz.func174
def oo(a:Y):F:=[.string (j7 a),.bool (decide (dx a≤300))]
def ls(a:Cx.Nu)(b:Int):Int:=IntKind.i64.wrap (i7 a+io b (Nu.c a))
def nj(a:Cx.Nu)(b:Int):Y:=(Nu.d a).extract 0 (ls a b).toNat
theorem v133(x:Nu)(b:Int)(R:Value→Prop):jaz Tryz.prog F0 noL Tryz.f174 [Enc.enc x,Enc.enc b] (fun _=>none) 0 (fun v _ _=>R v)=(bif decide (bu b (Nu.c x)≥0)then br (decide (i7 x>0)) true (decide (i7 x>0) &&decide (ls x b>300)) (co (bq::fy) R) (g8 (gq cv (imin (bu b (Nu.c x)) 300)) (fu (Nu.d x) (g9 cv (imin (bu b (Nu.c x)) 300))) (az (oo (Nu.d x++g9 cv (imin (bu b (Nu.c x)) 300)))) R)else bif decide (ls x b<0)then co [bq,B true] R else md (ez 0 0 (ls x b) (ls x b) (i7 x)) (ls x b) (i7 x) (i7 x) (bif !Op.bytesLess ((Nu.d x).extract (ls x b).toNat (Nu.d x).size).toList (ByteArray.mk #[53]).toList then aq (decide ((nj x b).size≤900)) (az (oo (sz (Ff.jcu (nj x b).size (48::bz (nj x b)))))) R else co (oo (nj x b)) R) False):=by kernel_rfl
theorem ok133:jan Tryz.prog 174 (sp2 s133):=by
 refine jdg ok_F0 hmix fn133 jaj jag fun x b hc=> ?_
 rw[ja5,v133];delta ez md az co dx jz cv j7 oo io i7 ls nj aq am bq br g8 g9 bu fu gq fy;have hc:(x.d.size≤900∧0≤b∧b≤9∧ -100000≤x.c∧x.c≤100000):=jab hc
 try dsimp only[s133]
 have d48:(bz (ByteArray.mk #[48])).getD 0 0=48:=rfl;have b48:bz (ByteArray.mk #[48])=[48]:=rfl;have z48:(ByteArray.mk #[48]).size=1:=rfl;rw[d48,b48,z48,w64 (n:=b-x.c) (by omega)];have hz:(x.d.size:Int)=(bz x.d).length:=by rw[jam]
 apply cond_intro<;>intro h
 ·have h:=jab h;have h:x.c≤b:=by omega
  have e1:roF (bz x.d) x.c b=if bz x.d≠ []∧((bz x.d).length:Int)+(b-x.c)>300 then([],false)else(tlZ (bz x.d++repZ [48] (min (b-x.c) 300).toNat) 48,decide (((bz x.d++repZ [48] (min (b-x.c) 300).toNat).length:Int)≤300)):=by rw[roF,if_pos h]
  rw[w64 (n:=(x.d.size:Int)+(b-x.c)) (by omega)];refine c_t (by simp) (cond_intro (fun h2=> ?_) (fun h2=> ?_))
  ·simp only[jaf,jae]at h2;rw[e1,if_pos ⟨fun q=>by have q:=congrArg List.length q;rw[jam,List.length_nil]at q;omega,by omega⟩,jdv]
  ·have hr:(repZ [48] (min (b-x.c) 300).toNat).length=(min (b-x.c) 300).toNat:=by rw[jdk,List.length_replicate]
   have hi:imin (b-x.c) 300=min (b-x.c) 300:=by rw[imin];split<;>omega
   have hiB:IsB (repZ [48] (min (b-x.c) 300).toNat):=by rw[jdk];exact jf7 _
   rw[hi];have hs:bz (x.d++szO (repZ [48] (min (b-x.c) 300).toNat))=bz x.d++repZ [48] (min (b-x.c) 300).toNat:=by rw[jbr,jco hiB]
   refine c_t (jaa (by omega)) (c_t (jdw (by rw[jb2,hr];omega)) ?_);rw[hs,←jam (x.d++_),hs,e1,if_neg ?_];intro⟨q1,q2⟩;have q3:(bz x.d).length≠0:=fun q=>q1 (List.length_eq_zero_iff.1 q)
   have:(x.d.size:Int)>0:=by omega
   have hq:(x.d.size:Int)+(b-x.c)>300:=by omega
   simp only[this,hq,decide_true,Bool.and_true]at h2;cases h2
 ·have h:=jac h;have h:¬x.c≤b:=by omega
  rw[w64 (n:=(x.d.size:Int)+(b-x.c)) (by omega)];rw[roF,if_neg h,hz];apply cond_intro<;>intro h2
  ·have h2:=jab h2;rw[if_pos (by omega),jdv]
  ·have h2:=jac h2;rw[if_neg (by omega)];obtain⟨k,hk⟩:∃k:Nat,((bz x.d).length:Int)+(b-x.c)=(k:Int):=⟨(((bz x.d).length:Int)+(b-x.c)).toNat,by omega⟩
   rw[hk,Int.toNat_natCast];have hkl:k<x.d.size:=by omega
   have hx:(x.d.extract 0 k).size=k:=by rw[jdn];omega
   have hbx:bz (x.d.extract 0 k)=(bz x.d).take k:=jgu k;refine c_t (jaa (by omega)) (c_t (jaa (by omega)) ?_);rw[hx,hbx,up_iff hkl];apply cond_intro<;>intro h3
   ·have h3:=jab h3;have hB:IsB (jcu k (48::(bz x.d).take k)):=plus_isB (IsB.cons (by omega) ((jdb _).take _)) _;have hL:(jcu k (48::(bz x.d).take k)).length=k+1:=by rw[plus_len,List.length_cons,List.length_take,jam];omega
    refine c_t (jaa (by omega)) ?_;rw[je1 hB,jgh,upS,if_pos h3]
   ·have h3:=jac h3;rw[upS,if_neg h3];have hL:((bz x.d).take k).length=k:=by rw[List.length_take,jam];omega
    rw[hL]
def F1:Env:=Env.nil.add 174 (sp2 s133)
theorem ok_F1:ja0 Tryz.prog F1:=jak jav ok133
def ptZ(p:J)(b:Int):J:=if 0<b then p.take (p.length-b.toNat)++ [46]++p.drop (p.length-b.toNat)else p
def padN(l:J)(n:Int):J:=List.replicate (n-l.length).toNat 48++l
def fixF(g:Bool)(s:J)(b:Int):J:=(if g=true∧s≠ []then [45]else [])++ptZ (padN s (b+1)) b
theorem roF_len{l:J}{c b:Int}(h:(roF l c b).2=true):(roF l c b).1.length≤300:=by
 unfold roF at h ⊢
 have key:∀s:J,decide ((s.length:Int)≤300)=true→(tlZ s 48).length≤300:=fun s hs=>by
  have:=jab hs;have:=je2 s 48;omega
 split at h
 ·split at h
  ·cases h
  ·rename_i h1 h2;rw[if_pos h1,if_neg h2];exact key _ h
 ·split at h
  ·rename_i h1 h2;rw[if_neg h1,if_pos h2];simp
  ·rename_i h1 h2;rw[if_neg h1,if_neg h2];exact key _ h
theorem up_isB{l:J}(h:IsB l)(k:Nat):IsB (upS l k):=by
 unfold upS;split
 ·exact plus_isB (IsB.cons (by omega) (h.take _)) _
 ·exact h.take _
theorem roF_isB{l:J}(h:IsB l)(c b:Int):IsB (roF l c b).1:=by
 unfold roF;split
 ·split
  ·exact IsB.nil
  ·exact jlz (h.append (by rw[jdk];exact jf7 _)) _
 ·split
  ·exact IsB.nil
  ·exact jlz (up_isB h _) _
theorem pad_step{l:J}{n:Int}(h:(l.length:Int)<n):padN (48::l) n=padN l n:=by
 obtain⟨k,hk⟩:∃k:Nat,n-(l.length:Int)=((k+1:Nat):Int):=⟨(n-l.length-1).toNat,by omega⟩
 have e1:(n-((48::l).length:Nat)).toNat=k:=by rw[List.length_cons];omega
 have e2:(n-(l.length:Int)).toNat=k+1:=by omega
 rw[padN,padN,e1,e2,List.replicate_succ',List.append_assoc];rfl
theorem pad_done{l:J}{n:Int}(h:¬(l.length:Int)<n):padN l n=l:=by
 have e2:(n-(l.length:Int)).toNat=0:=by omega
 rw[padN,e2];rfl
theorem pad_isB{l:J}(h:IsB l)(n:Int):IsB (padN l n):=by
 refine IsB.append (fun c hc=> ?_) h;rw[List.eq_of_mem_replicate hc];omega
theorem pad_len{l:J}{n:Int}(h:(l.length:Int)≤300)(hn:0≤n∧n≤10):n≤((padN l n).length:Int)∧(padN l n).length≤310∧(l.length:Int)≤(padN l n).length:=by
 rw[padN,List.length_append,List.length_replicate];omega
def k76(sg s':Y)(b:Int)(R:Value→Prop):Prop:=bif dw b 0 then md (fu (gk s' b) ⟨#[46]⟩) 0 (fq s' b) (al s') (bif ez 0 (fq s' b) (al s') (al s') (al s')then g8 (fu (gk s' b++⟨#[46]⟩) (kj s' (fq s' b))) (fu sg (gk s' b++⟨#[46]⟩++kj s' (fq s' b))) (az [S (sg++(gk s' b++⟨#[46]⟩++kj s' (fq s' b))),B true]) R else False) False else aq (fu sg s') (az [S (sg++s'),B true]) R
theorem k76_ok{sg s':Y}{b:Int}{P:J}{R:Value→Prop}(h:bz s'=P)(hb:0≤b∧b≤9)(hs:b+1≤(s'.size:Int))(hl:s'.size≤310)(hg:sg.size≤1)
  (hR:R (Value.tuple ⟨[S (szO (bz sg++ptZ P b)),B true]⟩)):k76 sg s' b R:=by
 have hz:(s'.size:Int)=P.length:=by rw[←h,jam]
 unfold k76;delta aq az fu ez md g8 kj al fq gk dw;apply cond_intro<;>intro h1
 ·have h1:=jab h1;obtain⟨k,hk⟩:∃k:Nat,(s'.size:Int)-b=(k:Int):=⟨((s'.size:Int)-b).toNat,by omega⟩
  have hw:IntKind.i64.wrap ((s'.size:Int)-b)=(k:Int):=by rw[w64 (by omega),hk]
  have x1:(s'.extract 0 k).size=k:=by rw[jdn];omega
  have x2:(s'.extract k s'.size).size=s'.size-k:=by rw[jdn];omega
  have x3:(ByteArray.mk #[46]).size=1:=rfl;have kP:P.length-b.toNat=k:=by omega
  have e:sg++(s'.extract 0 k++ByteArray.mk #[46]++s'.extract k s'.size)=szO (bz sg++ptZ P b):=by
   refine jnl ?_;have q:(bz s').take s'.size=bz s':=List.take_of_length_le (by rw[jam];exact Nat.le_refl _);rw[jbr,jbr,jbr,jgu,jb7,q,h,ptZ,if_pos h1,kP];rfl
  rw[hw,Int.toNat_natCast,e];simp only[ByteArray.size_append,x1,x2,x3];exact c_t (jaa (by omega)) (c_t (jdw (by omega)) (c_t (jaa (by omega)) (c_t (jdw (by omega)) (c_t (jdw (by omega)) hR))))
 ·have h1:=jac h1
  have e:sg++s'=szO (bz sg++ptZ P b):=by
   refine jnl ?_;rw[jbr,h,ptZ,if_neg (by omega)]
  rw[e];exact c_t (jdw (by omega)) hR
def V76_0:Int×Y×Y→F:=fun(b,s,q)=> [I b,S s,S q]
def B76_0:Int×Y×Y→O:=fun _=> []
def S76_0:LSpec (Int×Y×Y) where
 live:=[1,6,8]
 mid:=[]
 n:=60
 dec vs bs:=match vs,bs with | [.int .i64 b,.string s,.string q],[]=>some (b,s,q) | _,_=>none
 pre:=fun(b,s,q)=>decide (0≤b∧b≤9∧s.size≤300)
 fin:=fun(b,s,q) Z=>∀s':Y,bz s'=padN (bz s) (b+1)→Z (.exit 0) [I b,S s',S q] []
theorem r76_0(b:Int)(s:Y)(q:Y)(jk:Tmps)(R:Exit→F→O→Prop):(jb6 Tryz.prog F1 noL Tryz.f117.ntmps (jbb Tryz.f117 0) (tl S76_0.live (V76_0 (b,s,q)) jk) (ml S76_0.mid (B76_0 (b,s,q))) S76_0.n fun e t' m' _=>R e (List.map t' S76_0.live) (List.map m' S76_0.mid))=(gn (decide (al s<bk b 1)) (fu cv s) (R .normal [ak b,S (cv++s),S q] []) (R (.exit 0) [ak b,S s,S q] [])):=by kernel_rfl
theorem l76_0:LOKf Tryz.prog (oneL 0 S76_0.h) Tryz.f117:=by
 refine jcb (h:=S76_0.h) (by kernel_rfl) (jcq ok_F1 hmix (by kernel_rfl) (jbf _) S76_0 V76_0 B76_0 (fun(b,s,q)=>(b+1-s.size).toNat) ?_ ?_ ?_)
 ·intro vs bs s h;simp only[S76_0]at h;split at h
  all_goals first | (cases h;exact⟨rfl,rfl⟩) | cases h | (split at h<;>first | (rename_i hq;cases h;have hq:=jah hq;subst hq;exact⟨rfl,rfl⟩) | cases h)
 ·exact fun _ _ _ h=>h
 ·intro⟨b,s,q⟩ jk Z hp hf;rw[r76_0];delta c9 gn ak cv fu bk al;simp only[S76_0]at hp hf;have hp:=jab hp;rw[w64 (n:=b+1) (by omega)];apply cond_intro<;>intro h
  ·have h:=jab h;have hz:bz (ByteArray.mk #[48]++s)=48::bz s:=by rw[jbr];rfl
   have hs:(ByteArray.mk #[48]++s).size=s.size+1:=by rw[←jam,hz,List.length_cons,jam]
   refine c_t (jdw (by show 1+s.size≤_;omega)) ?_;refine⟨(b,ByteArray.mk #[48]++s,q),rfl,rfl,by simp only[S76_0,jae,hs];omega,by simp only[hs];omega,fun s' e=>hf s' ?_⟩;rw[e,hz,pad_step (by rw[jam];omega)]
  ·have h:=jac h;exact hf s (pad_done (by rw[jam];omega)).symm
def s76(x:Nu)(b:Int):Bool×Value:=(decide (x.d.size≤900∧0≤b∧b≤9∧ -100000≤x.c∧x.c≤100000),.tuple ⟨[S (szO (bif (roF (bz x.d) x.c b).2 then fixF x.g (roF (bz x.d) x.c b).1 b else [])),B (roF (bz x.d) x.c b).2]⟩)
def ph(e:Cx.Nu)(b:Int)(f:Yb)(g:Value→Prop):Prop:=bif Ff.S76_0.pre (b,(szO (Ff.roF (bz (Nu.d e)) (Nu.c e) b).fst,ByteArray.mk f.toArray))then∀a:Y,bz a=Ff.padN (bz (szO (Ff.roF (bz (Nu.d e)) (Nu.c e) b).fst)) (b+1)→Tmps→Ff.k76 ⟨f.toArray⟩ a b g else False
def oq(a:Y)(b c:Int):Bool:=decide (a.size≤900∧0≤b∧b≤9∧ -(100000:Int)≤c∧c≤100000)
theorem v76(x:Nu)(b:Int)(R:Value→Prop):jaz Tryz.prog F1 (oneL 0 S76_0.h) Tryz.f117 [Enc.enc x,Enc.enc b] (fun _=>none) 0 (fun v _ _=>R v)=(bif oq (Nu.d x) b (Nu.c x)then bif !(Ff.roF (bz (Nu.d x)) (Nu.c x) b).snd then co (bq::fy) R else br (Nu.g x) true (Nu.g x&& !du (szO (Ff.roF (bz (Nu.d x)) (Nu.c x) b).fst) am) (ph x b [45] R) (ph x b [] R)else False):=by kernel_rfl
theorem ok76:jan Tryz.prog 117 (sp2 s76):=by
 refine jdg ok_F1 hmix (.m Tryz.func117) l76_0 jag fun x b hc=> ?_
 rw[ja5,v76];delta br ph du am az co fy bq oq;have hc:(x.d.size≤900∧0≤b∧b≤9∧ -100000≤x.c∧x.c≤100000):=jab hc
 try dsimp only[s76]
 have hI:=roF_isB (jdb x.d) x.c b;have hbz:bz (szO (roF (bz x.d) x.c b).1)=(roF (bz x.d) x.c b).1:=jco hI;refine c_t (jaa hc) (cond_intro (fun h=> ?_) (fun h=> ?_))
 ·have h:(roF (bz x.d) x.c b).2=false:=by simpa using h
  rw[h];show _=Value.tuple ⟨[S (szO []),B false]⟩;rw[jdv]
 have h:(roF (bz x.d) x.c b).2=true:=by simpa using h
 have hlen:=roF_len h;rw[hbz,h,jce,hbz]
 have hpre:∀q:Y,S76_0.pre (b,szO (roF (bz x.d) x.c b).1,q)=true:=fun q=>by
  simp only[S76_0,jae,jb2];omega
 obtain⟨p1,p2,p3⟩:=pad_len (l:=(roF (bz x.d) x.c b).1) (n:=b+1) (by omega) (by omega);refine c_t (by simp) (cond_intro (fun h2=>c_t (hpre _) fun s' e y=> ?_) (fun h2=>c_t (hpre _) fun s' e y=> ?_))
 ·have hz:s'.size=(padN (roF (bz x.d) x.c b).1 (b+1)).length:=by rw[←jam,e]
  refine k76_ok e (by omega) (by omega) (by omega) (by decide) ?_;simp only[jaf,Bool.not_eq_true',decide_eq_false_iff_not]at h2;show Value.tuple ⟨[S (szO (bz (ByteArray.mk #[45])++ptZ _ b)),B true]⟩=Value.tuple ⟨[S (szO (fixF x.g _ b)),B true]⟩;rw[fixF,if_pos h2];rfl
 ·have hz:s'.size=(padN (roF (bz x.d) x.c b).1 (b+1)).length:=by rw[←jam,e]
  refine k76_ok e (by omega) (by omega) (by omega) (by decide) ?_;show Value.tuple ⟨[S (szO (bz (ByteArray.mk #[])++ptZ _ b)),B true]⟩=Value.tuple ⟨[S (szO (fixF x.g _ b)),B true]⟩;rw[fixF,if_neg ?_]
  ·rfl
  ·intro⟨q1,q2⟩;simp[q1,q2]at h2
attribute [local instance 5000] tabsB
structure Fo where
 k:Int
 w:Int
 d:Int
 s:Y
instance:Enc Fo where
 enc t:= .agg ⟨[.int .i64 t.k,.int .i64 t.w,.int .i64 t.d,.string t.s]⟩
 dec | .agg ⟨[.int .i64 k,.int .i64 w,.int .i64 d,.string s]⟩=>some ⟨k,w,d,s⟩ | _=>none
 dec_some:=by
  intro v a h;split at h
  ·cases h;rfl
  ·cases h
 plain_enc _:=rfl
def F3:Env:=(Env.nil.add 72 (sp1 s20f)).add 122 (sp1 Px.s33)
theorem ok_F3:ja0 Tryz.prog F3:=jak (jak jav (pureB ok20f)) (pureB Px.ok33)
def jby(f:Fo):Bool:=decide (1≤f.k∧f.k≤7∧0≤f.w∧f.w≤255∧0≤f.d∧f.d≤9∧f.d≤f.w∧(0<f.d→f.k=3)) && (bif decide (f.k=4)then decide (pE (bz f.s)=0)else decide (f.s.size=0))
def s44(f:Fo):Bool×Value:=(decide (f.s.size≤9223372036854775807),B (jby f))
theorem v44(f:Fo)(R:Value→Prop):jaz Tryz.prog F3 noL Tryz.f77 [Enc.enc f] (fun _=>none) 0 (fun v _ _=>R v)=(br (decide (Ff.Fo.k f<1)) (decide (Ff.Fo.k f>7) || nl (decide (Ff.Fo.d f>Ff.Fo.w f) || (decide (Ff.Fo.d f>0) || true)) (Ff.Fo.w f) 0 255 (Ff.Fo.d f) 9) (nl (decide (Ff.Fo.d f<0) || (decide (Ff.Fo.d f>9) || (decide (Ff.Fo.d f>Ff.Fo.w f) || decide (Ff.Fo.d f>0) &&Ff.Fo.k f !=3))) (Ff.Fo.k f) 1 7 (Ff.Fo.w f) 255) (R (B false)) (bif Ff.Fo.k f==4 then aq (ax (Ff.Fo.s f)) (B (pE (bz (Ff.Fo.s f))==0)) R else R (B (du (Ff.Fo.s f) am)))):=by kernel_rfl
theorem ok44:jan Tryz.prog 77 (sp1 s44):=by
 refine jck ok_F3 hmix (.m Tryz.func77) jaj jag fun f hc=> ?_
 rw[ja5,v44];delta br du am aq ax dw au nl;have hc:(f.s.size≤9223372036854775807):=jab hc
 try dsimp only[s44]
 refine c_t (by simp) (cond_intro (fun h=> ?_) (fun h=>cond_intro (fun q=>c_t (jaa hc) ?_) (fun q=> ?_)))
 ·have e:jby f=false:=by
   rw[jby,Bool.and_eq_false_iff];refine .inl (jad fun⟨a,b,c,d,e,g,i,j⟩=> ?_);simp only[Bool.or_eq_true,jaf,jae,bne_iff_ne]at h;omega
  rw[e]
 ·have q:f.k=4:=by simpa using q
  simp only[Bool.or_eq_false_iff,Bool.and_eq_false_iff,decide_eq_false_iff_not,bne_eq_false_iff_eq]at h;rw[jby,jaa (by omega),jaa q];congr 1
 ·have q:¬f.k=4:=by simpa using q
  simp only[Bool.or_eq_false_iff,Bool.and_eq_false_iff,decide_eq_false_iff_not,bne_eq_false_iff_eq]at h;rw[jby,jaa (by omega),jad q,jce];congr 1;rw[Bool.true_and,cond_false,Bool.eq_iff_iff,jae,jae,←jam];exact List.length_eq_zero_iff.symm
def s71(f:Fo):Bool×Value:=(true,B (decide (f.k≤4)))
theorem v71(f:Fo)(R:Value→Prop):jaz Tryz.prog F3 noL Tryz.f106 [Enc.enc f] (fun _=>none) 0 (fun v _ _=>R v)=(R (B (decide (Fo.k f≤4)))):=by kernel_rfl
theorem ok71:jan Tryz.prog 106 (sp1 s71):=by
 refine jck ok_F3 hmix (.m Tryz.func106) jaj jag fun f hc=> ?_
 rw[ja5,v71]
 try dsimp only[s71]
def typE(t:Ty):Int:=if chk4 t≠0 then chk4 t else if t.k=6 then 5 else 0
def s55(t:Ty):Bool×Value:=(decide (t.s.size≤9223372036854775807),I (typE t))
theorem v55(t:Ty)(R:Value→Prop):jaz Tryz.prog F3 noL Tryz.f91 [Enc.enc t] (fun _=>none) 0 (fun v _ _=>R v)=(bif decide (sz63 t)then bif chk4 t !=0 then R (I (chk4 t))else bif cl t 6 then R (ak 5)else R (ak 0)else False):=by kernel_rfl
theorem ok55:jan Tryz.prog 91 (sp1 s55):=by
 refine jck ok_F3 hmix (.m Tryz.func91) jaj jag fun t hc=> ?_
 rw[ja5,v55];delta ak cl;have hc:(t.s.size≤9223372036854775807):=jab hc
 try dsimp only[s55]
 refine c_t (jaa hc) (cond_intro (fun h=> ?_) (fun h=>cond_intro (fun q=> ?_) (fun q=> ?_)))
 ·rw[typE,if_pos (by simpa using h)]
 ·rw[typE,if_neg (by simpa using h),if_pos (by simpa using q)]
 ·rw[typE,if_neg (by simpa using h),if_neg (by simpa using q)]
def F4:Env:=(((Env.nil.add 23 (sp2 s22f)).add 77 (sp1 s44)).add 106 (sp1 s71)).add 91 (sp1 s55)
theorem ok_F4:ja0 Tryz.prog F4:=jak (jak (jak (jak jav (pureB ok22f)) ok44) ok71) ok55
def s37(f:Fo):Bool×Value:=(decide (f.s.size≤9223372036854775807),I (if jby f=true∧f.k≤4 then 0 else 130))
theorem v37(f:Fo)(R:Value→Prop):jaz Tryz.prog F4 noL Tryz.f78 [Enc.enc f] (fun _=>none) 0 (fun v _ _=>R v)=(bif decide ((Fo.s f).size≤9223372036854775807) && (!jby f || true)then bif !jby f || !decide (Fo.k f≤4)then R (I 130)else R (I 0)else False):=by kernel_rfl
theorem ok37:jan Tryz.prog 78 (sp1 s37):=by
 refine jck ok_F4 hmix (.m Tryz.func78) jaj jag fun f hc=> ?_
 rw[ja5,v37];have hc:(f.s.size≤9223372036854775807):=jab hc
 try dsimp only[s37]
 refine c_t (by simp[hc]) (cond_intro (fun h=> ?_) (fun h=> ?_))
 ·rw[if_neg];rintro ⟨a,b⟩;simp[a,b]at h
 ·simp only[Bool.or_eq_false_iff,Bool.not_eq_false',jae]at h;rw[if_pos h]
def fitE(v:Vl)(t:Ty):Int:=if fit4 v t≠0 then fit4 v t else typE t
def s38(v:Vl)(t:Ty):Bool×Value:=(decide (t.s.size≤9223372036854775807∧v.s.size≤9223372036854775807),I (fitE v t))
def lu(f:Bool)(a:Fx.Ty)(b:Fx.Vl)(c:Int)(g h:Prop)(e:Value)(d:Value→Prop):Prop:=bif kl a b then bif c !=0 then d e else bif f then g else h else False
theorem v38(v:Vl)(t:Ty)(R:Value→Prop):jaz Tryz.prog F4 noL Tryz.f57 [Enc.enc v,Enc.enc t] (fun _=>none) 0 (fun v _ _=>R v)=(lu (ax (Fx.Ty.s t)) t v (fit4 v t) (R (I (Ff.typE t))) False (I (fit4 v t)) R):=by kernel_rfl
theorem ok38:jan Tryz.prog 57 (sp2 s38):=by
 refine jdg ok_F4 hmix (.m Tryz.func57) jaj jag fun v t hc=> ?_
 rw[ja5,v38];delta ii kl lu ax;have hc:(t.s.size≤9223372036854775807∧v.s.size≤9223372036854775807):=jab hc
 try dsimp only[s38]
 refine c_t (jaa hc) (cond_intro (fun h=> ?_) (fun h=>c_t (jaa hc.1) ?_))
 ·rw[fitE,if_pos (by simpa using h)]
 ·rw[fitE,if_neg (by simpa using h)]
theorem scZ_ok{n q:Int}(hn: -2147483648≤n∧n≤2147483648)(hq: -1000≤q∧q≤1000):IsB (scZ n q).2.1∧(scZ n q).2.1.length≤10∧ -2000≤(scZ n q).2.2∧(scZ n q).2.2≤2000:=by
 have hl:=jdl (m:=(n.natAbs:Int)) (by omega);have ht:=jkd (itoZ (n.natAbs:Int)) 48;unfold scZ;split
 ·exact⟨IsB.nil,by simp,by simp,by simp⟩
 ·exact⟨isB_tr (jgn _) _,by simp only;omega,by simp only;omega,by simp only;omega⟩
theorem ptZ_isB{p:J}(h:IsB p)(b:Int):IsB (ptZ p b):=by
 unfold ptZ;split
 ·exact((h.take _).append (IsB.cons (by omega) IsB.nil)).append (h.drop _)
 ·exact h
theorem fixF_isB{s:J}(h:IsB s)(g:Bool)(b:Int):IsB (fixF g s b):=by
 refine IsB.append ?_ (ptZ_isB (pad_isB h _) b);split
 ·exact IsB.cons (by omega) IsB.nil
 ·exact IsB.nil
theorem fixF_len{s:J}(h:s.length≤300)(g:Bool){b:Int}(hb:0≤b∧b≤9):(fixF g s b).length≤320:=by
 obtain⟨p1,p2,p3⟩:=pad_len (l:=s) (n:=b+1) (by omega) (by omega)
 have e:(ptZ (padN s (b+1)) b).length≤311:=by
  unfold ptZ;split
  ·simp only[List.length_append,List.length_take,List.length_drop,List.length_cons,List.length_nil];omega
  ·omega
 rw[fixF,List.length_append];split<;>simp<;>omega
def c8(f:Fo)(v:Vl)(t:Ty):Prop:=((f.k=3∧0≤f.w∧f.w≤255∧0≤f.d∧f.d≤9∧t.k=1∧ -2147483648≤v.n∧v.n≤2147483648∧ -1000≤t.q∧t.q≤1000)∧f.s.size≤9223372036854775807∧t.s.size≤9223372036854775807∧v.s.size≤9223372036854775807∧jby f=true∧fitE v t=0)
instance (f:Fo)(v:Vl)(t:Ty):Decidable (c8 f v t):=by unfold c8;infer_instance
end Go.Ff
end
noncomputable section
set_option maxHeartbeats 3200000
set_option maxRecDepth 100000
namespace Go.Fh
open Go Go.Ab Go.Proofs Go.Shelf Go.Px Go.Cv Go.Cx Go.Ff
open Go.Fx (Ty Vl)
attribute [local instance 5000] tabsB
def K0:Env:=((((((Env.nil.add 110 (Go.Ab.sp2 Go.Cx.s154)).add 171 (Go.Ab.sp2 Go.Ff.s129)).add 170 (sp1 Px.s31)).add 125 (sp2 Px.s22)).add 172 (sp1 Px.s46)).add 84 (sp2 Px.s87)).add 173 (sp1 Cx.s24)
def nmU(v:Vl)(t:Ty):Num×Bool:=
 if t.k=1∨t.k=2 then(scZ v.n t.q,true)
 else if t.k=5∧pN (bz t.s)=true then(scZ (rdV (bz t.s) (bz v.s)).1 (pQ (bz t.s)),decide ((rdV (bz t.s) (bz v.s)).2=0))
 else if t.k=4 then((false,tlZ (decZ (binG (bz v.s) 0)) 48,0),true)
 else((rdN (bz v.s)).getD num0,(rdN (bz v.s)).isSome)
theorem nuO_ex:∃d:Vl→Ty→Num×Bool,d=nmU:=⟨_,rfl⟩
def nuO:Vl→Ty→Num×Bool:=Classical.choose nuO_ex
theorem jmy:nuO=nmU:=Classical.choose_spec nuO_ex
def c75(v:Vl)(t:Ty):Prop:=t.s.size≤9223372036854775807∧v.s.size≤9223372036854775807∧((t.k=1∨t.k=2)→ -2147483648≤v.n∧v.n≤2147483648∧ -1000≤t.q∧t.q≤1000)∧(t.k=4→jca (bz v.s)=true∧v.s.size≤64)
instance (v:Vl)(t:Ty):Decidable (c75 v t):=by unfold c75;infer_instance
structure AcIs (s:Y)(i a r:Int):Prop where
 eq:binG ((bz s).drop i.toNat) a=r
theorem dec_B(n:Int):IsB (decZ n):=fun c hc=>by
 obtain⟨b,_,rfl⟩:=List.mem_map.1 hc;have:=b.toNat_lt;omega
theorem ok_K0:ja0 Tryz.prog K0:=jak (jak (jak (jak (jak (jak (jak jav (Go.Ff.pureB Go.Cx.ok154)) Go.Ff.ok129) (pureB Px.ok31)) (pureB Px.ok22)) (pureB Px.ok46)) (pureB Px.ok87)) (pureB Cx.ok24)
def V75_1:Int×Y×Bool×Y×Int×Int×Int×Int→F:=fun(n,s,g,d,e,a,z,i)=> [.pointer (some ⟨0,0,some 0⟩),.pointer (some ⟨2,0,some 0⟩),.int .u64 a,I z,I i]
def B75_1:Int×Y×Bool×Y×Int×Int×Int×Int→O:=fun(n,s,g,d,e,a,z,i)=> [some ⟨[I n,S s],32,true⟩,some ⟨[B g,S d,I e],59,true⟩]
def S75_1:LSpec (Int×Y×Bool×Y×Int×Int×Int×Int) where
 live:=[2,4,11,63,64]
 mid:=[0,2]
 n:=60
 dec vs bs:=match vs,bs with | [.pointer (some ⟨0,0,some 0⟩),.pointer (some ⟨2,0,some 0⟩),.int .u64 a,.int .i64 z,.int .i64 i],[some ⟨[.int .i64 n,.string s],32,true⟩,some ⟨[.bool g,.string d,.int .i64 e],59,true⟩]=>some (n,s,g,d,e,a,z,i) | _,_=>none
 pre:=fun(n,s,g,d,e,a,z,i)=>jca (bz s) &&decide (s.size≤64∧z=s.size∧0≤i∧i≤s.size∧0≤a∧a<2^i.toNat)
 fin:=fun(n,s,g,d,e,a,z,i) Z=>∀r:Int,AcIs s i a r→Z (.exit 1) [.pointer (some ⟨0,0,some 0⟩),.pointer (some ⟨2,0,some 0⟩),.int .u64 r,I z,I z] [some ⟨[I n,S s],32,true⟩,some ⟨[B g,S d,I e],59,true⟩]
theorem r75_1(n:Int)(s:Y)(g:Bool)(d:Y)(e:Int)(a:Int)(z:Int)(i:Int)(jk:Tmps)(R:Exit→F→O→Prop):(jb6 Tryz.prog K0 noL Tryz.f116.ntmps (jbb Tryz.f116 1) (tl S75_1.live (V75_1 (n,s,g,d,e,a,z,i)) jk) (ml S75_1.mid (B75_1 (n,s,g,d,e,a,z,i))) S75_1.n fun e t' m' _=>R e (List.map t' S75_1.live) (List.map m' S75_1.mid))=(gn (au i z) (gv i (al s)) (R .normal (ar 0::ar 2:: .int .u64 (IntKind.u64.wrap (jy 2 a (bv s i) .u64 .u8))::d8 z i) [k9 s n,iy g d e]) (R (.exit 1) [ar 0,ar 2,.int .u64 a,ak z,ak i] [k9 s n,iy g d e])):=by kernel_rfl
theorem l75_1:LOKf Tryz.prog (oneL 1 S75_1.h) Tryz.f116:=by
 refine jcb (h:=S75_1.h) (by kernel_rfl) (jcq ok_K0 hmix (by kernel_rfl) (jbf _) S75_1 V75_1 B75_1 (fun(n,s,g,d,e,a,z,i)=>(s.size-i).toNat) ?_ ?_ ?_)
 ·intro vs bs s h;simp only[S75_1]at h;split at h
  all_goals first | (cases h;exact⟨rfl,rfl⟩) | cases h | (split at h<;>first | (rename_i hq;cases h;have hq:=jah hq;subst hq;exact⟨rfl,rfl⟩) | (rename_i hq;cases h;simp only[cnd,jaf,Nat.beq_eq]at hq;obtain⟨rfl,rfl,rfl⟩:=hq;exact⟨rfl,rfl⟩) | cases h)
 ·exact fun _ _ _ h=>h
 ·intro⟨n,s,g,d,e,a,z,i⟩ jk Z hp hf;rw[r75_1];delta c9 gn ak iy k9 dq ar bp d8 jy bv gv al au;simp only[S75_1]at hp hf;simp only[jaf,jae]at hp;obtain⟨hb,h1,rfl,h3,h4,h5,h6⟩:=hp;apply cond_intro<;>intro h
  ·have h:=jab h;have hc:=bit_cases (s:=s) (i:=i.toNat) (by omega) hb;have hd:=jd2 (s:=s) h3 (by omega);have h64:(2:Int) ^i.toNat≤2^63:=by exact_mod_cast Nat.pow_le_pow_right (n:=2) (by omega) (show i.toNat≤63 by omega)
   have e63:(2:Int) ^63=9223372036854775808:=rfl;have hi:(i+1).toNat=i.toNat+1:=by omega
   rw[w8 (n:=jai s i.toNat-48) (by omega),wu64 (n:=2*a) (by omega),wu64 (n:=jai s i.toNat-48) (by omega),wu64 (by omega),w64 (n:=i+1) (by omega)];refine c_t (jaa (by omega)) ?_;refine⟨(n,s,g,d,e,2*a+(jai s i.toNat-48),s.size,i+1),rfl,rfl,?_,by simp only;omega,?_⟩
   ·simp only[S75_1,jaf,jae];refine⟨hb,h1,trivial,by omega,by omega,by omega,?_⟩;rw[hi,Int.pow_succ];omega
   ·simp only[S75_1];refine fun r hr=>hf r ⟨?_⟩
    rw[hd,binG];exact hr.eq
  ·have h:=jac h;obtain rfl:i=s.size:=by omega
   refine hf a ⟨?_⟩;rw[jg1 (by omega),binG]
def s75u(v:Vl)(t:Ty):Bool×Value:=(decide (c75 v t),.tuple ⟨[Cx.numV (nuO v t).1,B (nuO v t).2]⟩)
def pk(c:Bool)(a b:Int)(d:Value→Prop):Prop:=aq (km (-2147483648) a 2147483648 (-1000) b 1000) (az [ay (k8 (Prod.fst (Ff.scZ a b)) (Prod.snd (Ff.scZ a b))),.bool c]) d
theorem v75u(v:Vl)(t:Ty)(R:Value→Prop):jaz Tryz.prog K0 (oneL 1 S75_1.h) Tryz.f116 [Enc.enc v,Enc.enc t] (fun _=>none) 0 (fun v _ _=>R v)=(bif cm (cl t 5) (ax (Fx.Ty.s t) &&true) true then br (cl t 1) true (cl t 1 || cl t 2) (pk true (Fx.Vl.n v) (Fx.Ty.q t) R) (bif cl t 5&&pN (bz (Fx.Ty.s t))then bif kl t v then bif ax (Fx.Ty.s t)then pk ((rdV (bz (Fx.Ty.s t)) (bz (Fx.Vl.s v))).snd==0) (j3 (Fx.Ty.s t) (Fx.Vl.s v)) (pQ (bz (Fx.Ty.s t))) R else False else False else bif cl t 4 then bif Fh.S75_1.pre (Fx.Vl.n v,(Fx.Vl.s v,(false,(am,((0:Int),((0:Int),(dx (Fx.Vl.s v),(0:Int))))))))then∀a:Int,Fh.AcIs (Fx.Vl.s v) 0 0 a→Tmps→aq (gv a 18446744073709551616&&jnq 10) (az [ay [B false,S (j7 (sz (decZ a))),ak 0],B true]) R else False else aq (ax (Fx.Vl.s v)) (az [ay (k8 ((rdN (bz (Fx.Vl.s v))).getD num0).fst ((rdN (bz (Fx.Vl.s v))).getD num0).snd),B (rdN (bz (Fx.Vl.s v))).isSome]) R)else False):=by kernel_rfl
theorem ok75u:jan Tryz.prog 116 (sp2 s75u):=by
 refine jdg ok_K0 hmix (.m Tryz.func116) l75_1 jag fun v t hc=> ?_
 rw[ja5,v75u];delta br aq az ay k8 ax ak jz cv j7 gv dx am cl km pk j3 ii kl cm;have hc:(c75 v t):=jab hc
 try dsimp only[s75u]
 obtain⟨h1,h2,h3,h4⟩:=hc;have hv:nuO v t=nmU v t:=by rw[jmy]
 refine c_t (by simp;omega) (c_t (by simp) (cond_intro (fun q=> ?_) (fun q=> ?_)))
 ·have q:t.k=1∨t.k=2:=by simpa using q
  refine c_t (jaa (h3 q)) ?_;rw[hv,nmU,if_pos q]
 have q:¬(t.k=1∨t.k=2):=by simpa using q
 apply cond_intro<;>intro q5
 ·have q5:t.k=5∧pN (bz t.s)=true:=by simpa using q5
  have hr:=jmt (t:=v.s) q5.2;obtain⟨_,_,p1,p2⟩:=jed q5.2;have:=(jed q5.2).2.1;refine c_t (jaa ⟨h1,h2⟩) (c_t (jaa h1) (c_t (jaa (by omega)) ?_));rw[hv,nmU,if_neg q,if_pos q5];rfl
 have q5:¬(t.k=5∧pN (bz t.s)=true):=by simpa using q5
 apply cond_intro<;>intro q4
 ·have q4:t.k=4:=by simpa using q4
  obtain⟨hb,hs⟩:=h4 q4;refine c_t ?_ fun r hr _=> ?_
  ·simp only[S75_1,jaf,jae];exact⟨hb,hs,trivial,by omega,by omega,by omega,by decide⟩
  have hr:=hr.eq;rw[Int.toNat_zero,List.drop_zero]at hr;obtain⟨l1,l2⟩:=jks (bz v.s) 0 hb (by omega);have h64:(2:Int) ^ (bz v.s).length≤2^64:=by exact_mod_cast Nat.pow_le_pow_right (n:=2) (by omega) (show(bz v.s).length≤64 by rw[jam];omega)
  have e64:(2:Int) ^64=18446744073709551616:=rfl;refine c_t (by rw[jaa (by omega)];rfl) ?_;rw[hv,nmU,if_neg q,if_neg q5,if_pos q4,je1 (dec_B _),hr];rfl
 ·have q4:¬t.k=4:=by simpa using q4
  refine c_t (jaa h2) ?_;rw[hv,nmU,if_neg q,if_neg q5,if_neg q4]
end Go.Fh
end
noncomputable section
set_option maxHeartbeats 3200000
namespace Go.Cx
open Go Go.Ab Go.Proofs Go.Shelf Go.Px Go.Cv
open Go.Fx (Ty Vl check ja9 most base pw bnd Fit fits tv vv tup V0 T0 jbs jbw jbj jcd str0)
structure Sh where
 s:Y
 p:Y
instance:Enc Sh where
 enc x:= .agg ⟨[.string x.s,.string x.p]⟩
 dec | .agg ⟨[.string s,.string p]⟩=>some ⟨s,p⟩ | _=>none
 dec_some:=by
  intro v a h;split at h
  ·cases h;rfl
  ·cases h
 plain_enc _:=rfl
instance tabsT5:Tabs:=tabs
def P3:Env:=Env.nil
theorem ok_P3:ja0 Tryz.prog P3:=jav
def s323(x:Sh):Bool×Value:=(true,S x.s)
theorem v323(x:Sh)(R:Value→Prop):jaz Tryz.prog P3 noL Tryz.f341 [Enc.enc x] (fun _=>none) 0 (fun v _ _=>R v)=(R (S (Sh.s x))):=by kernel_rfl
theorem ok323:jan Tryz.prog 341 (sp1 s323):=by
 refine jck ok_P3 hmix (.m Tryz.func341) jaj jag fun x hc=> ?_
 rw[ja5,v323]
 try dsimp only[s323]
def P4:Env:=P3.add 170 (sp1 Px.s31)
theorem fn97':Fn1 Tryz.prog 158 Tryz.f158:= .m Tryz.func158
def P5:Env:=(((((P3.add 23 (sp2 z22)).addG 158 (inlQ Tryz.prog P4 noL Tryz.f158)).add 338 (sp1 s321)).add 340 (sp1 s322)).add 341 (sp1 s323)).add 342 (sp1 s324)
theorem ok_P4:ja0 Tryz.prog P4:=jak ok_P3 Px.ok31
theorem ok_P5:ja0 Tryz.prog P5:=jak (jak (jak (jak (jau (jak ok_P3 (z22_eq▸ok22f)) (jbd ok_P4 hmix fn97' jaj)) ok321) ok322) ok323) ok324
def s32f(v:Vl)(t:Ty):Bool×Value:=(decide (t.s.size≤9223372036854775807∧v.s.size≤9223372036854775807),txV v t)
def ou(a:Fx.Ty)(c d e:Value)(b:Value→Prop):Prop:=bif cl a 4 then b c else bif cl a 5 then dt (pN (bz (Fx.Ty.s a))) (Fx.Ty.s a) (b d) (b e)else b e
theorem v32f(v:Vl)(t:Ty)(R:Value→Prop):jaz Tryz.prog P5 noL Tryz.f109 [Enc.enc v,Enc.enc t] (fun _=>none) 0 (fun v _ _=>R v)=(Ff.lu (cl t 6) t v (ftT v t) (co [bq,ak 5] R) (bif cl t 1 then aq (lv t (Fx.Vl.n v)) (az [S (szO (txtZ (Fx.Vl.n v) t)),ak 0]) R else bif cl t 2 then aq (lv t (Fx.Vl.n v)) (az [S (szO (txtZ (Fx.Vl.n v) t)),ak 0]) R else ou t (az [S (Fx.Vl.s v),ak 0]) (az [S (Fx.Vl.s v),ak 0]) (az [S (Fx.Vl.s v),ak 0]) R) (az [bq,I (ftT v t)]) R):=by kernel_rfl
theorem ok32f:jan Tryz.prog 109 (sp2 s32f):=by
 refine jdg ok_P5 hmix (.m Tryz.func109) jaj jag fun v t hc=> ?_
 rw[ja5,v32f];delta ii kl Ff.lu az am bq ax dt cl ou ak aq lv co;have hc:(t.s.size≤9223372036854775807∧v.s.size≤9223372036854775807):=jab hc
 try dsimp only[s32f]
 have hn:fit4 v t=0→ja9 t→ -2147483648≤v.n∧v.n≤2147483648:=fun h hv=>jlb h hv
 refine c_t (jaa hc) ?_;simp only[jl4];unfold txV txE;apply cond_intro<;>intro h
 ·have h:fit4 v t≠0:=by simpa using h
  simp only[if_pos h]
 have h:fit4 v t=0:=by simpa using h
 have h':¬fit4 v t≠0:=fun q=>q h
 have hv:(t.k=1∨t.k=2)→ja9 t:=fun hk=>by
  have hc4:chk4 t=0:=by
   unfold fit4 at h;split at h
   ·exact h
   ·rename_i q;exact Decidable.not_not.1 q
  unfold chk4 at hc4;split at hc4
  ·assumption
  ·rw[if_neg (by omega),if_neg (by omega),if_neg (by omega),if_neg (by omega)]at hc4;cases hc4
 simp only[if_neg h'];apply cond_intro<;>intro h6
 ·have h6:t.k=6:=by simpa using h6
  simp only[if_pos h6];rfl
 have h6:¬t.k=6:=by simpa using h6
 simp only[if_neg h6,txS];refine cond_intro (fun k1=> ?_) (fun k1=>cond_intro (fun k2=> ?_) (fun k2=> ?_))
 ·have V:=hv (.inl (by simpa using k1));refine c_t (jaa ⟨V,hn h V⟩) ?_;rw[if_pos V];rfl
 ·have V:=hv (.inr (by simpa using k2));refine c_t (jaa ⟨V,hn h V⟩) ?_;rw[if_pos V];rfl
 have nV:¬ja9 t:=fun V=>by
  have:=V.1;simp only[beq_eq_false_iff_ne]at k1 k2;omega
 rw[if_neg nV];refine cond_intro (fun _=>rfl) (fun _=>cond_intro (fun _=>c_t (jaa hc.1) (cond_intro (fun _=>rfl) (fun _=>rfl))) (fun _=>rfl))
instance tabsU6:Tabs:=tabs
def jci(v:Vl)(t:Ty):Fu:=if t.k=1∨t.k=2 then .w v.n t else if t.k=4 then .b v.s else if t.k=5∧pN (bz t.s)=true then .p v.s t.s else .c v.s
open Classical in
theorem cuK_ex:∃d:Bool→Fu→Ty→Bool,∀b f t,d b f t=true↔cuA f t∧(cuV f t).2.2.2.isNone=b:=⟨fun b f t=>decide (cuA f t∧(cuV f t).2.2.2.isNone=b),fun b f t=>by simp⟩
def cuK:Bool→Fu→Ty→Bool:=Classical.choose cuK_ex
theorem jio{b:Bool}{f:Fu}{t:Ty}:cuK b f t=true↔cuA f t∧(cuV f t).2.2.2.isNone=b:=Classical.choose_spec cuK_ex b f t
theorem cuO_ex:∃d:Fu→Ty→Int×Y×Int×Y,∀f t,d f t=((cuV f t).1,(cuV f t).2.1,(cuV f t).2.2.1,(cuV f t).2.2.2.getD ⟨#[]⟩):=⟨_,fun _ _=>rfl⟩
def cuO:Fu→Ty→Int×Y×Int×Y:=Classical.choose cuO_ex
theorem cuO_eq(f:Fu)(t:Ty):cuO f t=((cuV f t).1,(cuV f t).2.1,(cuV f t).2.2.1,(cuV f t).2.2.2.getD ⟨#[]⟩):=Classical.choose_spec cuO_ex f t
def s97w(v:Vl)(t:Ty):Bool×Value:=(decide (t.k=1∨t.k=2),.iface 241 (.agg ⟨[.int .i64 v.n,.int .i64 t.k,.int .i64 t.p,.int .i64 t.q,.bool t.v,.string t.s]⟩))
def s97b(v:Vl)(t:Ty):Bool×Value:=(decide (t.k=4),.iface 242 (.string v.s))
def s97p(v:Vl)(t:Ty):Bool×Value:=(decide (t.k=5∧pN (bz t.s)=true∧t.s.size≤9223372036854775807),.iface 244 (.agg ⟨[.string v.s,.string t.s]⟩))
def s97c(v:Vl)(t:Ty):Bool×Value:=(decide (¬(t.k=1∨t.k=2)∧t.k≠4∧(t.k=5→ ¬pN (bz t.s)=true)∧t.s.size≤9223372036854775807),.iface 245 (.string v.s))
def s99y:Ab.Spec:=fun args _=>match args with
 | [a,.agg ⟨[.int .i64 k,.int .i64 p,.int .i64 q,.bool w,.string u]⟩]=>match decU a with
  | some f=>some (cuK true f ⟨k,p,q,w,u⟩,tp3 (cuO f ⟨k,p,q,w,u⟩).1 (cuO f ⟨k,p,q,w,u⟩).2.1 (cuO f ⟨k,p,q,w,u⟩).2.2.1 .nilIface)
  | none=>none
 | _=>none
def s99n:Ab.Spec:=fun args _=>match args with
 | [a,.agg ⟨[.int .i64 k,.int .i64 p,.int .i64 q,.bool w,.string u]⟩]=>match decU a with
  | some f=>some (cuK false f ⟨k,p,q,w,u⟩,tp3 (cuO f ⟨k,p,q,w,u⟩).1 (cuO f ⟨k,p,q,w,u⟩).2.1 (cuO f ⟨k,p,q,w,u⟩).2.2.1 (er (cuO f ⟨k,p,q,w,u⟩).2.2.2))
  | none=>none
 | _=>none
def zrV(t:Ty):Y:=if t.k=4 then szO (List.replicate t.p.toNat 48)else if t.k=5 then sz (zeS (bz t.s))else⟨#[]⟩
theorem zrO_ex:∃d:Ty→Y,d=zrV:=⟨_,rfl⟩
def zrO:Ty→Y:=Classical.choose zrO_ex
theorem zrO_eq:zrO=zrV:=Classical.choose_spec zrO_ex
def s101u(t:Ty):Bool×Value:=(decide (t.s.size≤9223372036854775807∧(t.k=4→0≤t.p∧t.p≤1000)),.agg ⟨[I 0,S (zrO t)]⟩)
def Uz:Env:=K9p.add 219 (sp1 Px.s54)
def Uv:Env:=(((Env.nil.add 23 (sp2 z22)).add 72 (sp1 z20)).add 169 (sp1 s101u)).addG 168 h100
def Uy(s97:Vl→Ty→Bool×Value):Env:=(Uv.add 158 (sp2 s97)).add 167 s99y
def Un(s97:Vl→Ty→Bool×Value):Env:=(Uv.add 158 (sp2 s97)).add 167 s99n
def v97:Env:=Env.nil.add 170 (sp1 Px.s31)
theorem u97(v:Vl)(t:Ty)(R:Value→Prop):jaz Tryz.prog v97 noL Tryz.f158 [Enc.enc v,Enc.enc t] (fun _=>none) 0 (fun v _ _=>R v)=(bif cl t 1 then R (s97w v t).snd else bif cl t 2 then R (s97w v t).snd else ou t (s97b v t).snd (s97p v t).snd (s97c v t).snd R):=by kernel_rfl
theorem u101(t:Ty)(R:Value→Prop):jaz Tryz.prog Uz noL Tryz.f169 [Enc.enc t] (fun _=>none) 0 (fun v _ _=>R v)=(bif cl t 4 then bif gq cv (Fx.Ty.p t)then∀a:Y,g9 cv (Fx.Ty.p t)=a→R (ay [Px.I 0,S a])else False else bif cl t 5 then aq (ax (Fx.Ty.s t)) (ay [Px.I 0,S (sz (zeS (bz (Fx.Ty.s t))))]) R else R (ay [Px.I 0,S am])):=by kernel_rfl
def hd34(R:Value→Prop)(v:Vl)(f t:Ty)(c:Bool)(X:Prop):Prop:=
 bif decide (ByteArray.size f.s≤9223372036854775807∧ByteArray.size v.s≤9223372036854775807)then bif ftT v f !=0 then R (tp3 0 ⟨#[]⟩ 0 (I (ftT v f)))else
 bif decide (ByteArray.size t.s≤9223372036854775807)then bif ckT t !=0 then R (tp3 0 ⟨#[]⟩ 0 (I (ckT t)))else
 bif f.k==6 || true then bif f.k==6 || t.k==6 then bif f.k !=t.k then R (tp3 0 ⟨#[]⟩ 0 (I 5))else R (tp3 v.n v.s 0 (I 0))else bif c then X else False else False else False else False
def tl34(R:Value→Prop)(g:Fu)(t:Ty):Prop:=bif cuK true g t then R (tp3 (cuO g t).1 (cuO g t).2.1 (cuO g t).2.2.1 (I 0))else False
def tn34(R:Value→Prop)(g:Fu)(t:Ty):Prop:=bif cuK false g t then bif decide (t.s.size≤9223372036854775807∧(t.k=4→0≤t.p∧t.p≤1000))then R (tp3 0 (zrO t) 4 (I 0))else False else False
theorem u34yw(v:Vl)(f t:Ty)(R:Value→Prop):jaz Tryz.prog (Uy s97w) noL Tryz.f115 [Enc.enc v,Enc.enc f,Enc.enc t] (fun _=>none) 0 (fun v _ _=>R v)=hd34 R v f t (s97w v f).1 (tl34 R (.w v.n f) t):=by kernel_rfl
theorem u34yb(v:Vl)(f t:Ty)(R:Value→Prop):jaz Tryz.prog (Uy s97b) noL Tryz.f115 [Enc.enc v,Enc.enc f,Enc.enc t] (fun _=>none) 0 (fun v _ _=>R v)=hd34 R v f t (s97b v f).1 (tl34 R (.b v.s) t):=by kernel_rfl
theorem u34yp(v:Vl)(f t:Ty)(R:Value→Prop):jaz Tryz.prog (Uy s97p) noL Tryz.f115 [Enc.enc v,Enc.enc f,Enc.enc t] (fun _=>none) 0 (fun v _ _=>R v)=hd34 R v f t (s97p v f).1 (tl34 R (.p v.s f.s) t):=by kernel_rfl
theorem u34yc(v:Vl)(f t:Ty)(R:Value→Prop):jaz Tryz.prog (Uy s97c) noL Tryz.f115 [Enc.enc v,Enc.enc f,Enc.enc t] (fun _=>none) 0 (fun v _ _=>R v)=hd34 R v f t (s97c v f).1 (tl34 R (.c v.s) t):=by kernel_rfl
theorem u34nw(v:Vl)(f t:Ty)(R:Value→Prop):jaz Tryz.prog (Un s97w) noL Tryz.f115 [Enc.enc v,Enc.enc f,Enc.enc t] (fun _=>none) 0 (fun v _ _=>R v)=hd34 R v f t (s97w v f).1 (tn34 R (.w v.n f) t):=by kernel_rfl
theorem u34nb(v:Vl)(f t:Ty)(R:Value→Prop):jaz Tryz.prog (Un s97b) noL Tryz.f115 [Enc.enc v,Enc.enc f,Enc.enc t] (fun _=>none) 0 (fun v _ _=>R v)=hd34 R v f t (s97b v f).1 (tn34 R (.b v.s) t):=by kernel_rfl
theorem u34np(v:Vl)(f t:Ty)(R:Value→Prop):jaz Tryz.prog (Un s97p) noL Tryz.f115 [Enc.enc v,Enc.enc f,Enc.enc t] (fun _=>none) 0 (fun v _ _=>R v)=hd34 R v f t (s97p v f).1 (tn34 R (.p v.s f.s) t):=by kernel_rfl
theorem u34nc(v:Vl)(f t:Ty)(R:Value→Prop):jaz Tryz.prog (Un s97c) noL Tryz.f115 [Enc.enc v,Enc.enc f,Enc.enc t] (fun _=>none) 0 (fun v _ _=>R v)=hd34 R v f t (s97c v f).1 (tn34 R (.c v.s) t):=by kernel_rfl
end Go.Cx
end
