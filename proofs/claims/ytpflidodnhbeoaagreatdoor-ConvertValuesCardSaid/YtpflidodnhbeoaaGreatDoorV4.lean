/-
  Part 4: the run and laws.
-/
import Derived.Test.YtpflidodnhbeoaaGreatDoorV3
set_option linter.unusedVariables false
set_option linter.unusedSimpArgs false
noncomputable section
set_option maxHeartbeats 3200000
namespace Go.Cx
open Go Go.Ab Go.Proofs Go.Shelf Go.Px Go.Cv
open Go.Fx (Ty Vl check ja9 most base pw bnd Fit fits tv vv tup V0 T0 jbh jbl jbc jbx str0)
def H2:Env:=Env.nil
theorem ok_H2:jaw Tryz.prog H2:=jap
theorem fn153:Fn1 Tryz.prog 153 Tryz.f153:= .m Tryz.func153
theorem fn214:Fn1 Tryz.prog 214 Tryz.f214:= .m Tryz.func214
theorem fn215:Fn1 Tryz.prog 215 Tryz.f215:= .m Tryz.func215
theorem fn76:Fn1 Tryz.prog 76 Tryz.f76:= .m Tryz.func76
theorem fn212:Fn1 Tryz.prog 212 Tryz.f212:= .m Tryz.func212
theorem fn263:Fn1 Tryz.prog 263 Tryz.f263:= .m Tryz.func263
theorem fn264:Fn1 Tryz.prog 264 Tryz.f264:= .m Tryz.func264
theorem fn151:Fn1 Tryz.prog 151 Tryz.f151:= .m Tryz.func151
noncomputable def G7 : Env := ((((Env.nil.add 152 (sp1 s152)).add 213 (sp1 s213)).addG 153 (inlQ Tryz.prog H2 noL Tryz.f153)).addG 214 (inlQ Tryz.prog H2 noL Tryz.f214)).addG 215 (inlQ Tryz.prog H2 noL Tryz.f215)
theorem ok_G7:jaw Tryz.prog G7:=jao (jao (jao (jai (jai jap ok152) ok213) (jar ok_H2 hmix fn153 jak)) (jar ok_H2 hmix fn214 jak)) (jar ok_H2 hmix fn215 jak)
noncomputable def G8 : Env := (((((Env.nil.add 152 (sp1 s152)).addG 153 (inlQ Tryz.prog H2 noL Tryz.f153)).addG 76 (inlQ Tryz.prog H2 noL Tryz.f76)).addG 212 (inlQ Tryz.prog G7 noL Tryz.f212)).addG 263 (inlQ Tryz.prog G7 noL Tryz.f263)).addG 264 (inlQ Tryz.prog G7 noL Tryz.f264)
theorem ok_G8:jaw Tryz.prog G8:=jao (jao (jao (jao (jao (jai jap ok152) (jar ok_H2 hmix fn153 jak)) (jar ok_H2 hmix fn76 jak)) (jar ok_G7 hmix fn212 jak)) (jar ok_G7 hmix fn263 jak)) (jar ok_G7 hmix fn264 jak)
noncomputable def G9 : Env := (((((((Env.nil.add 55 (sp2 s55)).add 77 (sp3 s77)).add 78 (sp1 s78)).addG 76 (inlQ Tryz.prog H2 noL Tryz.f76)).addG 212 (inlQ Tryz.prog G7 noL Tryz.f212)).addG 263 (inlQ Tryz.prog G7 noL Tryz.f263)).addG 264 (inlQ Tryz.prog G7 noL Tryz.f264)).addG 151 (inlQ Tryz.prog G8 noL Tryz.f151)
theorem ok_G9:jaw Tryz.prog G9:=jao (jao (jao (jao (jao (jai (jai (jai jap ok55) ok77) ok78) (jar ok_H2 hmix fn76 jak)) (jar ok_G7 hmix fn212 jak)) (jar ok_G7 hmix fn263 jak)) (jar ok_G7 hmix fn264 jak)) (jar ok_G8 hmix fn151 jak)
inductive Ms where
 | beg | bod (s p:Bool) | exq (g:Bool) (m:Int) | beh
def Ms.v:Ms→Value
 | .beg=> .func (.func 151) ⟨[]⟩ ⟨[]⟩
 | .bod _ _=> .func (.func 212) ⟨[]⟩ ⟨[.pointer (some ⟨200,0,some 0⟩),.pointer (some ⟨201,0,some 0⟩)]⟩
 | .exq _ _=> .func (.func 263) ⟨[]⟩ ⟨[.pointer (some ⟨200,0,some 0⟩),.pointer (some ⟨201,0,some 0⟩)]⟩
 | .beh=> .func (.func 264) ⟨[]⟩ ⟨[]⟩
def Ms.b0:Ms→Option Blk
 | .bod _ p=>some ⟨[.bool p],4,true⟩
 | .exq _ m=>some ⟨[.int .i64 m],3,true⟩
 | _=>none
def Ms.b1:Ms→Option Blk
 | .bod s _=>some ⟨[.bool s],4,true⟩
 | .exq g _=>some ⟨[.bool g],4,true⟩
 | _=>none
def Ms.st:Ms→St
 | .beg=> .beg
 | .bod s p=> .bod s p
 | .exq g m=> .exq g m.toNat
 | .beh=> .beh
def Ms.ok(M:Ms)(e:Bool)(pw sc:Int):Bool:=match M with
 | .beg=>e&&decide (pw=0)
 | .bod s _=>e==s&&decide (pw=0)
 | .exq g m=>e==decide (0<m) &&decide (0≤m∧m≤2∧(g=false→m=0)∧0≤pw∧(m=0→pw=0)∧(m=1→pw<10)∧pw<100)
 | .beh=>e&&decide (0≤pw∧pw<100)
structure RunIs (l:J)(st:St)(r:Rd)(x:Option (St×Rd)):Prop where
 h:runQ l st r=x
structure MsIs (M:Ms)(mv:Value)(b0 b1:Option Blk):Prop where
 v:mv=M.v
 b0:b0=M.b0
 b1:b1=M.b1
def FinN(l:J)(st:St)(r:Rd)(A:Prop)(B:Bool→Bool→Bool→Y→Int→Int→Bool→Value→Option Blk→Option Blk→Prop):Prop:=
 (RunIs l st r none→A)∧(∀(ng bn dn:Bool)(ds:Y)(sc pw:Int)(M:Ms)(e:Bool)(mv:Value),(M.ok e pw sc&&decide (ds.size≤255∧0≤sc∧sc≤255))=true→MsIs M mv none none→RunIs l st r (some (M.st,⟨ng,bn,dn,bz ds,sc,pw⟩))→B ng bn dn ds sc pw e mv none none)∧
   (∀(ng bn dn:Bool)(ds:Y)(sc pw:Int)(M:Ms)(e:Bool)(mv x y:Value)(tx ty:TypeId),(M.ok e pw sc&&decide (ds.size≤255∧0≤sc∧sc≤255))=true→MsIs M mv (some ⟨[x],tx,true⟩) (some ⟨[y],ty,true⟩)→RunIs l st r (some (M.st,⟨ng,bn,dn,bz ds,sc,pw⟩))→B ng bn dn ds sc pw e mv (some ⟨[x],tx,true⟩) (some ⟨[y],ty,true⟩))
theorem jc8{l:J}{st:St}{r:Rd}{A:Prop}{B:Bool→Bool→Bool→Y→Int→Int→Bool→Value→Option Blk→Option Blk→Prop}:FinN l st r A B↔
  ((runQ l st r=none→A)∧(∀(ng bn dn:Bool)(ds:Y)(sc pw:Int)(M:Ms)(e:Bool),(M.ok e pw sc&&decide (ds.size≤255∧0≤sc∧sc≤255))=true→runQ l st r=some (M.st,⟨ng,bn,dn,bz ds,sc,pw⟩)→B ng bn dn ds sc pw e M.v M.b0 M.b1)):=by
 unfold FinN;refine⟨fun⟨h1,h2,h3⟩=>⟨fun h=>h1 ⟨h⟩,fun ng bn dn ds sc pw M e ho h=> ?_⟩,fun⟨h1,h2⟩=>⟨fun h=>h1 h.h,fun ng bn dn ds sc pw M e mv ho hm h=> ?_,fun ng bn dn ds sc pw M e mv x y tx ty ho hm h=> ?_⟩⟩
 ·cases M with
  | beg=>exact h2 ng bn dn ds sc pw _ e _ ho ⟨rfl,rfl,rfl⟩ ⟨h⟩
  | bod q p=>exact h3 ng bn dn ds sc pw _ e _ _ _ _ _ ho ⟨rfl,rfl,rfl⟩ ⟨h⟩
  | exq q m=>exact h3 ng bn dn ds sc pw _ e _ _ _ _ _ ho ⟨rfl,rfl,rfl⟩ ⟨h⟩
  | beh=>exact h2 ng bn dn ds sc pw _ e _ ho ⟨rfl,rfl,rfl⟩ ⟨h⟩
 ·have:=h2 ng bn dn ds sc pw M e ho h.h;rw[←hm.v,←hm.b0,←hm.b1]at this;exact this
 ·have:=h2 ng bn dn ds sc pw M e ho h.h;rw[←hm.v,←hm.b0,←hm.b1]at this;exact this
theorem enc_dig{c:Int}(h:dig c=true):bz (Utf8.encode (IntKind.wrap .i32 c))=[c]∧(Utf8.encode (IntKind.wrap .i32 c)).size=1:=by
 unfold dig at h;have h:=jab h;have:c=48∨c=49∨c=50∨c=51∨c=52∨c=53∨c=54∨c=55∨c=56∨c=57:=by omega
 rcases this with h | h | h | h | h | h | h | h | h | h<;>subst h<;>exact⟨by kernel_rfl,by kernel_rfl⟩
theorem enc_app{c:Int}{ds:Y}(h:dig c=true)(hs:ds.size≤255):bz (ds++Utf8.encode (IntKind.wrap .i32 c))=bz ds++ [c]∧(ds++Utf8.encode (IntKind.wrap .i32 c)).size=ds.size+1∧jbi (ds.size+(Utf8.encode (IntKind.wrap .i32 c)).size)=true:=by
 obtain⟨h1,h2⟩:=enc_dig h;refine⟨by rw[jbr,h1],by rw[ByteArray.size_append,h2],?_⟩;rw[h2];simp only[jbi,Nat.ble_eq];omega
def V24_0:Y×Bool×Y×Int×Bool×Bool×Bool×Bool×Y×Int×Int×Ms×Bool×Int×Int→E:=fun(s,zb,zs,zi,f,ng,bn,dn,ds,sc,pw,M,e,L,i)=> [S s,.pointer (some ⟨0,0,some 0⟩),B f,.pointer (some ⟨6,0,some 0⟩),.pointer (some ⟨11,0,some 0⟩),I L,I i]
def B24_0:Y×Bool×Y×Int×Bool×Bool×Bool×Bool×Y×Int×Int×Ms×Bool×Int×Int→O:=fun(s,zb,zs,zi,f,ng,bn,dn,ds,sc,pw,M,e,L,i)=> [some ⟨[B zb,S zs,I zi],33,true⟩,some ⟨[B ng,B bn,B dn,S ds,I sc,I pw],83,true⟩,some ⟨[M.v,B e],86,true⟩,M.b0,M.b1]
def S24_0:LSpecA (Y×Bool×Y×Int×Bool×Bool×Bool×Bool×Y×Int×Int×Ms×Bool×Int×Int) where
 live:=[0,2,3,4,5,15,16]
 mid:=[0,6,11,200,201]
 n:=210
 ap:=[(.cap 11 0 0 9000000,200),(.cap 11 0 1 9000001,201)]
 dec vs bs:=match vs,bs with
  | [.string s,.pointer (some ⟨0,0,some 0⟩),.bool f,.pointer (some ⟨6,0,some 0⟩),.pointer (some ⟨11,0,some 0⟩),.int .i64 L,.int .i64 i],[some ⟨[.bool zb,.string zs,.int .i64 zi],33,true⟩,some ⟨[.bool ng,.bool bn,.bool dn,.string ds,.int .i64 sc,.int .i64 pw],83,true⟩,some ⟨[.func (.func 151) ⟨[]⟩ ⟨[]⟩,.bool e],86,true⟩,none,none]=>some (s,zb,zs,zi,f,ng,bn,dn,ds,sc,pw,.beg,e,L,i)
  | [.string s,.pointer (some ⟨0,0,some 0⟩),.bool f,.pointer (some ⟨6,0,some 0⟩),.pointer (some ⟨11,0,some 0⟩),.int .i64 L,.int .i64 i],[some ⟨[.bool zb,.string zs,.int .i64 zi],33,true⟩,some ⟨[.bool ng,.bool bn,.bool dn,.string ds,.int .i64 sc,.int .i64 pw],83,true⟩,some ⟨[.func (.func 264) ⟨[]⟩ ⟨[]⟩,.bool e],86,true⟩,none,none]=>some (s,zb,zs,zi,f,ng,bn,dn,ds,sc,pw,.beh,e,L,i)
  | [.string s,.pointer (some ⟨0,0,some 0⟩),.bool f,.pointer (some ⟨6,0,some 0⟩),.pointer (some ⟨11,0,some 0⟩),.int .i64 L,.int .i64 i],[some ⟨[.bool zb,.string zs,.int .i64 zi],33,true⟩,some ⟨[.bool ng,.bool bn,.bool dn,.string ds,.int .i64 sc,.int .i64 pw],83,true⟩,some ⟨[.func (.func 212) ⟨[]⟩ ⟨[.pointer (some ⟨200,0,some 0⟩),.pointer (some ⟨201,0,some 0⟩)]⟩,.bool e],86,true⟩,some ⟨[.bool p],4,true⟩,some ⟨[.bool q],4,true⟩]=>some (s,zb,zs,zi,f,ng,bn,dn,ds,sc,pw,.bod q p,e,L,i)
  | [.string s,.pointer (some ⟨0,0,some 0⟩),.bool f,.pointer (some ⟨6,0,some 0⟩),.pointer (some ⟨11,0,some 0⟩),.int .i64 L,.int .i64 i],[some ⟨[.bool zb,.string zs,.int .i64 zi],33,true⟩,some ⟨[.bool ng,.bool bn,.bool dn,.string ds,.int .i64 sc,.int .i64 pw],83,true⟩,some ⟨[.func (.func 263) ⟨[]⟩ ⟨[.pointer (some ⟨200,0,some 0⟩),.pointer (some ⟨201,0,some 0⟩)]⟩,.bool e],86,true⟩,some ⟨[.int .i64 m],3,true⟩,some ⟨[.bool q],4,true⟩]=>some (s,zb,zs,zi,f,ng,bn,dn,ds,sc,pw,.exq q m,e,L,i)
  | _,_=>none
 pre:=fun(s,zb,zs,zi,f,ng,bn,dn,ds,sc,pw,M,e,L,i)=>M.ok e pw sc&&decide (0≤i∧i≤L∧L=s.size∧L≤255∧(ds.size:Int)≤i∧0≤sc∧sc≤i)
 fin:=fun(s,zb,zs,zi,f,ng,bn,dn,ds,sc,pw,M,e,L,i) Z=>FinN ((bz s).drop i.toNat) M.st ⟨ng,bn,dn,bz ds,sc,pw⟩ (∀(ng' bn' dn':Bool)(ds':Y)(sc' pw' j:Int),Z .ret [S s,.pointer (some ⟨0,0,some 0⟩),B false,.pointer (some ⟨6,0,some 0⟩),.pointer (some ⟨11,0,some 0⟩),I L,I j] [some ⟨[B false,S e0,I 0],33,true⟩,some ⟨[B ng',B bn',B dn',S ds',I sc',I pw'],83,true⟩,some ⟨[.nilFunc,B false],86,true⟩,none,none]) (fun ng' bn' dn' ds' sc' pw' e' mv b0 b1=>Z (.exit 0) [S s,.pointer (some ⟨0,0,some 0⟩),B f,.pointer (some ⟨6,0,some 0⟩),.pointer (some ⟨11,0,some 0⟩),I L,I L] [some ⟨[B zb,S zs,I zi],33,true⟩,some ⟨[B ng',B bn',B dn',S ds',I sc',I pw'],83,true⟩,some ⟨[mv,B e'],86,true⟩,b0,b1])
def mn(b:Bool)(a:Value):Option Blk:=some (.mk [a,.bool b] 86 true)
def kh(a b c:Bool)(d:Y)(e f:Int):Option Blk:=some (.mk (.bool a:: .bool b:: .bool c:: .string d::az e f) 83 true)
def ni(b:Bool)(a:Y)(c d:Int):E:= .string a::aq 0:: .bool b::aq 6::aq 11::az c d
def mo(e f g:Bool)(b h:Y)(a:Exit→E→O→Prop)(c d i j:Int):Prop:=a .ret (.string b::aq 0:: .bool false::aq 6::aq 11::az c d) [some (.mk kr 33 true),kh e f g h i j,mn false Value.nilFunc,none,none]
def ra(c:Bool)(b:TypeId)(a:Value):O:=some (.mk [a] b true)::gk [.bool c] 4
def mp(a c:Bool)(b:FuncId)(d:TypeId)(e:Value):O:=mn a (kt b [aq 200,aq 201])::ra c d e
def jx(b:Bool)(a:Y)(c d:Int):E:= .string a::aq 0:: .bool b::aq 6::aq 11::cq c d
def mq(a b c f h:Bool)(d:Y)(g:FuncId)(e:E)(i:TypeId)(j:Value):O:=some (.mk (.bool a:: .bool b:: .bool c:: .string d::e) 83 true)::mp f h g i j
def mr(a:FuncId):O:=[mn true (kt a []),none,none]
theorem r24_0b(s:Y)(zb:Bool)(zs:Y)(zi:Int)(f:Bool)(ng:Bool)(bn:Bool)(dn:Bool)(ds:Y)(sc:Int)(pw:Int)(e:Bool)(L:Int)(i:Int)(jk:Tmps)(R:Exit→E→O→Prop):(jbp Tryz.prog G9 noL Tryz.f24.ntmps (ja6 Tryz.f24 0) (tl S24_0.live (V24_0 (s,zb,zs,zi,f,ng,bn,dn,ds,sc,pw,.beg,e,L,i)) jk) (ml S24_0.mid (B24_0 (s,zb,zs,zi,f,ng,bn,dn,ds,sc,pw,.beg,e,L,i))) S24_0.n fun e t' m' _=>S24_0.out R e t' m')=(bif ct i L then fu (ar s i 32) s i (R .normal (jx f s L i) (fx zb zs zi::kh ng bn dn ds sc pw::mr 151)) (bw (ar s i 43) true (ar s i 43 || ar s i 45) (R .normal (jx f s L i) (fx zb zs zi::mq (ar s i 45) bn dn false false ds 212 (az sc pw) 4 (B false))) (bif dig (ax s i)then bm (ew ds (Utf8.encode (aw (ax s i) .i32))) R (fx zb zs zi::mq ng bn dn true true (ds++Utf8.encode (aw (ax s i) .i32)) 212 (az sc pw) 4 (B false)) (jx f s L i)else i7 (ar s i 46) true (ar s i 46&& !false) (R .normal (jx f s L i) (fx zb zs zi::kh ng bn dn ds sc pw::mp false false 212 4 (B true))) (mo ng bn dn s ds R L i sc pw)))else R (.exit 0) (ni f s L i) [fx zb zs zi,kh ng bn dn ds sc pw,mn e (kt 151 []),none,none]):=by kernel_rfl
theorem r24_0d(s:Y)(zb:Bool)(zs:Y)(zi:Int)(f:Bool)(ng:Bool)(bn:Bool)(dn:Bool)(ds:Y)(sc:Int)(pw:Int)(q:Bool)(p:Bool)(e:Bool)(L:Int)(i:Int)(jk:Tmps)(R:Exit→E→O→Prop):(jbp Tryz.prog G9 noL Tryz.f24.ntmps (ja6 Tryz.f24 0) (tl S24_0.live (V24_0 (s,zb,zs,zi,f,ng,bn,dn,ds,sc,pw,(.bod q p),e,L,i)) jk) (ml S24_0.mid (B24_0 (s,zb,zs,zi,f,ng,bn,dn,ds,sc,pw,(.bod q p),e,L,i))) S24_0.n fun e t' m' _=>S24_0.out R e t' m')=(bif ct i L then fu (dig (ax s i)) s i (bif ew ds (Utf8.encode (aw (ax s i) .i32))then bif p then R .normal (jx f s L i) (fx zb zs zi::mq ng bn dn true true (ds++Utf8.encode (aw (ax s i) .i32)) 212 [bu sc,ak pw] 4 (B p))else R .normal (jx f s L i) (fx zb zs zi::mq ng bn dn true true (ds++Utf8.encode (aw (ax s i) .i32)) 212 (az sc pw) 4 (B p))else False) (bw (ar s i 46) true (ar s i 46&& !p) (R .normal (jx f s L i) (fx zb zs zi::kh ng bn dn ds sc pw::mp q q 212 4 (B true))) (bif !q then mo ng bn dn s ds R L i sc pw else bif ar s i 69 then R .normal (jx f s L i) (fx zb zs zi::kh ng bn dn ds sc pw::mp (decide (0>0)) false 263 3 (ak 0))else i7 (ar s i 66) true (ar s i 66&& !p) (R .normal (jx f s L i) (fx zb zs zi::some (.mk (B ng::B true::B dn::S ds::az sc pw) 83 true)::mr 264)) (bif ar s i 32 then R .normal (jx f s L i) (fx zb zs zi::kh ng bn dn ds sc pw::mr 264)else mo ng bn dn s ds R L i sc pw)))else R (.exit 0) (ni f s L i) (fx zb zs zi::kh ng bn dn ds sc pw::mp e q 212 4 (B p))):=by kernel_rfl
theorem r24_0x(s:Y)(zb:Bool)(zs:Y)(zi:Int)(f:Bool)(ng:Bool)(bn:Bool)(dn:Bool)(ds:Y)(sc:Int)(pw:Int)(q:Bool)(m:Int)(e:Bool)(L:Int)(i:Int)(jk:Tmps)(R:Exit→E→O→Prop):(jbp Tryz.prog G9 noL Tryz.f24.ntmps (ja6 Tryz.f24 0) (tl S24_0.live (V24_0 (s,zb,zs,zi,f,ng,bn,dn,ds,sc,pw,(.exq q m),e,L,i)) jk) (ml S24_0.mid (B24_0 (s,zb,zs,zi,f,ng,bn,dn,ds,sc,pw,(.exq q m),e,L,i))) S24_0.n fun e t' m' _=>S24_0.out R e t' m')=(bif ct i L then bif bq s i then bw (dig (ax s i)) true (dig (ax s i) &&b8 m 2) (R .normal (jx f s L i) (fx zb zs zi::mq ng bn dn (decide (au m>0)) true ds 263 [ak sc,I (jm s 10 pw i)] 3 (bu m))) (i7 (ar s i 43) (ar s i 45 || true) (br (ar s i 43) (!q) (ar s i 45&& !q)) (R .normal (jx f s L i) (fx zb zs zi::mq ng bn (ar s i 45) (decide (0>0)) true ds 263 (az sc pw) 3 (ak 0))) (bif ar s i 32 || true then bif ar s i 32&&f9 m then R .normal (jx f s L i) (fx zb zs zi::kh ng bn dn ds sc pw::mr 264)else mo ng bn dn s ds R L i sc pw else False))else False else R (.exit 0) (ni f s L i) (fx zb zs zi::kh ng bn dn ds sc pw::mp e q 263 3 (ak m))):=by kernel_rfl
theorem r24_0h(s:Y)(zb:Bool)(zs:Y)(zi:Int)(f:Bool)(ng:Bool)(bn:Bool)(dn:Bool)(ds:Y)(sc:Int)(pw:Int)(e:Bool)(L:Int)(i:Int)(jk:Tmps)(R:Exit→E→O→Prop):(jbp Tryz.prog G9 noL Tryz.f24.ntmps (ja6 Tryz.f24 0) (tl S24_0.live (V24_0 (s,zb,zs,zi,f,ng,bn,dn,ds,sc,pw,.beh,e,L,i)) jk) (ml S24_0.mid (B24_0 (s,zb,zs,zi,f,ng,bn,dn,ds,sc,pw,.beh,e,L,i))) S24_0.n fun e t' m' _=>S24_0.out R e t' m')=(bif ct i L then fu (ar s i 32) s i (R .normal (jx f s L i) (fx zb zs zi::kh ng bn dn ds sc pw::mr 264)) (mo ng bn dn s ds R L i sc pw)else R (.exit 0) (ni f s L i) [fx zb zs zi,kh ng bn dn ds sc pw,mn e (kt 264 []),none,none]):=by kernel_rfl
theorem l24_0:LOKf Tryz.prog (oneL 0 S24_0.hA) Tryz.f24:=by
 refine jbe (h:=S24_0.hA) (by kernel_rfl) (jbv ok_G9 hmix (by kernel_rfl) (ja1 _) S24_0 V24_0 B24_0 (fun(s,zb,zs,zi,f,ng,bn,dn,ds,sc,pw,M,e,L,i)=>(L-i).toNat) ?_ ?_ ?_)
 ·intro vs bs s h;simp only[S24_0]at h;split at h
  all_goals first | (cases h;exact⟨rfl,rfl⟩) | cases h | (split at h<;>first | (rename_i hq;cases h;have hq:=jah hq;subst hq;exact⟨rfl,rfl⟩) | cases h)
 ·exact fun⟨s,zb,zs,zi,f,ng,bn,dn,ds,sc,pw,M,e,L,i⟩ hp=>by cases M<;>rfl
 ·intro⟨s,zb,zs,zi,f,ng,bn,dn,ds,sc,pw,M,e,L,i⟩ jk Z hp hf;simp only[S24_0]at hp hf;rw[jc8]at hf;simp only[jaf,jae]at hp;obtain⟨hM,hi0,hiL,hLs,hL,hds,hsc0,hsci⟩:=hp;have hw:i<L→IntKind.i64.wrap (i+1)=i+1:=fun h=>w64 (by omega)
  have hin:i<L→decide (0≤i∧i<(s.size:Int))=true:=fun h=>jaa (by omega)
  have hex:¬i<L→i=L:=fun h=>by omega
  have hxr:¬i<L→runQ ((bz s).drop i.toNat) M.st ⟨ng,bn,dn,bz ds,sc,pw⟩=some (M.st,⟨ng,bn,dn,bz ds,sc,pw⟩):=fun h=>by rw[jce (by omega)];rfl
  have hxe:(M.ok e pw sc&&decide (ds.size≤255∧0≤sc∧sc≤255))=true:=by rw[hM,jaa (show ds.size≤255∧0≤sc∧sc≤255 by omega)];rfl
  by_cases hlt:i<L
  case neg=>
   have hz:=hf.2 ng bn dn ds sc pw M e hxe (hxr hlt);obtain rfl:=hex hlt;cases M with
   | beg=>
    rw[r24_0b];delta mn kt ak az kh fx aq ni av am bq fu bw i7 ao cu kr mo gk ra mp au bu bp cq jx ax ar bm mq aw ew mr ct;exact c_f (jad hlt) hz
   | bod q p=>
    rw[r24_0d];delta gk ra mn kt aq mp ak az kh fx ni av am bq fu bw i7 ao cu kr mo mr au bu bp cq jx ax ar mq aw ew ct;exact c_f (jad hlt) hz
   | exq q m=>
    rw[r24_0x];delta gk ra mn kt aq mp ak az kh fx ni av bw i7 ao cu kr mo mr au bu bp cq jx f9 ax ar mq br aw k9 jm b8 am bq ct;exact c_f (jad hlt) hz
   | beh=>
    rw[r24_0h];delta mn kt ak az kh fx aq ni av am bq fu ao cu kr mo mr au bu bp cq jx ax ar ct;exact c_f (jad hlt) hz
  rw[jb4 hi0 (by omega)]at hf;cases M with
  | beg=>
   rw[r24_0b];delta mn kt ak az kh fx aq ni av am bq fu bw i7 ao cu kr mo gk ra mp au bu bp cq jx ax ar bm mq aw ew mr ct;rw[hw hlt];simp only[Ms.ok,jaf,jae]at hM;have hpw:=hM.2;refine c_t (jaa hlt) (c_t (hin hlt) (cond_intro (fun hg=> ?_) (fun hg=> ?_)))
   ·have hg:jaj s i.toNat=32:=eq_of_beq hg;rw[show Ms.beg.st=St.beg from rfl,q_beg1 hg]at hf;refine⟨(s,zb,zs,zi,f,ng,bn,dn,ds,sc,pw,.beg,true,L,i+1),rfl,rfl,?_,by simp only;omega,(by simp only[S24_0];exact jc8.2 hf)⟩;simp only[S24_0,jaf,jae];exact⟨by simp[Ms.ok,hpw],by omega,by omega,by omega,by omega,by omega,by omega,by omega⟩
   have h32:¬jaj s i.toNat=32:=by simpa using hg
   refine c_t (by simp) (cond_intro (fun hg=> ?_) (fun hg=> ?_))
   ·have hg:jaj s i.toNat=43∨jaj s i.toNat=45:=by simpa using hg
    have e45:decide (jaj s i.toNat=45)=(jaj s i.toNat==45):=rfl;rw[show Ms.beg.st=St.beg from rfl,q_beg2 hg]at hf;refine⟨(s,zb,zs,zi,f,(jaj s i.toNat==45),bn,dn,ds,sc,pw,(.bod false false),false,L,i+1),rfl,rfl,?_,by simp only;omega,(by simp only[S24_0];exact jc8.2 hf)⟩;simp only[S24_0,jaf,jae];exact⟨by simp[Ms.ok,hpw],by omega,by omega,by omega,by omega,by omega,by omega,by omega⟩
   have hsg:¬(jaj s i.toNat=43∨jaj s i.toNat=45):=by
    intro q;have:(jaj s i.toNat==43 || jaj s i.toNat==45)=true:=by simpa using q
    rw[this]at hg;cases hg
   rw[show Ms.beg.st=St.beg from rfl,q_beg3 h32 hsg]at hf;apply cond_intro<;>intro hg
   ·obtain⟨e1,e2,e3⟩:=enc_app (ds:=ds) hg (by omega);refine c_t e3 ?_;rw[q_bod1 hg]at hf;refine⟨(s,zb,zs,zi,f,ng,bn,dn,ds++Utf8.encode (IntKind.wrap .i32 (jaj s i.toNat)),sc,pw,(.bod true false),true,L,i+1),rfl,rfl,?_,by simp only;omega,?_⟩
    ·simp only[S24_0,jaf,jae];exact⟨by simp[Ms.ok,hpw],by omega,by omega,by omega,by omega,by rw[e2];omega,by omega,by omega⟩
    ·simp only[S24_0];rw[e1];exact jc8.2 hf
   refine c_t (by simp) (cond_intro (fun h46=> ?_) (fun h46=> ?_))
   ·have h46:jaj s i.toNat=46:=by simpa using h46
    rw[q_bod2 h46]at hf;refine⟨(s,zb,zs,zi,f,ng,bn,dn,ds,sc,pw,(.bod false true),false,L,i+1),rfl,rfl,?_,by simp only;omega,(by simp only[S24_0];exact jc8.2 hf)⟩;simp only[S24_0,jaf,jae];exact⟨by simp[Ms.ok,hpw],by omega,by omega,by omega,by omega,by omega,by omega,by omega⟩
   ·have h46:¬jaj s i.toNat=46:=by simpa using h46
    exact hf.1 (by rw[q_bod3 hg (fun q=>h46 q.1)]) ng bn dn ds sc pw i
  | bod q p=>
   rw[r24_0d];delta gk ra mn kt aq mp ak az kh fx ni av am bq fu bw i7 ao cu kr mo mr au bu bp cq jx ax ar mq aw ew ct;rw[hw hlt];simp only[Ms.ok,jaf,jae]at hM;obtain⟨heq,hpw⟩:=hM;rw[show(Ms.bod q p).st=St.bod q p from rfl]at hf;refine c_t (jaa hlt) (c_t (hin hlt) (cond_intro (fun hg=> ?_) (fun hg=> ?_)))
   ·obtain⟨e1,e2,e3⟩:=enc_app (ds:=ds) hg (by omega);refine c_t e3 ?_;rw[q_bod1 hg]at hf;cases p with
    | true=>
     rw[w64 (n:=sc+1) (by omega)];refine⟨(s,zb,zs,zi,f,ng,bn,dn,ds++Utf8.encode (IntKind.wrap .i32 (jaj s i.toNat)),sc+1,pw,(.bod true true),true,L,i+1),rfl,rfl,?_,by simp only;omega,?_⟩
     ·simp only[S24_0,jaf,jae];exact⟨by simp[Ms.ok,hpw],by omega,by omega,by omega,by omega,by rw[e2];omega,by omega,by omega⟩
     ·simp only[S24_0];rw[e1];exact jc8.2 hf
    | false=>
     refine⟨(s,zb,zs,zi,f,ng,bn,dn,ds++Utf8.encode (IntKind.wrap .i32 (jaj s i.toNat)),sc,pw,(.bod true false),true,L,i+1),rfl,rfl,?_,by simp only;omega,?_⟩
     ·simp only[S24_0,jaf,jae];exact⟨by simp[Ms.ok,hpw],by omega,by omega,by omega,by omega,by rw[e2];omega,by omega,by omega⟩
     ·simp only[S24_0];rw[e1];exact jc8.2 hf
   refine c_t (by simp) (cond_intro (fun h46=> ?_) (fun h46=> ?_))
   ·obtain⟨h46x,hp⟩:jaj s i.toNat=46∧p=false:=by simpa using h46
    subst hp;rw[q_bod2 h46x]at hf;refine⟨(s,zb,zs,zi,f,ng,bn,dn,ds,sc,pw,(.bod q true),q,L,i+1),rfl,rfl,?_,by simp only;omega,(by simp only[S24_0];exact jc8.2 hf)⟩;simp only[S24_0,jaf,jae];exact⟨by simp[Ms.ok,hpw],by omega,by omega,by omega,by omega,by omega,by omega,by omega⟩
   have h46':¬(jaj s i.toNat=46∧p=false):=by
    intro z;have:(jaj s i.toNat==46&& !p)=true:=by simpa using z
    rw[this]at h46;cases h46
   cases q with
   | false=>
    refine c_t rfl ?_;exact hf.1 (by rw[q_bod3 hg h46']) ng bn dn ds sc pw i
   | true=>
    refine c_f rfl (cond_intro (fun h69=> ?_) (fun h69=> ?_))
    ·have h69:jaj s i.toNat=69:=eq_of_beq h69;rw[q_bod4 h69]at hf;refine⟨(s,zb,zs,zi,f,ng,bn,dn,ds,sc,pw,(.exq false 0),false,L,i+1),rfl,rfl,?_,by simp only;omega,(by simp only[S24_0];exact jc8.2 hf)⟩;simp only[S24_0,jaf,jae];exact⟨by simp[Ms.ok,hpw],by omega,by omega,by omega,by omega,by omega,by omega,by omega⟩
    have h69:¬jaj s i.toNat=69:=by simpa using h69
    refine c_t (by simp) (cond_intro (fun h66=> ?_) (fun h66=> ?_))
    ·obtain⟨h66x,hp⟩:jaj s i.toNat=66∧p=false:=by simpa using h66
     subst hp;rw[q_bod5 h66x]at hf;refine⟨(s,zb,zs,zi,f,ng,true,dn,ds,sc,pw,.beh,true,L,i+1),rfl,rfl,?_,by simp only;omega,(by simp only[S24_0];exact jc8.2 hf)⟩;simp only[S24_0,jaf,jae];exact⟨by simp[Ms.ok,hpw],by omega,by omega,by omega,by omega,by omega,by omega,by omega⟩
    have h66':¬(jaj s i.toNat=66∧p=false):=by
     intro z;have:(jaj s i.toNat==66&& !p)=true:=by simpa using z
     rw[this]at h66;cases h66
    apply cond_intro<;>intro h32
    ·have h32:jaj s i.toNat=32:=eq_of_beq h32;rw[q_bod6 h32]at hf;refine⟨(s,zb,zs,zi,f,ng,bn,dn,ds,sc,pw,.beh,true,L,i+1),rfl,rfl,?_,by simp only;omega,(by simp only[S24_0];exact jc8.2 hf)⟩;simp only[S24_0,jaf,jae];exact⟨by simp[Ms.ok,hpw],by omega,by omega,by omega,by omega,by omega,by omega,by omega⟩
    ·have h32:¬jaj s i.toNat=32:=by simpa using h32
     exact hf.1 (by rw[q_bod7 hg h46' h69 h66' h32]) ng bn dn ds sc pw i
  | exq q m=>
   rw[r24_0x];delta gk ra mn kt aq mp ak az kh fx ni av bw i7 ao cu kr mo mr au bu bp cq jx f9 ax ar mq br aw k9 jm b8 am bq ct;rw[hw hlt];simp only[Ms.ok,jaf,jae]at hM;obtain⟨heq,hm0,hm2,hq,hp0,hp1,hp2,hp3⟩:=hM;rw[show(Ms.exq q m).st=St.exq q m.toNat from rfl]at hf;have hrng:=jfw s i.toNat;refine c_t (jaa hlt) (c_t (hin hlt) (c_t (by simp) (cond_intro (fun hg=> ?_) (fun hg=> ?_))))
   ·obtain⟨hg,hm⟩:dig (jaj s i.toNat)=true∧m<2:=by simpa using hg
    have hg2:48≤jaj s i.toNat∧jaj s i.toNat≤57:=by unfold dig at hg;exact jab hg
    have hpb:pw<10:=by
     rcases(show m=0∨m=1 by omega)with z | z
     ·rw[hp1 z];omega
     ·exact hp2 z
    rw[q_ex1 hg (by omega),show m.toNat+1=(m+1).toNat by omega]at hf;rw[w64 (n:=10*pw) (by omega),w8 (n:=jaj s i.toNat-48) (by omega),w64 (n:=jaj s i.toNat-48) (by omega),w64 (n:=10*pw+(jaj s i.toNat-48)) (by omega),w64 (n:=m+1) (by omega)];refine⟨(s,zb,zs,zi,f,ng,bn,dn,ds,sc,10*pw+(jaj s i.toNat-48),(.exq true (m+1)),decide (m+1>0),L,i+1),rfl,rfl,?_,by simp only;omega,(by simp only[S24_0];exact jc8.2 hf)⟩;simp only[S24_0,jaf,jae];refine⟨?_,by omega,by omega,by omega,by omega,by omega,by omega,by omega⟩;simp only[Ms.ok,jaf,jae,beq_iff_eq];refine⟨trivial,by omega,by omega,(fun h=>by cases h),by omega,by omega,?_,by omega⟩;intro h1;rw[hp1 (by omega)];omega
   have hg':¬(dig (jaj s i.toNat)=true∧m.toNat<2):=by
    intro z;have:(dig (jaj s i.toNat) &&decide (m<2))=true:=by rw[z.1,jaa (show m<2 by omega)];rfl
    rw[this]at hg;cases hg
   refine c_t (by simp) (cond_intro (fun hs=> ?_) (fun hs=> ?_))
   ·have hs2:(jaj s i.toNat=43∨jaj s i.toNat=45)∧q=false:=by
     by_cases z:jaj s i.toNat=43
     ·simp[z]at hs;exact⟨.inl z,hs⟩
     ·simp[z]at hs;exact⟨.inr hs.1,hs.2⟩
    obtain⟨hs2,rfl⟩:=hs2;have hm:=hq rfl;subst hm;rw[q_ex2 hs2]at hf;refine⟨(s,zb,zs,zi,f,ng,bn,(jaj s i.toNat==45),ds,sc,pw,(.exq true 0),(decide ((0:Int)>0)),L,i+1),rfl,rfl,?_,by simp only;omega,(by simp only[S24_0];exact jc8.2 hf)⟩;simp only[S24_0,jaf,jae];refine⟨?_,by omega,by omega,by omega,by omega,by omega,by omega,by omega⟩;simp only[Ms.ok,jaf,jae,beq_iff_eq];exact⟨trivial,by omega,by omega,(fun h=>by cases h),by omega,(fun _=>hp1 rfl),(fun h=>by cases h),by omega⟩
   have hs':¬((jaj s i.toNat=43∨jaj s i.toNat=45)∧q=false):=by
    rintro ⟨z | z,rfl⟩ <;>simp[z]at hs
   refine c_t (by simp) (cond_intro (fun h32=> ?_) (fun h32=> ?_))
   ·obtain⟨h32,hm⟩:jaj s i.toNat=32∧m>0:=by simpa using h32
    rw[q_ex3 h32 (by omega)]at hf;refine⟨(s,zb,zs,zi,f,ng,bn,dn,ds,sc,pw,.beh,true,L,i+1),rfl,rfl,?_,by simp only;omega,(by simp only[S24_0];exact jc8.2 hf)⟩;simp only[S24_0,jaf,jae];exact⟨by simp only[Ms.ok,Bool.true_and,jae];omega,by omega,by omega,by omega,by omega,by omega,by omega,by omega⟩
   ·have h32:¬(jaj s i.toNat=32∧0<m.toNat):=by
     intro z;have:(jaj s i.toNat==32&&decide (m>0))=true:=by rw[z.1,jaa (show m>0 by omega)];rfl
     rw[this]at h32;cases h32
    exact hf.1 (by rw[q_ex4 hg' hs' h32]) ng bn dn ds sc pw i
  | beh=>
   rw[r24_0h];delta mn kt ak az kh fx aq ni av am bq fu ao cu kr mo mr au bu bp cq jx ax ar ct;rw[hw hlt];simp only[Ms.ok,jaf,jae]at hM;rw[show Ms.beh.st=St.beh from rfl]at hf;refine c_t (jaa hlt) (c_t (hin hlt) (cond_intro (fun h32=> ?_) (fun h32=> ?_)))
   ·have h32:jaj s i.toNat=32:=eq_of_beq h32;rw[q_beh1 h32]at hf;refine⟨(s,zb,zs,zi,f,ng,bn,dn,ds,sc,pw,.beh,true,L,i+1),rfl,rfl,?_,by simp only;omega,(by simp only[S24_0];exact jc8.2 hf)⟩;simp only[S24_0,jaf,jae];exact⟨by simp only[Ms.ok,Bool.true_and,jae];omega,by omega,by omega,by omega,by omega,by omega,by omega,by omega⟩
   ·have h32:¬jaj s i.toNat=32:=by simpa using h32
    exact hf.1 (by rw[q_beh2 h32]) ng bn dn ds sc pw i
theorem zl_isB(l:Yb):IsB (zl l):=fun c hc=>by
 obtain⟨b,_,rfl⟩:=List.mem_map.1 hc;have:=b.toNat_lt;omega
theorem dz_isB(n:Int):IsB (dz n):=by
 unfold dz;split
 ·exact IsB.nil
 ·exact zl_isB _
theorem jis:∀(k:Nat)(n:Int),0≤n→n<10^k→(dz n).length≤k
 | 0,n,h,h1=>by
  have:n=0:=by simp at h1;omega
  rw[dz,if_pos this];simp
 | k+1,n,h,h1=>by
  by_cases h0:n=0
  ·rw[dz,if_pos h0];simp
  ·rw[jko (by omega),List.length_append];rw[Int.pow_succ]at h1;have:=jis k (n/10) (by omega) (by omega);simp;omega
theorem ji8(g:Bool)(l:J):ja4 g (dz (binG l 0)) 0=ja4 g (binD l) 0:=by
 unfold binD;by_cases h:binG l 0=0
 ·rw[h];have e:decZ 0=[48]:=by rw[decZ,Int.toNat_zero,Lib.decDigits_one (by decide)];rfl
  rw[e];rfl
 ·rw[dz,if_neg h]
theorem trim_isB{l c:J}(h:IsB l):IsB (jch l c):=fun x hx=>by
 refine h x ?_;have:=(List.dropWhile_sublist _).subset hx;exact List.mem_reverse.1 ((List.dropWhile_sublist _).subset (List.mem_reverse.1 this))
theorem jib{p:Int→Bool}:∀{l:J},(∀c∈l,p c=true)→l.dropWhile p=[]
 | [],_=>rfl
 | c::l,h=>by rw[List.dropWhile_cons_of_pos (h c (List.mem_cons_self ..))];exact jib fun d hd=>h d (List.mem_cons_of_mem _ hd)
theorem jfu{p:Int→Bool}{l:J}{c:Int}(hc:c∈l)(hp:p c=false):∃d r,l.dropWhile p=d::r∧p d=false:=by
 induction l with
 | nil=>cases hc
 | cons a l ih=>
  cases ha:p a with
  | false=>exact⟨a,l,by rw[List.dropWhile_cons_of_neg (by simp[ha])],ha⟩
  | true=>
   rw[List.dropWhile_cons_of_pos ha];rcases List.mem_cons.1 hc with rfl | hc
   ·rw[ha]at hp;cases hp
   ·exact ih hc
theorem trim_bits(l:J):decide (jch l (bz ⟨#[48,49]⟩)=[])=jcb l:=by
 have e:bz ⟨#[48,49]⟩=[48,49]:=rfl
 have hh:∀c:Int,hasZ [48,49] c=decide (c=48∨c=49):=fun c=>by
  rw[Bool.eq_iff_iff,jbm,jae];simp
 rw[e,Bool.eq_iff_iff,jae];constructor
 ·intro h;unfold jcb;refine List.all_eq_true.2 fun c hc=> ?_
  cases q:decide (c=48∨c=49)with
  | true=>rfl
  | false=>
   exfalso;rw[←hh]at q;obtain⟨d,r,h1,h2⟩:=jfu (List.mem_reverse.2 hc) q;have hm:d∈(l.reverse.dropWhile (hasZ [48,49])).reverse:=by rw[h1];simp
   obtain⟨d',r',h3,_⟩:=jfu hm h2;unfold jch at h;rw[h3]at h;cases h
 ·intro h;have ha:∀c∈l,hasZ [48,49] c=true:=fun c hc=>by rw[hh];exact List.all_eq_true.1 h c hc
  unfold jch;rw[jib (l:=l.reverse) fun c hc=>ha c (List.mem_reverse.1 hc)];rfl
abbrev onV(x:Option Num):Value:= .tuple ⟨[numV (x.getD num0),.bool x.isSome]⟩
def s24(s:Y):Bool×Value:=(decide (s.size≤9223372036854775807),onV (rdN (bz s)))
theorem fn24:Fn1 Tryz.prog 24 Tryz.f24:= .m Tryz.func24
def ku(a:E)(b:Value):Array Value:=⟨[b9 a,b]⟩
def f0(a:E)(b:Value):Value:= .tuple (ku a b)
def mb(a:Bool)(b:Prod J Int):E:=[.bool a,.string (szO b.fst),.int .i64 b.snd]
def ot(a:Bool)(b:Y)(c:Int):E:=mb (Prod.fst (ja4 a (bz b) c)) (Prod.snd (ja4 a (bz b) c))
def md(a:Y)(c d e:Int)(b:Nat):Bool:=decide (a.size≤b∧c≤d∧d≤e)
def np(d:Bool)(a:Y)(b:Int)(c:Nat)(e:Value)(f:Value→Prop):Prop:=ay (md a (-100000) b 100000 c) (f0 (ot d a b) e) f
def nk(a b e:Bool)(c:Y)(d:Nat)(f:Value)(g:Value→Prop):Prop:=bif a&&b then np e c 0 d f g else False
def l7:Value:= .tuple (ku kr (.bool false))
def sb(b j k l m:Bool)(e i:Y)(a:Cx.Ms)(c d:Int)(g h:Option Blk)(f:Value)(n:Value→Prop):Prop:=(Ms.ok a b c d&&md e 0 d 255 255)=true→MsIs a f g h→RunIs (cl i) (Ms.st Ms.beg) (Rd.mk false false false (bz ao) 0 0) (some (Ms.st a,Rd.mk j k l (bz e) d c))→kp m [f,.bool b] 210 (bif !b then n l7 else bif k then bw (decide (am e>31)) (dp e&&li ⟨#[48,49]⟩ &&true) (decide (am e>31) || !b5 (j4 e ⟨#[48,49]⟩) ao) (n l7) (nk (jcb (bz e)) (decide (e.size≤64)) j (szO (dz (binG (bz e) 0))) 100000 (.bool true) n)else bif l then np j e (cv d (cm 0 c)) 100000 (.bool true) n else np j e (cm d c) 100000 (.bool true) n)
theorem v24(s:Y)(R:Value→Prop):jaz Tryz.prog G9 (oneL 0 S24_0.hA) Tryz.f24 [Enc.enc s] (fun _=>none) 0 (fun v _ _=>R v)=(bif decide (am s>255)then R l7 else kz (S24_0.toLSpec.pre (s,(false,(ao,((0:Int),(false,(false,(false,(false,(ao,((0:Int),((0:Int),(Ms.beg,(true,(am s,(0:Int)))))))))))))))) (RunIs (cl s) (Ms.st Ms.beg) (Rd.mk false false false (bz ao) 0 0) none→Bool→Bool→Bool→Y→jz (Int→Tmps→R (f0 (B false::bk Px.e0 [] (ak 0)) (B false)))) ((∀a:Bool,∀b:Bool,∀c:Bool,∀d:Y,∀e:Int,∀f:Int,∀g:Cx.Ms,∀h:Bool,∀i:Value,sb h a b c true d s g f e none none i R)∧(∀a:Bool,∀b:Bool,∀c:Bool,∀d:Y,∀e:Int,∀f:Int,∀g:Cx.Ms,∀h:Bool,∀i:Value,∀j:Value,∀k:Value,∀l:TypeId,∀m:TypeId,sb h a b c (ja3 210 [j] &&gm [k] 210) d s g f e (some (.mk [j] l true)) (some (.mk [k] m true)) i R))):=by kernel_rfl
theorem ok24:jam Tryz.prog 24 (sp1 s24):=by
 refine jby ok_G9 hmix fn24 l24_0 jag fun s hc=> ?_
 rw[ja0,v24];delta kz kp ay b9 ku f0 mb ot md np cm aw cv av bw nk ak ao cu kr l7 b5 j4 am fy li dp cl sb gm jz bk;have hc:(s.size≤9223372036854775807):=jab hc
 try dsimp only[s24]
 have hN:∀x:Value,x=Value.tuple ⟨[.agg ⟨[.bool false,.string ⟨#[]⟩,.int .i64 0]⟩,.bool false]⟩→rdN (bz s)=none→x=onV (rdN (bz s)):=fun x hx h=>by
  rw[h,hx];show _=Value.tuple ⟨[.agg ⟨[.bool false,.string (szO []),.int .i64 0]⟩,.bool false]⟩;rw[je9]
 apply cond_intro<;>intro h
 ·have h:=jab h;exact hN _ rfl (by rw[rdN,if_pos (by rw[jal];omega)])
 have h:=jac h;have hn:∀neg,ja4 neg [] 0=(false,[],0):=fun neg=>rfl
 have hq:=num_eq (ja4:=ja4) (binD:=binD) hn (bz s)
 have hrd:rdN (bz s)=(((runQ (bz s) .beg {}).bind fun x=>if endP x.1=true then some x.2 else none).bind (finP ja4 binD)):=by
  rw[rdN,if_neg (by rw[jal];omega),←hq,numP,run_Q _ _ _ rfl]
 have hbody:∀(ng bn dn:Bool)(ds:Y)(sc pw:Int)(M:Ms)(e:Bool),(M.ok e pw sc&&decide (ds.size≤255∧0≤sc∧sc≤255))=true→runQ (bz s) .beg {}=some (M.st,⟨ng,bn,dn,bz ds,sc,pw⟩)→
   rdN (bz s)=(if e=true then finP ja4 binD ⟨ng,bn,dn,bz ds,sc,pw⟩else none)∧ds.size≤255∧0≤sc∧sc≤255∧0≤pw∧pw<100:=fun ng bn dn ds sc pw M e hok hr=>by
  simp only[jaf,jae]at hok;obtain⟨hM,h1,h2,h3⟩:=hok
  have he:endP M.st=e∧0≤pw∧pw<100:=by
   cases M with
   | beg=>simp only[Ms.ok,jaf,jae]at hM;rw[hM.1,hM.2];exact⟨rfl,by omega,by omega⟩
   | bod q p=>simp only[Ms.ok,jaf,jae,beq_iff_eq]at hM;rw[hM.1,hM.2];exact⟨rfl,by omega,by omega⟩
   | exq q m=>
    simp only[Ms.ok,jaf,jae,beq_iff_eq]at hM;refine⟨?_,by omega,by omega⟩;rw[hM.1];show decide (0<m.toNat)=decide (0<m);rw[decide_eq_decide];omega
   | beh=>simp only[Ms.ok,jaf,jae]at hM;rw[hM.1];exact⟨rfl,by omega,by omega⟩
  rw[hrd,hr];refine⟨?_,h1,h2,h3,he.2.1,he.2.2⟩;show(if endP M.st=true then some _ else none).bind _=_;rw[he.1];cases e<;>rfl
 refine c_t (by simp only[S24_0,jaf,jae];refine⟨by simp[Ms.ok],?_,?_,?_,?_,?_,?_,?_⟩ <;>first | omega | exact Int.le_refl _ | rfl | (simp;done) | (simp;omega)) ⟨fun hr _ _ _ _ _ _ _ _=> ?_,?_,?_⟩
 ·have hr:runQ (bz s) .beg {}=none:=hr.h;exact hN _ rfl (by rw[hrd,hr];rfl)
 all_goals
  first | intro ng bn dn ds sc pw M e mv x y tx ty hok hms hr | intro ng bn dn ds sc pw M e mv hok hms hr
  have hr:runQ (bz s) .beg {}=some (M.st,⟨ng,bn,dn,bz ds,sc,pw⟩):=hr.h;obtain⟨g1,g2,g3,g4,g5,g6⟩:=hbody ng bn dn ds sc pw M e hok hr
  refine c_t (by
   obtain⟨m1,m2,m3⟩:=hms;subst m1
   cases M<;>first
    | rfl
    | (cases m2;done)
    | (cases m2;cases m3;rfl)) fun _=> ?_
  apply cond_intro<;>intro he
  ·have he:e=false:=by simpa using he
   exact hN _ rfl (by rw[g1,he];rfl)
  have he:e=true:=by simpa using he
  subst he;rw[if_pos rfl]at g1;apply cond_intro<;>intro hb
  ·subst hb;rw[finP,if_pos rfl]at g1
   have hT:((szO (jch (bz ds) (bz ⟨#[48,49]⟩))).toList==(⟨#[]⟩:Y).toList)=jcb (bz ds):=by
    rw[jcd,jcp (trim_isB (jdq ds))];exact trim_bits (bz ds)
   rw[hT];refine c_t (by rw[jaa (show ds.size≤9223372036854775807 by omega)];exact(congrArg (decide ((ds.size:Int)>31) || ·) (show(true&& (decide ((⟨#[48,49]⟩:Y).size≤1000) &&asc (bz ⟨#[48,49]⟩)) &&true)=true by kernel_rfl)).trans (Bool.or_true _)) ?_;apply cond_intro<;>intro h
   ·refine hN _ rfl (g1.trans (if_neg fun q=> ?_));simp only[Bool.or_eq_true,jae,Bool.not_eq_true']at h;rw[jal]at q;rcases h with h | h
    ·omega
    ·rw[q.2]at h;cases h
   ·simp only[Bool.or_eq_false_iff,decide_eq_false_iff_not,Bool.not_eq_false']at h;have hl:(bz ds).length≤31:=by rw[jal];omega
    rw[if_pos ⟨hl,h.2⟩]at g1;have hb64:=jiv h.2 (by omega);have hd:=jis 20 (binG (bz ds) 0) hb64.1 (Int.lt_of_lt_of_le hb64.2 (by decide));refine c_t (by rw[h.2,jaa (show ds.size≤64 by omega)];rfl) (c_t (jaa ⟨by rw[jci];omega,by omega,by omega⟩) ?_);rw[jcp (dz_isB _),ji8,g1];rfl
  ·subst hb;rw[finP,if_neg (fun h=>by cases h)]at g1;cases dn with
   | true=>
    rw[w64 (n:=0-pw) (by omega),w64 (n:=sc-(0-pw)) (by omega)];refine c_t rfl (c_t (jaa (by omega)) ?_);rw[g1,show sc-(0-pw)=sc - -pw by omega];rfl
   | false=>
    rw[w64 (n:=sc-pw) (by omega)];refine c_f rfl (c_t (jaa (by omega)) ?_);rw[g1];rfl
def K0:Env:=Env.nil
theorem ok_K0:jaw Tryz.prog K0:=jap
def s191:Bool×Value:=(true,.agg ⟨Fx.tensL⟩)
theorem fn191:Fn1 Tryz.prog 191 Tryz.f191:= .m Tryz.func191
theorem v191(R:Value→Prop):jaz Tryz.prog K0 noL Tryz.f191 [] (fun _=>none) 0 (fun v _ _=>R v)=(R (.agg ⟨Fx.tensL⟩)):=by kernel_rfl
theorem ok191:jam Tryz.prog 191 (sp0 s191):=by
 refine qure0 ok_K0 hmix fn191 jak fun hc=> ?_
 rw[ja0,v191]
 try dsimp only[s191]
def K1:Env:=Env.nil.add 191 (sp0 s191)
theorem ok_K1:jaw Tryz.prog K1:=jai jap ok191
def s144(t:Ty):Bool×Value:=(decide (ja9 t),I (bnd t))
theorem fn144:Fn1 Tryz.prog 144 Tryz.f144:= .m Tryz.func144
theorem v144(t:Ty)(R:Value→Prop):jaz Tryz.prog K1 noL Tryz.f144 [Enc.enc t] (fun _=>none) 0 (fun v _ _=>R v)=(bif b4 t 1 then ay (b6 (Fx.Ty.p t) 19&&jb1 .i64 Fx.tensL (Fx.Ty.p t).toNat) (I (jau Fx.tensL (Fx.Ty.p t).toNat)) R else ay (decide (0≤Fx.Ty.p t)) (ep (1*2^Min.min (Fx.Ty.p t).toNat 64)) R):=by kernel_rfl
theorem ok144:jam Tryz.prog 144 (sp1 s144):=by
 refine jby ok_K1 hmix fn144 jak jag fun t hc=> ?_
 rw[ja0,v144];delta ay aw ep b6 b4;have hc:(ja9 t):=jab hc
 try dsimp only[s144]
 obtain⟨h1,h2,h3,h4,h5⟩:=Fx.valid_r hc;have hm:t.k=1→t.p≤9:=fun h=>by have:=hc.2.2.1;rw[h]at this;exact this
 apply cond_intro<;>intro h
 ·have h:t.k=1:=eq_of_beq h;have ht:=Fx.tens_at (p:=t.p) (by omega) (by have:=hm h;omega);refine c_t (by rw[ht.1,jaa (show 0≤t.p∧t.p<19 by have:=hm h;omega)];rfl) ?_;rw[ht.2,bnd,h];rfl
 ·have h:t.k=2:=hc.1.resolve_left (by simpa using h);refine c_t (jaa (by omega)) ?_;rw[Fx.shl_pw (by omega) (by omega),bnd,h];rfl
def K2:Env:=((Env.nil.add 55 (sp2 s55)).add 66 (sp1 s66)).add 144 (sp1 s144)
theorem ok_K2:jaw Tryz.prog K2:=jai (jai (jai jap ok55) ok66) ok144
def s70(v:Vl)(t:Ty):Bool×Value:=(true,I (Fx.fits v t))
theorem fn70:Fn1 Tryz.prog 70 Tryz.f70:= .m Tryz.func70
theorem v70(v:Vl)(t:Ty)(R:Value→Prop):jaz Tryz.prog K2 noL Tryz.f70 [Enc.enc v,Enc.enc t] (fun _=>none) 0 (fun v _ _=>R v)=(bif Fx.check t !=0 then R (I (Fx.check t))else bif decide (Fx.ja9 t)then fq (!b5 (Fx.Vl.s v) ao || (decide (Fx.Vl.n v≤cv 0 (Fx.bnd t)) || true)) (!b5 (Fx.Vl.s v) ao || (decide (Fx.Vl.n v≤cv 0 (Fx.bnd t)) || decide (Fx.Vl.n v≥Fx.bnd t))) (ak 6) (ak 0) R else False):=by kernel_rfl
theorem ok70:jam Tryz.prog 70 (sp2 s70):=by
 refine jcj ok_K2 hmix fn70 jak jag fun v t hc=> ?_
 rw[ja0,v70];delta dx fq ak aw cv b5 ao
 try dsimp only[s70]
 rw[str0];by_cases hv:ja9 t
 ·obtain⟨h1,h2,h3,h4⟩:=Fx.valid_r hv;have hb:=Fx.bnd_range hv;have hc:check t=0:=if_pos hv;rw[hc,w64 (n:=0-bnd t) (by omega)];refine c_f rfl (c_t (jaa hv) (c_t (by simp) ?_));unfold Fx.fits;rw[if_pos hv];apply cond_intro<;>intro h
  ·rw[if_neg];intro hf;unfold Fit at hf;simp[hf.1]at h;omega
  ·rw[if_pos];unfold Fit;simp at h;grind
 ·have hc:check t=5:=if_neg hv;rw[hc];refine c_t rfl ?_;unfold Fx.fits;rw[if_neg hv]
def s71(s:Y):Bool×Value:=(decide (s.size≤9223372036854775807),B (jcb (bz s)))
theorem fn71:Fn1 Tryz.prog 71 Tryz.f71:= .m Tryz.func71
theorem v71(s:Y)(R:Value→Prop):jaz Tryz.prog K2 noL Tryz.f71 [Enc.enc s] (fun _=>none) 0 (fun v _ _=>R v)=(ay (dp s&&li ⟨#[48,49]⟩) (B (b5 (j4 s ⟨#[48,49]⟩) ao)) R):=by kernel_rfl
theorem ok71:jam Tryz.prog 71 (sp1 s71):=by
 refine jby ok_K2 hmix fn71 jak jag fun s hc=> ?_
 rw[ja0,v71];delta ay b5 ao j4 fy li dp;have hc:(s.size≤9223372036854775807):=jab hc
 try dsimp only[s71]
 refine c_t (by rw[jaa hc,Bool.true_and];kernel_rfl) ?_;rw[jcd,jcp (trim_isB (jdq s)),trim_bits]
theorem fn20:Fn1 Tryz.prog 20 Tryz.f20:= .m Tryz.func20
theorem fn22:Fn1 Tryz.prog 22 Tryz.f22:= .m Tryz.func22
def tkGo(b:Int):J→Int→Int→Int×Int
 | [],x,k=>(x,k)
 | d::r,x,k=>if b≤10*x+(d-48)then tkGo b r ((10*x+(d-48)).tmod b) 1 else tkGo b r (10*x+(d-48)) k
def jd4(g:Bool)(l:J)(c:Int):Bool:=if l=[]then !g&&decide (c=0)else decide (l.length≤400) && (jbu l&& (!(l.head?==some 48) && (!(l.getLast?==some 48) &&decide (-400≤c∧c≤400))))
def tkR(g:Bool)(l:J)(c:Int)(b q:Int):Int×Int:=(if g=true then -(tkGo b (plcR l c q) 0 0).1 else(tkGo b (plcR l c q) 0 0).1,(tkGo b (plcR l c q) 0 0).2)
def tkV(g:Bool)(l:J)(c:Int)(t:Ty):Int×Int×Int:=if jd4 g l c=false then(0,0,1)else if¬ja9 t then(0,0,5)else((tkR g l c (bnd t) t.q).1,(tkR g l c (bnd t) t.q).2,0)
abbrev vlv(n:Int):Value:= .agg ⟨[.int .i64 n,.string ⟨#[]⟩]⟩
def hideI(sp:Ab.Spec):E→Lk→Nat→(Value→Lk→Nat→Prop)→Prop:=fun args m n K=>match sp args (args.map (blkOf m))with
 | some (c,.int k e)=>match cnd c with
  | true=>∀x:Int,e=x→K (.int k x) m n
  | false=>False
 | _=>False
def hideS(sp:Ab.Spec):E→Lk→Nat→(Value→Lk→Nat→Prop)→Prop:=fun args m n K=>match sp args (args.map (blkOf m))with
 | some (c,.string e)=>match cnd c with
  | true=>∀s':Y,e=s'→K (.string s') m n
  | false=>False
 | _=>False
theorem jcu{P:Program}{f:FuncId}{sp:Ab.Spec}(h:jam P f sp):jcz P f (hideS sp):=by
 obtain⟨hc,hp⟩:=h;refine⟨hc,fun args m n K hh N w0 ι w hrel hwf hargs=> ?_⟩;unfold hideS at hh;split at hh
 case h_2=>exact hh.elim
 rename_i c e hs;split at hh
 case h_2=>exact hh.elim
 rename_i hcc;have hcc:c=true:=hcc;subst hcc;refine(hp args (.string e) N w0 m ι w hrel hs rfl).mono fun e' w' ⟨h1,h2⟩=> ?_
 exact⟨.string e,m,n,ι,by rw[h1];rfl,hh e rfl,Nat.le_refl _,fun _ _=>rfl,hrel.grow h2,hwf,by simp[ids]⟩
theorem gen_hideI{P:Program}{f:FuncId}{sp:Ab.Spec}(h:jam P f sp):jcz P f (hideI sp):=by
 obtain⟨hc,hp⟩:=h;refine⟨hc,fun args m n K hh N w0 ι w hrel hwf hargs=> ?_⟩;unfold hideI at hh;split at hh
 case h_2=>exact hh.elim
 rename_i c k e hs;split at hh
 case h_2=>exact hh.elim
 rename_i hcc;have hcc:c=true:=hcc;subst hcc;refine(hp args (.int k e) N w0 m ι w hrel hs rfl).mono fun e' w' ⟨h1,h2⟩=> ?_
 exact⟨.int k e,m,n,ι,by rw[h1];rfl,hh e rfl,Nat.le_refl _,fun _ _=>rfl,hrel.grow h2,hwf,by simp[ids]⟩
def G5h:Env:=(((Env.nil.add 135 (sp1 s135)).add 80 (sp3 s80)).add 157 (sp1 s157)).addG 156 (hideI (sp2 s156))
theorem ok_G5h:jaw Tryz.prog G5h:=jao (jai (jai (jai jap ok135) ok80) ok157) (gen_hideI ok156)
theorem jg0(c:Int):∀l:J,l.take (Cv.ahead c l).length=Cv.ahead c l
 | []=>rfl
 | a::l=>by
  by_cases h:a=c
  ·have:Cv.ahead c (a::l)=[]:=by simp[Cv.ahead,h]
   rw[this];rfl
  ·rw[jdj l h,List.length_cons,List.take_succ_cons,jg0 c l]
theorem jdw(c:Int):∀l:J,past c l=if(Cv.ahead c l).length<l.length then some (l.drop ((Cv.ahead c l).length+1))else none
 | []=>rfl
 | a::l=>by
  by_cases h:a=c
  ·have e:Cv.ahead c (a::l)=[]:=by simp[Cv.ahead,h]
   rw[e];simp[past,h]
  ·have e:past c (a::l)=past c l:=by simp[past,h]
   rw[e,jdw c l,jdj l h];simp
theorem jfz(c:Int)(l:J):(Cv.ahead c l).length≤l.length:=(List.takeWhile_sublist _).length_le
def decB(g:Bool)(x:J)(e:Int):Option Num:=if Cv.ahead 46 x++(past 46 x).getD []≠ []∧jbu (Cv.ahead 46 x)=true∧jbu ((past 46 x).getD [])=true then some (ja4 g (Cv.ahead 46 x++(past 46 x).getD []) (((past 46 x).getD []).length-e))else none
def decE(l:J):Option Int:=match past 69 l with
 | none=>some 0
 | some x=>expZ x
theorem jkt(g:Bool)(l:J):decR ja4 g l=(decE l).bind (decB g (Cv.ahead 69 l)):=by
 unfold decR decE;cases past 69 l with
 | none=>rfl
 | some x=>cases hx:expZ x<;>(simp only[hx];rfl)
def s83(g:Bool)(s:Y):Bool×Value:=(decide (s.size≤1000),onV (decR ja4 g (bz s)))
theorem fn83:Fn1 Tryz.prog 83 Tryz.f83:= .m Tryz.func83
theorem onV_none:onV none=Value.tuple ⟨[.agg ⟨[.bool false,.string ⟨#[]⟩,.int .i64 0]⟩,.bool false]⟩:=by
 show Value.tuple ⟨[.agg ⟨[.bool false,.string (szO []),.int .i64 0]⟩,.bool false]⟩=_;rw[je9]
def lm(a:Y)(b:Int):Y:=a.extract 0 b.toNat
def su(d h:Bool)(a c:Y)(b f g:Int)(e:Value→Prop):Prop:=bif ew (lm a b) c&& (b5 (lm a b++c) ao || dp (lm a b) && (!jbu (bz (lm a b)) || d))then bif b5 (lm a b++c) ao || (!jbu (bz (lm a b)) || !jbu (bz c))then e l7 else bif ew (lm a b) c then np h (lm a b++c) (cm f g) 1000 (.bool true) e else False else False
def k83(g:Bool)(s1:Y)(e:Int)(R:Value→Prop):Prop:=bif dp s1 then∀a:Int,((Cv.ahead 46 (bz s1)).length:Int)=a→(bif d5 0 0 a a (am s1)then bif dw s1 a then bif d5 0 (au a) (am s1) (am s1) (am s1)then su (dp (jl s1 (au a)) &&true) g s1 (jl s1 (au a)) a (cw (jl s1 (au a))) e R else False else su true g s1 ao a 0 e R else False)else False
theorem expZ_rng{s:Y}{e:Int}(h:expZ (bz s)=some e): -99≤e∧e≤99:=by
 rcases Nat.eq_zero_or_pos s.size with q | q
 ·rw[jg7 q]at h;cases h
 ·rw[jed q,jgj,←jed q]at h;split at h
  ·cases hd:expD (bz (s.extract 1 s.size))with
   | none=>rw[hd]at h;cases h
   | some x=>
    rw[hd]at h;have:=jgi hd;have h: -x=e:=Option.some.inj h;omega
  ·split at h
   ·have:=jgi h;omega
   ·have:=jgi h;omega
theorem jhl{s:Y}(n:Nat):bz (s.extract n s.size)=(bz s).drop n:=by
 rw[jb7];rw[List.take_of_length_le (by rw[jal];omega)]
theorem q83(g:Bool)(w p:Y)(e:Int)(hs:w.size+p.size≤1000)(he: -99≤e∧e≤99)(X:Option Num)(hX:X=if bz w++bz p≠ []∧jbu (bz w)=true∧jbu (bz p)=true then some (ja4 g (bz w++bz p) ((bz p).length-e))else none):
  bif ByteArray.toList (w++p)==ByteArray.toList (ByteArray.mk #[]) || (!jbu (bz w) || !jbu (bz p))then(Value.tuple ⟨[.agg ⟨[.bool false,.string ⟨#[]⟩,.int .i64 0]⟩,.bool false]⟩=onV X)
  else bif jbi (w.size+p.size)then
   bif decide ((w++p).size≤1000∧ -100000≤IntKind.wrap .i64 ((p.size:Int)-e)∧IntKind.wrap .i64 ((p.size:Int)-e)≤100000)then(Value.tuple ⟨[numV (ja4 g (bz (w++p)) (IntKind.wrap .i64 ((p.size:Int)-e))),.bool true]⟩=onV X)
   else False
  else False:=by
 rw[w64 (n:=(p.size:Int)-e) (by omega),jcd,jbr];apply cond_intro<;>intro h
 ·rw[hX,if_neg,onV_none];rintro ⟨h1,h2,h3⟩;rw[h2,h3,jad h1]at h;cases h
 ·simp only[Bool.or_eq_false_iff,decide_eq_false_iff_not,Bool.not_eq_false']at h;refine c_t (by simp only[jbi,Nat.ble_eq];omega) (c_t (jaa ⟨by rw[ByteArray.size_append];omega,by omega,by omega⟩) ?_);rw[hX,if_pos ⟨h.1,h.2.1,h.2.2⟩,jal];rfl
theorem k83_ok(g:Bool)(s1:Y)(e:Int)(hs:s1.size≤1000)(he: -99≤e∧e≤99):k83 g s1 e (fun v=>v=onV (decB g (bz s1) e)):=by
 unfold k83;delta ay b9 ku f0 mb ot md np cm lm ew ak ao cu kr l7 b5 dp su cw jl au d5 am dw;refine c_t (jaa (by omega)) fun j hj=> ?_
 have hl:=jfz 46 (bz s1);rw[jal]at hl;have e3:bz (s1.extract 0 j.toNat)=Cv.ahead 46 (bz s1):=by rw[jdo,show j.toNat=(Cv.ahead 46 (bz s1)).length by omega,jg0]
 have z3:(s1.extract 0 j.toNat).size=j.toNat:=by rw[jcn];omega
 refine c_t (jaa (by omega)) (cond_intro (fun h=> ?_) (fun h=> ?_))
 ·have h:=jab h;rw[w64 (n:=j+1) (by omega)]
  have e4:bz (s1.extract (j+1).toNat s1.size)=(past 46 (bz s1)).getD []:=by
   rw[jhl,jdw,if_pos (by rw[jal];omega),show(j+1).toNat=(Cv.ahead 46 (bz s1)).length+1 by omega];rfl
  have z4:(s1.extract (j+1).toNat s1.size).size=s1.size-(j+1).toNat:=by rw[jcn];omega
  generalize s1.extract 0 j.toNat=w at*;generalize s1.extract (j+1).toNat s1.size=p at*
  refine c_t (jaa (by omega)) (c_t (by
   rw[jaa (show w.size≤9223372036854775807 by omega),jaa (show p.size≤9223372036854775807 by omega),show jbi (w.size+p.size)=true by simp only[jbi,Nat.ble_eq];omega];simp) (q83 g w p e (by omega) he _ ?_))
  rw[decB,e3,e4]
 ·have h:=jac h
  have e4:(past 46 (bz s1)).getD []=bz ⟨#[]⟩:=by
   rw[jdw,if_neg (by rw[jal];omega)];rfl
  generalize s1.extract 0 j.toNat=w at*
  refine c_t (by
   rw[jaa (show w.size≤9223372036854775807 by omega),show jbi (w.size+(⟨#[]⟩:Y).size)=true by simp only[jbi,Nat.ble_eq];show w.size+0≤_;omega];simp) (q83 g w ⟨#[]⟩ e (by show w.size+0≤_;omega) he _ ?_)
  rw[decB,e3,e4]
def k8(b:Bool)(a:Y)(c d:Prop):Prop:=bif dp a then av b c d else False
theorem v83(g:Bool)(s:Y)(R:Value→Prop):jaz Tryz.prog G5h noL Tryz.f83 [Enc.enc g,Enc.enc s] (fun _=>none) 0 (fun v _ _=>R v)=(bif dp s then∀a:Int,((Cv.ahead 69 (bz s)).length:Int)=a→(bif dw s a then bif d5 0 (au a) (am s) (am s) (am s)then k8 (!(expZ (bz (jl s (au a)))).isSome) (jl s (au a)) (R l7) (bif d5 0 0 a a (am s)then k83 g (s.extract 0 a.toNat) ((expZ (bz (jl s (au a)))).getD (0:Int)) R else False)else False else bif d5 0 0 a a (am s)then k83 g (s.extract 0 a.toNat) 0 R else False)else False):=by kernel_rfl
theorem ok83:jam Tryz.prog 83 (sp2 s83):=by
 refine jcj ok_G5h hmix fn83 jak jag fun g s hc=> ?_
 rw[ja0,v83];delta d5 am av dp k8 jl au b9 ku ak ao cu kr l7 dw;have hc:(s.size≤1000):=jab hc
 try dsimp only[s83]
 refine c_t (jaa (by omega)) fun k hk=> ?_
 have hkl:=jfz 69 (bz s);rw[jal]at hkl;have e1:bz (s.extract 0 k.toNat)=Cv.ahead 69 (bz s):=by rw[jdo,show k.toNat=(Cv.ahead 69 (bz s)).length by omega,jg0]
 have z1:(s.extract 0 k.toNat).size=k.toNat:=by rw[jcn];omega
 rw[jkt,←e1];generalize s.extract 0 k.toNat=s1 at*;apply cond_intro<;>intro h
 ·have h:=jab h;rw[w64 (n:=k+1) (by omega)]
  have hd:decE (bz s)=expZ (bz (s.extract (k+1).toNat s.size)):=by
   rw[decE,jdw,if_pos (by rw[jal];omega),jhl,show(k+1).toNat=(Cv.ahead 69 (bz s)).length+1 by omega]
  have z2:(s.extract (k+1).toNat s.size).size=s.size-(k+1).toNat:=by rw[jcn];omega
  generalize s.extract (k+1).toNat s.size=s2 at*;refine c_t (jaa (by omega)) (c_t (jaa (by omega)) ?_);rw[hd];cases hE:expZ (bz s2)with
  | none=>exact c_t rfl onV_none.symm
  | some e=>exact c_f rfl (c_t (jaa (by omega)) (k83_ok g s1 e (by omega) (expZ_rng hE)))
 ·have h:=jac h;have hd:decE (bz s)=some 0:=by rw[decE,jdw,if_neg (by rw[jal];omega)]
  rw[hd];exact c_t (jaa (by omega)) (k83_ok g s1 0 (by omega) (by omega))
structure DecIs (g:Bool)(s:Y)(x:Option Num):Prop where
 h:decR ja4 g (bz s)=x
def hid83:E→Lk→Nat→(Value→Lk→Nat→Prop)→Prop:=fun args m n K=>match args with
 | [.bool g,.string s]=>match cnd (decide (s.size≤1000))with
  | true=>∀x:Option Num,DecIs g s x→K (onV x) m n
  | false=>False
 | _=>False
theorem gen_hid83:jcz Tryz.prog 83 hid83:=by
 obtain⟨hc,hp⟩:=ok83;refine⟨hc,fun args m n K hh N w0 ι w hrel hwf hargs=> ?_⟩;unfold hid83 at hh;split at hh
 case h_2=>exact hh.elim
 rename_i g s;split at hh
 case h_2=>exact hh.elim
 rename_i hcc;have hs:(sp2 s83) [.bool g,.string s] ([Value.bool g,Value.string s].map (blkOf m))=some (true,onV (decR ja4 g (bz s))):=congrArg some (Prod.ext (show(s83 g s).1=true from hcc) rfl);refine(hp [.bool g,.string s] _ N w0 m ι w hrel hs rfl).mono fun e' w' ⟨h1,h2⟩=> ?_
 exact⟨_,m,n,ι,by rw[h1];rfl,hh _ ⟨rfl⟩,Nat.le_refl _,fun _ _=>rfl,hrel.grow h2,hwf,by simp[ids,idsL]⟩
def G6:Env:=(((((Env.nil.add 74 (sp1 s74)).add 80 (sp3 s80)).addG 79 (hideS (sp1 s79))).addG 81 (hideS (sp2 s87))).add 82 (sp1 s82)).addG 83 hid83
theorem ok_G6:jaw Tryz.prog G6:=jao (jai (jao (jao (jai (jai jap ok74) ok80) (jcu ok79)) (jcu ok87)) ok82) gen_hid83
def s25(s:Y):Bool×Value:=(decide (s.size≤9223372036854775807),onV (rdN (bz s)))
theorem fn25:Fn1 Tryz.prog 25 Tryz.f25:= .m Tryz.func25
def po(a:Option Cv.Num):Array Value:=ku (mb (a.getD num0).fst (a.getD num0).snd) (.bool a.isSome)
def nj(d:Bool)(a:Y)(b:Int)(c:Nat)(e:Value)(f:Value→Prop):Prop:=ay (md a (-100000) b 100000 c) (f0 (ot d a b) e) f
def k25(g:Bool)(t:Y)(R:Value→Prop):Prop:=jy (decide (gq t 1≥1)) (b6 (gq t 1) (am t) &&true) true (decide (gq t 1≥1) &&jaj t (gq t 1).toNat==66) (bw (decide (gq t 1>31)) (ky t 1&& (dp (ib t 1) &&true)) (decide (gq t 1>31) || !jcb (bz (ib t 1))) (R l7) (bif ky t 1 then ig (jcb (bz (ib t 1))) (decide ((ib t 1).size≤64)) (b6 (binG (bz (ib t 1)) 0) 18446744073709551616&&true) (∀a:Y,sz (decZ (binG (bz (ib t 1)) 0))=a→nj g a 0 1000 (B true) R) False else False)) (bif fy t then∀a:Option Cv.Num,DecIs g t a→R (.tuple (po a))else False)
theorem u8_isB(l:Yb):IsB (zl l):=fun c hc=>by
 obtain⟨b,_,rfl⟩:=List.mem_map.1 hc;have:=b.toNat_lt;omega
theorem bin_31{l:J}(hb:jcb l=true)(h:l.length≤31):0≤binG l 0∧binG l 0<2147483648:=by
 obtain⟨h1,h2⟩:=bin_lt l 0 hb (by omega);refine⟨h1,Int.lt_of_lt_of_le h2 ?_⟩;have:(2:Nat) ^l.length≤2^31:=Nat.pow_le_pow_right (by omega) h;have h':((2^l.length:Nat):Int)≤((2^31:Nat):Int):=Int.ofNat_le.2 this;simp at h';omega
theorem jgl:∀(k n:Nat),n<10^ (k+1)→(Lib.decDigits n).length≤k+1
 | 0,n,h=>by rw[Lib.decDigits,dif_pos (by omega)];simp
 | k+1,n,h=>by
  rw[Lib.decDigits];split
  ·simp
  ·rw[List.length_append];have:=jgl k (n/10) (by rw[Nat.pow_succ]at h;omega);simp;omega
theorem k25_ok(g:Bool)(t:Y)(ht:t.size≤255):k25 g t (fun v=>v=onV (bodR ja4 binD g (bz t))):=by
 unfold k25;delta av br jy b9 ku mb po fy bw ig ay f0 ot md nj aw am gq ib b6 d5 ky ak ao cu kr l7 dp;rw[w64 (n:=(t.size:Int)-1) (by omega)]
 have hdec:bodR ja4 binD g (bz t)=decR ja4 g (bz t)→bif decide (t.size≤1000)then∀(x:Option Num),DecIs g t x→(fun v=>v=onV (bodR ja4 binD g (bz t))) (onV x)else False:=fun hB=>by
  refine c_t (jaa (by omega)) fun x hx=> ?_
  rw[hB,hx.h]
 by_cases h2:2≤t.size
 ·have hb:=jgz (s:=t) (n:=(t.size:Int)-1) (by omega) (by omega);generalize hn:((t.size:Int)-1).toNat=n at*;have hl:(bz t).getLast?=some (jaj t n):=by rw[hb];simp
  have hd:(bz t).dropLast=bz (t.extract 0 n):=by
   have:=congrArg List.dropLast hb;simpa using this
  have hz:(t.extract 0 n).size=n:=by rw[jcn];omega
  refine c_t (by rw[jaa (show(t.size:Int)-1≥1 by omega)];simp;omega) (cond_intro (fun h=> ?_) (fun h=> ?_))
  ·have h66:jaj t n=66:=by simp at h;exact h.2
   have hB:bodR ja4 binD g (bz t)=if t.size-1≤31∧jcb (bz (t.extract 0 n))=true then some (ja4 g (binD (bz (t.extract 0 n))) 0)else none:=by
    rw[bodR,if_pos ⟨by rw[jal];exact h2,by rw[hl,h66]⟩,hd,jal]
   generalize t.extract 0 n=u at*
   refine c_t (by
    rw[jaa (show(0:Int)≤0∧0≤(t.size:Int)-1∧(t.size:Int)-1≤(t.size:Int)by omega),jaa (show u.size≤9223372036854775807 by omega)];simp) (cond_intro (fun q=> ?_) (fun q=> ?_))
   ·rw[hB,if_neg,onV_none];rintro ⟨q1,q2⟩;rw[q2]at q;simp at q;omega
   ·simp only[Bool.or_eq_false_iff,decide_eq_false_iff_not,Bool.not_eq_false']at q;obtain⟨q1,q2⟩:=q;have hr:=bin_31 q2 (by rw[jal];omega)
    have hsz:(sz (decZ (binG (bz u) 0))).size≤10:=by
     rw[jcf,decZ,zl,List.length_map];exact jgl 9 _ (by omega)
    refine c_t (jaa (by omega)) (c_t (by rw[q2,jaa (show u.size≤64 by omega)];rfl) (c_t (by rw[jaa (show 0≤binG (bz u) 0∧binG (bz u) 0<18446744073709551616 by omega)];rfl) fun v hv=> ?_));subst hv;refine c_t (jaa ⟨by omega,by omega,by omega⟩) ?_;rw[jcy (l:=decZ (binG (bz u) 0)) (u8_isB _),hB,if_pos ⟨by omega,q2⟩];rfl
  ·refine hdec ?_;rw[bodR,if_neg];rintro ⟨_,q⟩;rw[hl]at q;have q:=Option.some.inj q;rw[q,jaa (show(t.size:Int)-1≥1 by omega)]at h;cases h
 ·have hf:decide ((t.size:Int)-1≥1)=false:=jad (by omega);rw[hf];refine c_t rfl (c_f rfl (hdec ?_));rw[bodR,if_neg];rintro ⟨q,_⟩;rw[jal]at q;omega
theorem v25(s:Y)(R:Value→Prop):jaz Tryz.prog G6 noL Tryz.f25 [Enc.enc s] (fun _=>none) 0 (fun v _ _=>R v)=(bif decide ((s.size:Int)>255)then R (.tuple (.mk [.agg (.mk [B false,S (ByteArray.mk #[]),I 0]),B false]))else bif decide (s.size≤9223372036854775807)then∀(s':Y),szO (trZ (tlZ (bz s) 32) 32)=s'→bif s'.toList==(ByteArray.mk #[]).toList then R (.tuple (.mk [.agg (.mk [B false,S (ByteArray.mk #[]),I 0]),B true]))else bif decide ((0:Int)≤0∧0<(s'.size:Int))then bif jaj s' (Int.toNat 0)==45 || decide ((0:Int)≤0∧0<(s'.size:Int)) &&true then bif jaj s' (Int.toNat 0)==45 || jaj s' (Int.toNat 0)==43 then bif decide ((0:Int)≤1∧1≤(s'.size:Int)∧(s'.size:Int)≤(s'.size:Int))then k25 (jaj s' (Int.toNat 0)==45) (ByteArray.extract s' (Int.toNat 1) s'.size) R else False else k25 (jaj s' (Int.toNat 0)==45) s' R else False else False else False):=by kernel_rfl
theorem ok25:jam Tryz.prog 25 (sp1 s25):=by
 refine jby ok_G6 hmix fn25 jak jag fun s hc=> ?_
 rw[ja0,v25];have hc:(s.size≤9223372036854775807):=jab hc
 try dsimp only[s25]
 apply cond_intro<;>intro h
 ·have h:=jab h;rw[rdN,if_pos (by rw[jal];omega),onV_none]
 have h:=jac h;refine c_t (jaa hc) fun t et=> ?_
 have hr:rdN (bz s)=sgnR ja4 binD (bz t):=by
  rw[rdN,if_neg (by rw[jal];omega),numR,←et,trL_eq,trR_eq,jcp (isB_tr (isB_tl (jdq s) 32) 32)]
 have ht:t.size≤255:=by
  rw[←et,jci];have:=jjv (tlZ (bz s) 32) 32;have:=jg3 (bz s) 32;rw[jal]at this;omega
 rw[hr,jcd];apply cond_intro<;>intro h0
 ·have h0:=jab h0;rw[h0];show _=Value.tuple ⟨[.agg ⟨[.bool false,.string (szO []),.int .i64 0]⟩,.bool true]⟩;rw[je9]
 have h0:0<t.size:=by
  have:=jac h0;rcases Nat.eq_zero_or_pos t.size with q | q
  ·exact absurd (jg7 q) this
  ·exact q
 have hh:=jed h0;have hz:Int.toNat 0=0:=rfl;have hz1:Int.toNat 1=1:=rfl;rw[hz,hz1];refine c_t (jaa (by omega)) (c_t (by rw[jaa (show(0:Int)≤0∧0<(t.size:Int)by omega)];simp) (cond_intro (fun q=> ?_) (fun q=> ?_)))
 ·refine c_t (jaa (by omega)) ?_
  have e:sgnR ja4 binD (bz t)=bodR ja4 binD (jaj t 0==45) (bz (t.extract 1 t.size)):=by
   rw[hh];simp only[Bool.or_eq_true,beq_iff_eq]at q;rcases q with q | q<;>rw[q] <;>rfl
  rw[e];exact k25_ok _ _ (by rw[jcn];omega)
 ·have q2:¬jaj t 0=45∧ ¬jaj t 0=43:=by simpa using q
  have e:sgnR ja4 binD (bz t)=bodR ja4 binD (jaj t 0==45) (bz t):=by
   rw[show(jaj t 0==45)=false by simpa using q2.1];rw[hh];unfold sgnR;split
   ·rename_i q3;cases q3
   ·rename_i q3;exact absurd (List.cons.inj q3).1 q2.1
   ·rename_i q3;exact absurd (List.cons.inj q3).1 q2.2
   ·rfl
  rw[e];exact k25_ok _ _ ht
theorem ends_of{s:Y}(h:bz s≠ []):0<s.size∧(bz s).head?=some (jaj s 0)∧(bz s).getLast?=some (jaj s (s.size-1)):=by
 have h0:0<s.size:=by
  rcases Nat.eq_zero_or_pos s.size with q | q
  ·exact absurd (jg7 q) h
  ·exact q
 refine⟨h0,by rw[jed h0];rfl,?_⟩;have hb:=jgz (s:=s) (n:=((s.size-1:Nat):Int)) (by omega) (by omega);rw[Int.toNat_natCast]at hb;rw[hb];simp
theorem num_bools(k:Nat)(b:Bool)(x y c:Int):(decide ((k:Int)≤400) && (b&& (x !=48&& (y !=48&& (decide (c≥ -400) &&decide (c≤400))))))=(decide (k≤400) && (b&& (!(some x==some (48:Int)) && (!(some y==some (48:Int)) &&decide (-400≤c∧c≤400))))):=by
 have e1:decide ((k:Int)≤400)=decide (k≤400):=by rw[decide_eq_decide];omega
 have e2:(decide (c≥ -400) &&decide (c≤400))=decide (-400≤c∧c≤400):=by rw[Bool.eq_iff_iff];simp
 rw[e1,e2];rfl
theorem trim_digs(l:J):decide (jch l (bz ⟨#[48,49,50,51,52,53,54,55,56,57]⟩)=[])=jbu l:=by
 have e:bz ⟨#[48,49,50,51,52,53,54,55,56,57]⟩=[48,49,50,51,52,53,54,55,56,57]:=rfl
 have hh:∀c:Int,hasZ [48,49,50,51,52,53,54,55,56,57] c=dig c:=fun c=>by
  unfold dig;rw[Bool.eq_iff_iff,jbm,jae];simp only[List.mem_cons,List.mem_nil_iff,or_false];omega
 rw[e,Bool.eq_iff_iff,jae];constructor
 ·intro h;unfold jbu;refine List.all_eq_true.2 fun c hc=> ?_
  cases q:dig c with
  | true=>rfl
  | false=>
   exfalso;rw[←hh]at q;obtain⟨d,r,h1,h2⟩:=jfu (List.mem_reverse.2 hc) q;have hm:d∈(l.reverse.dropWhile (hasZ [48,49,50,51,52,53,54,55,56,57])).reverse:=by rw[h1];simp
   obtain⟨d',r',h3,_⟩:=jfu hm h2;unfold jch at h;rw[h3]at h;cases h
 ·intro h;have ha:∀c∈l,hasZ [48,49,50,51,52,53,54,55,56,57] c=true:=fun c hc=>by rw[hh];exact List.all_eq_true.1 h c hc
  unfold jch;rw[jib (l:=l.reverse) fun c hc=>ha c (List.mem_reverse.1 hc)];rfl
theorem jd1{g:Bool}{l:J}{c:Int}(h:jd4 g l c=true):l.length≤400∧jbu l=true∧l.head?≠some 48∧(-400≤c∧c≤400)∧(l=[]→c=0):=by
 unfold jd4 at h;split at h
 ·rename_i q;subst q;simp at h;simp[h.2,jbu]
 ·rename_i q;simp only[jaf,jae,Bool.not_eq_true',beq_eq_false_iff_ne]at h;exact⟨h.1,h.2.1,h.2.2.1,h.2.2.2.2,fun z=>absurd z q⟩
theorem jhf{l:J}(h:jbu l=true):IsB l:=fun c hc=>by
 have:=List.all_eq_true.1 h c hc;unfold dig at this;have:=jab this;omega
theorem jea{l:J}{c q:Int}(h:jbu l=true):jbu (plcR l c q)=true:=by
 refine List.all_eq_true.2 fun x hx=> ?_
 have hx:=List.mem_of_mem_take hx;unfold plcZ at hx;split at hx
 ·cases hx
 ·rcases List.mem_append.1 hx with hx | hx
  ·exact List.all_eq_true.1 h x hx
  ·rw[List.eq_of_mem_replicate hx];rfl
theorem plc_len{l:J}{c q:Int}(h:l.length≤400)(hc: -400≤c∧c≤400)(hq:0≤q∧q≤100):(plcR l c q).length≤1500:=by
 rw[plcR,List.length_take]
 have:(plcZ l c q).length≤1500:=by
  unfold plcZ;split
  ·simp
  ·rw[List.length_append,rep48,List.length_replicate];omega
 omega
theorem tm_rng{a b:Int}(h:0≤a)(hb:0<b):0≤a.tmod b∧a.tmod b<b:=by
 rw[Int.tmod_eq_emod_of_nonneg h];exact⟨Int.emod_nonneg _ (by omega),Int.emod_lt_of_pos _ hb⟩
theorem jga{b:Int}(hb:0<b):∀(l:J)(x k:Int),jbu l=true→(0≤x∧x<b)→0≤(tkGo b l x k).1∧(tkGo b l x k).1<b
 | [],x,k,_,h=>h
 | d::r,x,k,hd,h=>by
  simp only[jbu,List.all_cons,jaf]at hd;have h1:=hd.1;unfold dig at h1;have h1:=jab h1;rw[tkGo];split
  ·exact jga hb r _ _ hd.2 (tm_rng (by omega) hb)
  ·exact jga hb r _ _ hd.2 (by omega)
theorem valid_facts{t:Ty}(h:ja9 t):1≤t.p∧t.p≤31∧(1≤bnd t∧bnd t≤2147483648)∧(0≤t.q∧t.q≤100)∧(t.k=1∨t.k=2):=by
 have h1:=Fx.valid_r h;have h2:=Fx.bnd_range h;exact⟨h1.1,h1.2.1,by omega,by omega,h.1⟩
def V158_0:Bool×Y×Int×Int×Y×Y×Int→E:=fun(g,d0,c,q,r,d,i)=> [I q,.pointer (some ⟨0,0,some 0⟩),S r,S d,I i]
def B158_0:Bool×Y×Int×Int×Y×Y×Int→O:=fun(g,d0,c,q,r,d,i)=> [some ⟨[B g,S d0,I c],33,true⟩]
def S158_0:LSpec (Bool×Y×Int×Int×Y×Y×Int) where
 live:=[1,2,4,5,6]
 mid:=[0]
 n:=60
 dec vs bs:=match vs,bs with | [.int .i64 q,.pointer (some ⟨0,0,some 0⟩),.string r,.string d,.int .i64 i],[some ⟨[.bool g,.string d0,.int .i64 c],33,true⟩]=>some (g,d0,c,q,r,d,i) | _,_=>none
 pre:=fun(g,d0,c,q,r,d,i)=>decide (-1000≤i∧i≤1000∧ -1000≤q∧q≤1000∧d.size+(1000-i)≤100000)
 fin:=fun(g,d0,c,q,r,d,i) Z=>∀(d':Y)(i':Int),bz d'=(if bz d=[]then []else bz d++rep48 (q-i).toNat)→Z (.exit 0) [I q,.pointer (some ⟨0,0,some 0⟩),S r,S d',I i'] [some ⟨[B g,S d0,I c],33,true⟩]
theorem r158_0(g:Bool)(d0:Y)(c:Int)(q:Int)(r:Y)(d:Y)(i:Int)(jk:Tmps)(R:Exit→E→O→Prop):(jbp Tryz.prog G6 noL Tryz.f158.ntmps (ja6 Tryz.f158 0) (tl S158_0.live (V158_0 (g,d0,c,q,r,d,i)) jk) (ml S158_0.mid (B158_0 (g,d0,c,q,r,d,i))) S158_0.n fun e t' m' _=>R e (List.map t' S158_0.live) (List.map m' S158_0.mid))=(bw (ct i q) true (ct i q&& !b5 d ao) (bm (ew d d9) R [fx g d0 c] (ak q::aq 0::bk r (bp i) (S (d++d9)))) (R (.exit 0) (ak q::aq 0::bk r [ak i] (S d)) [fx g d0 c])):=by kernel_rfl
theorem l158_0:LOKf Tryz.prog (oneL 0 S158_0.h) Tryz.f158:=by
 refine jbe (h:=S158_0.h) (by kernel_rfl) (ja7 ok_G6 hmix (by kernel_rfl) (ja1 _) S158_0 V158_0 B158_0 (fun(g,d0,c,q,r,d,i)=>(q-i).toNat) ?_ ?_ ?_)
 ·intro vs bs s h;simp only[S158_0]at h;split at h
  all_goals first | (cases h;exact⟨rfl,rfl⟩) | cases h | (split at h<;>first | (rename_i hq;cases h;have hq:=jah hq;subst hq;exact⟨rfl,rfl⟩) | cases h)
 ·exact fun _ _ _ h=>h
 ·intro⟨g,d0,c,q,r,d,i⟩ jk Z hp hf;rw[r158_0];delta av bw ak fx bk aq bm d9 au bu bp ew b5 ao ct;simp only[S158_0]at hp hf;have hp:=jab hp;rw[jcd];refine c_t (Bool.or_true _) (cond_intro (fun h=> ?_) (fun h=> ?_))
  ·simp only[jaf,jae,Bool.not_eq_true',decide_eq_false_iff_not]at h;obtain⟨h1,h2⟩:=h;have z:(d++(⟨#[48]⟩:Y)).size=d.size+1:=by rw[ByteArray.size_append];rfl
   have zz:(⟨#[48]⟩:Y).size=1:=rfl;rw[w64 (n:=i+1) (by omega)];refine c_t (by rw[zz];simp only[jbi,Nat.ble_eq];omega) ⟨(g,d0,c,q,r,d++⟨#[48]⟩,i+1),rfl,rfl,by simp only[S158_0,jae,z];omega,by simp only;omega,fun d' i' e=>hf d' i' ?_⟩;rw[e,jbr,if_neg (fun z=>h2 (List.append_eq_nil_iff.1 z).1),if_neg h2,show(q-i).toNat=(q-(i+1)).toNat+1 by omega,List.append_assoc];rfl
  ·refine hf d i ?_;by_cases h2:bz d=[]
   ·rw[if_pos h2,h2]
   ·rw[if_neg h2]
    have:¬i<q:=by
     intro z;rw[jaa z,jad h2]at h;cases h
    rw[show(q-i).toNat=0 by omega];exact(List.append_nil _).symm
def s158(n:Nu)(q:Int):Bool×Value:=(decide (n.d.size≤1000∧ -400≤n.c∧n.c≤400∧0≤q∧q≤100),S (szO (plcR (bz n.d) n.c q)))
theorem fn158:Fn1 Tryz.prog 158 Tryz.f158:= .m Tryz.func158
def o4(c:Y)(a b:Int)(d:Value→Prop):Prop:=ay (d5 0 0 a a b) (.string c) d
theorem v158(n:Nu)(q:Int)(R:Value→Prop):jaz Tryz.prog G6 (oneL 0 S158_0.h) Tryz.f158 [Enc.enc n,Enc.enc q] (fun _=>none) 0 (fun v _ _=>R v)=(bif S158_0.pre (Nu.g n,(Nu.d n,(Nu.c n,(q,(ao,(Nu.d n,Nu.c n))))))then∀a:Y,Int→bz a=(if bz (Nu.d n)=([]:J)then([]:J)else bz (Nu.d n)++Cv.rep48 (Int.toNat (q-Nu.c n)))→Tmps→o4 (a.extract 0 (jo (am a-imax 0 (imin (am a) (cm (Nu.c n) q))))) (cv (am a) (imax 0 (imin (am a) (cm (Nu.c n) q)))) (am a) R else False):=by kernel_rfl
theorem ok158:jam Tryz.prog 158 (sp2 s158):=by
 refine jcj ok_G6 hmix fn158 l158_0 jag fun n q hc=> ?_
 rw[ja0,v158];delta ay d5 o4 am aw cv cm jo ao;have hc:(n.d.size≤1000∧ -400≤n.c∧n.c≤400∧0≤q∧q≤100):=jab hc
 try dsimp only[s158]
 obtain⟨h1,h2,h3,h4,h5⟩:=hc
 have hpl:(plcZ (bz n.d) n.c q).length≤1500:=by
  unfold plcZ;split
  ·simp
  ·rw[List.length_append,rep48,List.length_replicate,jal];omega
 refine c_t (by simp only[S158_0,jae];omega) fun d' i' e x=> ?_
 have e:bz d'=plcZ (bz n.d) n.c q:=e;have zd:d'.size=(plcZ (bz n.d) n.c q).length:=by rw[←e,jal]
 have hm:imax 0 (imin (d'.size:Int) (n.c-q))=max 0 (min (d'.size:Int) (n.c-q)):=by unfold imax imin;split<;>split<;>omega
 rw[w64 (n:=n.c-q) (by omega),hm,w64 (n:=(d'.size:Int)-max 0 (min (d'.size:Int) (n.c-q))) (by omega)];refine c_t (jaa (by omega)) ?_
 have:d'.extract 0 ((d'.size:Int)-max 0 (min (d'.size:Int) (n.c-q))).toNat=szO (plcR (bz n.d) n.c q):=by
  refine jgn ?_;rw[jdo,e,plcR,zd]
 rw[this]
def G10:Env:=(Env.nil.add 148 (sp1 s148)).addG 158 (hideS (sp2 s158))
theorem ok_G10:jaw Tryz.prog G10:=jao (jai jap ok148) (jcu ok158)
def V87_0:Bool×Y×Int×Int×Y×Y×Int×Int×Int×Int→E:=fun(g,d0,c,zn,zs,s,b,x,k,i)=> [.pointer (some ⟨0,0,some 0⟩),.pointer (some ⟨2,0,some 0⟩),S s,I b,I x,I k,I i]
def B87_0:Bool×Y×Int×Int×Y×Y×Int×Int×Int×Int→O:=fun(g,d0,c,zn,zs,s,b,x,k,i)=> [some ⟨[B g,S d0,I c],33,true⟩,some ⟨[I zn,S zs],25,true⟩]
def S87_0:LSpec (Bool×Y×Int×Int×Y×Y×Int×Int×Int×Int) where
 live:=[2,4,6,7,8,9,10]
 mid:=[0,2]
 n:=60
 dec vs bs:=match vs,bs with | [.pointer (some ⟨0,0,some 0⟩),.pointer (some ⟨2,0,some 0⟩),.string s,.int .i64 b,.int .i64 x,.int .i64 k,.int .i64 i],[some ⟨[.bool g,.string d0,.int .i64 c],33,true⟩,some ⟨[.int .i64 zn,.string zs],25,true⟩]=>some (g,d0,c,zn,zs,s,b,x,k,i) | _,_=>none
 pre:=fun(g,d0,c,zn,zs,s,b,x,k,i)=>decide (0≤i∧i≤s.size∧s.size≤100000∧0≤x∧x<b∧b≤2147483648) &&jbu (bz s)
 fin:=fun(g,d0,c,zn,zs,s,b,x,k,i) Z=>Z (.exit 0) [.pointer (some ⟨0,0,some 0⟩),.pointer (some ⟨2,0,some 0⟩),S s,I b,I (tkGo b ((bz s).drop i.toNat) x k).1,I (tkGo b ((bz s).drop i.toNat) x k).2,I s.size] [some ⟨[B g,S d0,I c],33,true⟩,some ⟨[I zn,S zs],25,true⟩]
def l8(a:Bool)(b e:Y)(c d:Int):O:=fx a b c::gk [ak d,.string e] 25
theorem r87_0(g:Bool)(d0:Y)(c:Int)(zn:Int)(zs:Y)(s:Y)(b:Int)(x:Int)(k:Int)(i:Int)(jk:Tmps)(R:Exit→E→O→Prop):(jbp Tryz.prog G10 noL Tryz.f87.ntmps (ja6 Tryz.f87 0) (tl S87_0.live (V87_0 (g,d0,c,zn,zs,s,b,x,k,i)) jk) (ml S87_0.mid (B87_0 (g,d0,c,zn,zs,s,b,x,k,i))) S87_0.n fun e t' m' _=>R e (List.map t' S87_0.live) (List.map m' S87_0.mid))=(bif dw s i then fu (decide (jm s 10 x i≥b)) s i (bm (decide (b≠0)) R (l8 g d0 zs c zn) (aq 0::aq 2::bk s (I ((jm s 10 x i).tmod b)::cq 1 i) (ak b))) (R .normal (aq 0::aq 2::bk s (I (jm s 10 x i)::cq k i) (ak b)) (l8 g d0 zs c zn))else R (.exit 0) (aq 0::aq 2::bk s (ak x::az k i) (ak b)) (l8 g d0 zs c zn)):=by kernel_rfl
theorem l87_0:LOKf Tryz.prog (oneL 0 S87_0.h) Tryz.f87:=by
 refine jbe (h:=S87_0.h) (by kernel_rfl) (ja7 ok_G10 hmix (by kernel_rfl) (ja1 _) S87_0 V87_0 B87_0 (fun(g,d0,c,zn,zs,s,b,x,k,i)=>(s.size-i).toNat) ?_ ?_ ?_)
 ·intro vs bs s h;simp only[S87_0]at h;split at h
  all_goals first | (cases h;exact⟨rfl,rfl⟩) | cases h | (split at h<;>first | (rename_i hq;cases h;have hq:=jah hq;subst hq;exact⟨rfl,rfl⟩) | cases h)
 ·exact fun _ _ _ h=>h
 ·intro⟨g,d0,c,zn,zs,s,b,x,k,i⟩ jk Z hp hf;rw[r87_0];delta gk ak fx l8 bk az aq av am bq fu au bu bp cq aw k9 ax jm bm dw;simp only[S87_0]at hp hf;simp only[jaf,jae]at hp;obtain⟨⟨h0,hi,hs,hx0,hxb,hb⟩,hd⟩:=hp;apply cond_intro<;>intro h
  ·have h:=jab h;rw[jb4 h0 h,tkGo]at hf;have hc:=dig_cases (s:=s) (i:=i.toNat) (by omega) hd;refine c_t (jaa (by omega)) ?_;rw[w64 (n:=i+1) (by omega),w8s (by omega),w64 (n:=jaj s i.toNat-48) (by omega),w64 (n:=10*x) (by omega),w64 (n:=10*x+(jaj s i.toNat-48)) (by omega)];apply cond_intro<;>intro q
   ·have q:b≤10*x+(jaj s i.toNat-48):=jab q;rw[if_pos q]at hf;have hm:=tm_rng (a:=10*x+(jaj s i.toNat-48)) (b:=b) (by omega) (by omega);exact c_t (jaa (by omega)) ⟨(g,d0,c,zn,zs,s,b,(10*x+(jaj s i.toNat-48)).tmod b,1,i+1),rfl,rfl,by simp only[S87_0,jaf,jae];exact⟨by omega,hd⟩,by simp only;omega,hf⟩
   ·have q:¬b≤10*x+(jaj s i.toNat-48):=jac q;rw[if_neg q]at hf;exact⟨(g,d0,c,zn,zs,s,b,10*x+(jaj s i.toNat-48),k,i+1),rfl,rfl,by simp only[S87_0,jaf,jae];exact⟨by omega,hd⟩,by simp only;omega,hf⟩
  ·have h:=jac h;rw[jce (by omega)]at hf;obtain rfl:i=s.size:=by omega
   exact hf
def s87(n:Nu)(t:Ty):Bool×Value:=(jd4 n.g (bz n.d) n.c&&decide (ja9 t),.tuple ⟨[vlv (tkR n.g (bz n.d) n.c (bnd t) t.q).1,I (tkR n.g (bz n.d) n.c (bnd t) t.q).2]⟩)
theorem fn87:Fn1 Tryz.prog 87 Tryz.f87:= .m Tryz.func87
theorem v87(n:Nu)(t:Ty)(R:Value→Prop):jaz Tryz.prog G10 (oneL 0 S87_0.h) Tryz.f87 [Enc.enc n,Enc.enc t] (fun _=>none) 0 (fun v _ _=>R v)=(bif decide ((Nu.d n).size≤1000∧ -(400:Int)≤Nu.c n∧Nu.c n≤400∧0≤Fx.Ty.q t∧Fx.Ty.q t≤100)then∀a:Y,szO (plcR (bz (Nu.d n)) (Nu.c n) (Fx.Ty.q t))=a→(bif decide (Fx.Ty.p t≤1000)then go (S87_0.pre (Nu.g n,(Nu.d n,(Nu.c n,((0:Int),(ao,(a,(IntKind.i64.wrap (Fx.bnd t),((0:Int),((0:Int),(0:Int))))))))))) (dx (Nu.g n) (f0 [ep (0-(tkGo (IntKind.i64.wrap (Fx.bnd t)) (cl a) 0 0).fst),cu] (I (tkGo (IntKind.i64.wrap (Fx.bnd t)) (cl a) 0 0).snd)) (f0 [I (tkGo (IntKind.i64.wrap (Fx.bnd t)) (cl a) 0 0).fst,cu] (I (tkGo (IntKind.i64.wrap (Fx.bnd t)) (cl a) 0 0).snd)) R) Tmps else False)else False):=by kernel_rfl
theorem ok87:jam Tryz.prog 87 (sp2 s87):=by
 refine jcj ok_G10 hmix fn87 l87_0 jag fun n t hc=> ?_
 rw[ja0,v87];delta go dx b9 ku f0 cl ao cu aw ep
 try dsimp only[s87]
 have hc:(jd4 n.g (bz n.d) n.c&&decide (ja9 t))=true:=hc;simp only[jaf,jae]at hc;obtain⟨hn,hv⟩:=hc;obtain⟨f1,f2,f3,f4,f5⟩:=jd1 hn;rw[jal]at f1;obtain⟨v1,v2,v3,v4,v5⟩:=valid_facts hv;have hz0:Int.toNat 0=0:=rfl;refine c_t (jaa (by omega)) fun s' hs'=>c_t (jaa (by omega)) ?_
 have hbz:bz s'=plcR (bz n.d) n.c t.q:=by rw[←hs',jcp (jhf (jea f2))]
 have hsz:s'.size≤1500:=by rw[←jal,hbz];exact plc_len (by rw[jal];exact f1) f4 v4
 rw[w64 (n:=bnd t) (by omega),hz0,List.drop_zero,hbz];refine c_t (by simp only[S87_0,jaf,jae];exact⟨by omega,by rw[hbz];exact jea f2⟩) fun x=> ?_
 have hr:=jga (b:=bnd t) (by omega) (plcR (bz n.d) n.c t.q) 0 0 (jea f2) (by omega);rw[tkR,w64 (n:=0-(tkGo (bnd t) (plcR (bz n.d) n.c t.q) 0 0).1) (by omega)];apply cond_intro<;>intro h
 ·rw[if_pos h,Int.zero_sub]
 ·rw[if_neg (by rw[h];decide)]
def H2':Env:=((Env.nil.add 154 (sp2 s154)).add 55 (sp2 s55)).add 30 (sp2 s30)
theorem ok_H2':jaw Tryz.prog H2':=jai (jai (jai jap ok154) ok55) ok30
def s84(n:Nu):Bool×Value:=(decide (n.d.size≤9223372036854775807),B (jd4 n.g (bz n.d) n.c))
theorem fn84:Fn1 Tryz.prog 84 Tryz.f84:= .m Tryz.func84
def qm:Y:=⟨#[48,49,50,51,52,53,54,55,56,57]⟩
theorem v84(n:Nu)(R:Value→Prop):jaz Tryz.prog H2' noL Tryz.f84 [Enc.enc n] (fun _=>none) 0 (fun v _ _=>R v)=(bif b5 (Nu.d n) ao then ay (Nu.c n==0 || true) (B (Nu.c n==0&& !Nu.g n)) R else ov (decide (cw (Nu.d n)≤400)) (dp (Nu.d n) &&li qm) (bif b5 (j4 (Nu.d n) qm) ao then b6 0 (cw (Nu.d n)) && (bif jaj (Nu.d n) (Int.toNat 0) !=48 then b6 (cv (cw (Nu.d n)) 1) (cw (Nu.d n)) && (bif jaj (Nu.d n) (jo (cw (Nu.d n)-1)) !=48 then gx (Nu.c n) (-400)else true)else true)else true) (b5 (j4 (Nu.d n) qm) ao&& (jaj (Nu.d n) (Int.toNat 0) !=48&& (jaj (Nu.d n) (jo (cw (Nu.d n)-1)) !=48&&ft (Nu.c n) (-400) 400))) R):=by kernel_rfl
theorem ok84:jam Tryz.prog 84 (sp1 s84):=by
 refine jby ok_H2' hmix fn84 jak jag fun n hc=> ?_
 rw[ja0,v84];delta ay br ov e9 ft aw jo cw b5 ao j4 qm gx b6 cv fy li dp;have hc:(n.d.size≤9223372036854775807):=jab hc
 try dsimp only[s84]
 have hz0:Int.toNat 0=0:=rfl;rw[jcd,hz0];apply cond_intro<;>intro h
 ·have h:=jab h;refine c_t (Bool.or_true _) ?_;rw[jd4,if_pos h];exact congrArg Value.bool (Bool.and_comm _ _)
 ·have h:bz n.d≠ []:=jac h;obtain⟨h0,hA,hB⟩:=ends_of h
  have hT:((szO (jch (bz n.d) (bz ⟨#[48,49,50,51,52,53,54,55,56,57]⟩))).toList==(⟨#[]⟩:Y).toList)=jbu (bz n.d):=by
   rw[jcd,jcp (trim_isB (jdq n.d))];exact trim_digs (bz n.d)
  rw[hT,w64 (n:=(n.d.size:Int)-1) (by omega),show((n.d.size:Int)-1).toNat=n.d.size-1 by omega]
  refine c_t (by
   rw[jaa (show n.d.size≤9223372036854775807 by omega),jaa (show(0:Int)≤0∧0<(n.d.size:Int)by omega),jaa (show 0≤(n.d.size:Int)-1∧(n.d.size:Int)-1<(n.d.size:Int)by omega),show(decide ((⟨#[48,49,50,51,52,53,54,55,56,57]⟩:Y).size≤1000) &&asc (bz ⟨#[48,49,50,51,52,53,54,55,56,57]⟩))=true by kernel_rfl];simp only[Bool.true_and,Bool.or_true,Bool.cond_self]) ?_
  rw[jd4,if_neg h,hA,hB,jal];exact congrArg Value.bool (num_bools _ _ _ _ _)
def s86(n:Nu)(q:Int):Bool×Value:=(jd4 n.g (bz n.d) n.c&&decide (0≤q∧q≤100),S (szO (plcR (bz n.d) n.c q)))
theorem fn86:Fn1 Tryz.prog 86 Tryz.f86:= .m Tryz.func86
def oh(b:Int)(a:UInt8):Y:=szO (repZ (bz ⟨#[a]⟩) b.toNat)
theorem v86(n:Nu)(q:Int)(R:Value→Prop):jaz Tryz.prog H2' noL Tryz.f86 [Enc.enc n,Enc.enc q] (fun _=>none) 0 (fun v _ _=>R v)=(bif decide (Nu.c n≤q)then j7 (j6 d9 (cv q (Nu.c n)) 1000 1000) (ew (Nu.d n) (oh (cv q (Nu.c n)) 48)) (S (mj (Nu.d n++oh (cv q (Nu.c n)) 48))) R else o4 (mj ((Nu.d n).extract 0 (imax (cv (cw (Nu.d n)) (cm (Nu.c n) q)) 0).toNat)) (imax (cv (cw (Nu.d n)) (cm (Nu.c n) q)) 0) (cw (Nu.d n)) R):=by kernel_rfl
theorem ok86:jam Tryz.prog 86 (sp2 s86):=by
 refine jcj ok_H2' hmix fn86 jak jag fun n q hc=> ?_
 rw[ja0,v86];delta ay d5 o4 cw aw cv cm lv mj j7 oh ew j6 d9
 try dsimp only[s86]
 have hc:(jd4 n.g (bz n.d) n.c&&decide (0≤q∧q≤100))=true:=hc;simp only[jaf,jae]at hc;obtain⟨hn,hq⟩:=hc;obtain⟨f1,f2,f3,f4,f5⟩:=jd1 hn;have f1':=f1;rw[jal]at f1
 have hr48:∀k,repZ [48] k=rep48 k:=fun k=>by
  induction k with
  | zero=>rfl
  | succ k ih=>rw[repZ,ih];rfl
 have e48:bz ⟨#[48]⟩=[48]:=rfl;have hpe:=place_eq (q:=q) f5 f3;rw[e48,←hpe];have hi48:∀k,IsB (rep48 k):=fun k c hc=>by rw[List.eq_of_mem_replicate hc];omega
 apply cond_intro<;>intro h
 ·have h:=jab h;rw[w64 (n:=q-n.c) (by omega),hr48,jbr,jcp (hi48 _)];refine c_t (jaa ⟨by omega,by omega,by decide⟩) (c_t (by rw[jci,rep48,List.length_replicate];simp only[jbi,Nat.ble_eq];omega) ?_);rw[intP,if_pos h];rfl
 ·have h:=jac h;have hm:imax ((n.d.size:Int)-(n.c-q)) 0=max ((n.d.size:Int)-(n.c-q)) 0:=by unfold imax;split<;>omega
  rw[w64 (n:=n.c-q) (by omega),w64 (n:=(n.d.size:Int)-(n.c-q)) (by omega),hm,jdo];refine c_t (jaa (by omega)) ?_;rw[intP,if_neg h,jal];rfl
def H5:Env:=((Env.nil.add 85 (sp1 s85)).add 84 (sp1 s84)).addG 86 (hideS (sp2 s86))
theorem ok_H5:jaw Tryz.prog H5:=jao (jai (jai jap ok85) ok84) (jcu ok86)
def bpow(b:Int):Nat→Int→Int
 | 0,x=>x
 | n+1,x=>bpow b n (x*b)
theorem bpow_eq(b:Int):∀(n:Nat)(x:Int),bpow b n x=x*b^n
 | 0,x=>by rw[bpow,Int.pow_zero,Int.mul_one]
 | n+1,x=>by rw[bpow,bpow_eq b n,Int.pow_succ,Int.mul_assoc,Int.mul_comm b]
theorem bpow_ge{b:Int}(hb:1≤b):∀(n:Nat)(x:Int),1≤x→x≤bpow b n x
 | 0,x,h=>Int.le_refl _
 | n+1,x,h=>by
  rw[bpow];have h1:x*1≤x*b:=Int.mul_le_mul_of_nonneg_left hb (by omega);rw[Int.mul_one]at h1;exact Int.le_trans h1 (bpow_ge hb n (x*b) (by omega))
def V26_0:Bool×Y×Int×Int×Y×Int×Int×Y×Int×Int×Int×Int×Int×Int→E:=fun(g,d0,c,zn,zs,r5,r6,s,b,o,k,x,P,i)=> [.pointer (some ⟨0,0,some 0⟩),.pointer (some ⟨2,0,some 0⟩),I r5,I r6,S s,I b,I o,I k,I x,I P,I i]
def B26_0:Bool×Y×Int×Int×Y×Int×Int×Y×Int×Int×Int×Int×Int×Int→O:=fun(g,d0,c,zn,zs,r5,r6,s,b,o,k,x,P,i)=> [some ⟨[B g,S d0,I c],33,true⟩,some ⟨[I zn,S zs],25,true⟩]
def S26_0:LSpec (Bool×Y×Int×Int×Y×Int×Int×Y×Int×Int×Int×Int×Int×Int) where
 live:=[2,4,5,6,7,8,9,10,11,29,30]
 mid:=[0,2]
 n:=60
 dec vs bs:=match vs,bs with | [.pointer (some ⟨0,0,some 0⟩),.pointer (some ⟨2,0,some 0⟩),.int .i64 r5,.int .i64 r6,.string s,.int .i64 b,.int .i64 o,.int .i64 k,.int .i64 x,.int .i64 P,.int .i64 i],[some ⟨[.bool g,.string d0,.int .i64 c],33,true⟩,some ⟨[.int .i64 zn,.string zs],25,true⟩]=>some (g,d0,c,zn,zs,r5,r6,s,b,o,k,x,P,i) | _,_=>none
 pre:=fun(g,d0,c,zn,zs,r5,r6,s,b,o,k,x,P,i)=>decide (0≤i∧i≤P∧P≤100∧1≤b∧1≤x∧bpow b (P-i).toNat x≤2147483648)
 fin:=fun(g,d0,c,zn,zs,r5,r6,s,b,o,k,x,P,i) Z=>Z (.exit 0) [.pointer (some ⟨0,0,some 0⟩),.pointer (some ⟨2,0,some 0⟩),I r5,I r6,S s,I b,I o,I k,I (bpow b (P-i).toNat x),I P,I P] [some ⟨[B g,S d0,I c],33,true⟩,some ⟨[I zn,S zs],25,true⟩]
def ol(c:Y)(a b e f:Int)(g:E)(d:Value):E:=aq 2::ak a::ak b:: .string c::d::ak e::ak f::g
theorem r26_0(g:Bool)(d0:Y)(c:Int)(zn:Int)(zs:Y)(r5:Int)(r6:Int)(s:Y)(b:Int)(o:Int)(k:Int)(x:Int)(P:Int)(i:Int)(jk:Tmps)(R:Exit→E→O→Prop):(jbp Tryz.prog H5 noL Tryz.f26.ntmps (ja6 Tryz.f26 0) (tl S26_0.live (V26_0 (g,d0,c,zn,zs,r5,r6,s,b,o,k,x,P,i)) jk) (ml S26_0.mid (B26_0 (g,d0,c,zn,zs,r5,r6,s,b,o,k,x,P,i))) S26_0.n fun e t' m' _=>R e (List.map t' S26_0.live) (List.map m' S26_0.mid))=(mw R i P (l8 g d0 zs c zn) (ol s r5 r6 o k (kw (x*b)::cq P i) (ak b)) (ol s r5 r6 o k (ak x::az P i) (ak b)) 0 (aq 0)):=by kernel_rfl
theorem l26_0:∀t m n K,S26_0.h t m n K→Ab.Sem Tryz.prog Tryz.f26.ntmps (.loop (ja6 Tryz.f26 0)) t m n K:=by
 refine ja7 ok_H5 hmix (by kernel_rfl) (ja1 _) S26_0 V26_0 B26_0 (fun(g,d0,c,zn,zs,r5,r6,s,b,o,k,x,P,i)=>(P-i).toNat) ?_ ?_ ?_
 ·intro vs bs s h;simp only[S26_0]at h;split at h
  all_goals first | (cases h;exact⟨rfl,rfl⟩) | cases h | (split at h<;>first | (rename_i hq;cases h;have hq:=jah hq;subst hq;exact⟨rfl,rfl⟩) | cases h)
 ·exact fun _ _ _ h=>h
 ·intro⟨g,d0,c,zn,zs,r5,r6,s,b,o,k,x,P,i⟩ jk Z hp hf;rw[r26_0];delta ct mw aq ak ol az au bu bp cq kw gk fx l8;simp only[S26_0]at hp hf;obtain⟨h0,hP,h100,hb,hx,hm⟩:=jab hp;apply cond_intro<;>intro h
  ·have h:=jab h;have e:(P-i).toNat=(P-(i+1)).toNat+1:=by omega
   rw[e,bpow]at hm hf;have h1:x*1≤x*b:=Int.mul_le_mul_of_nonneg_left hb (by omega);rw[Int.mul_one]at h1;have h2:=bpow_ge hb (P-(i+1)).toNat (x*b) (by omega);rw[w64 (n:=x*b) (by omega),w64 (n:=i+1) (by omega)];exact⟨(g,d0,c,zn,zs,r5,r6,s,b,o,k,x*b,P,i+1),rfl,rfl,by simp only[S26_0,jae];omega,by simp only;omega,hf⟩
  ·have h:=jac h;obtain rfl:i=P:=by omega
   rw[Int.sub_self]at hf;exact hf
def V26_2:Bool×Y×Int×Int×Y×Int×Int×Y×Int×Int×Int×Int×Int→E:=fun(g,d0,c,zn,zs,r5,r6,s,x,k,b,L,i)=> [.pointer (some ⟨0,0,some 0⟩),.pointer (some ⟨2,0,some 0⟩),I r5,I r6,S s,I x,I k,I b,I L,I i]
def B26_2:Bool×Y×Int×Int×Y×Int×Int×Y×Int×Int×Int×Int×Int→O:=fun(g,d0,c,zn,zs,r5,r6,s,x,k,b,L,i)=> [some ⟨[B g,S d0,I c],33,true⟩,some ⟨[I zn,S zs],25,true⟩]
def S26_2:LSpec (Bool×Y×Int×Int×Y×Int×Int×Y×Int×Int×Int×Int×Int) where
 live:=[2,4,5,6,7,9,10,11,37,38]
 mid:=[0,2]
 n:=120
 dec vs bs:=match vs,bs with | [.pointer (some ⟨0,0,some 0⟩),.pointer (some ⟨2,0,some 0⟩),.int .i64 r5,.int .i64 r6,.string s,.int .i64 x,.int .i64 k,.int .i64 b,.int .i64 L,.int .i64 i],[some ⟨[.bool g,.string d0,.int .i64 c],33,true⟩,some ⟨[.int .i64 zn,.string zs],25,true⟩]=>some (g,d0,c,zn,zs,r5,r6,s,x,k,b,L,i) | _,_=>none
 pre:=fun(g,d0,c,zn,zs,r5,r6,s,x,k,b,L,i)=>decide (0≤i∧i≤L∧L=s.size∧s.size≤100000∧0≤x∧x<b∧b≤2147483648) &&jbu (bz s)
 fin:=fun(g,d0,c,zn,zs,r5,r6,s,x,k,b,L,i) Z=>Z (.exit 2) [.pointer (some ⟨0,0,some 0⟩),.pointer (some ⟨2,0,some 0⟩),I r5,I r6,S s,I (tkGo b ((bz s).drop i.toNat) x k).1,I (tkGo b ((bz s).drop i.toNat) x k).2,I b,I L,I L] [some ⟨[B g,S d0,I c],33,true⟩,some ⟨[I zn,S zs],25,true⟩]
theorem r26_2(g:Bool)(d0:Y)(c:Int)(zn:Int)(zs:Y)(r5:Int)(r6:Int)(s:Y)(x:Int)(k:Int)(b:Int)(L:Int)(i:Int)(jk:Tmps)(R:Exit→E→O→Prop):(jbp Tryz.prog H5 noL Tryz.f26.ntmps (ja6 Tryz.f26 2) (tl S26_2.live (V26_2 (g,d0,c,zn,zs,r5,r6,s,x,k,b,L,i)) jk) (ml S26_2.mid (B26_2 (g,d0,c,zn,zs,r5,r6,s,x,k,b,L,i))) S26_2.n fun e t' m' _=>R e (List.map t' S26_2.live) (List.map m' S26_2.mid))=(bif ct i L then fu (decide (jm s 10 x i≥b)) s i (bm (decide (b≠0)) R (l8 g d0 zs c zn) (aq 0::ol s r5 r6 1 b (cq L i) (I ((jm s 10 x i).tmod b)))) (R .normal (aq 0::ol s r5 r6 k b (cq L i) (I (jm s 10 x i))) (l8 g d0 zs c zn))else R (.exit 2) (aq 0::ol s r5 r6 k b (az L i) (ak x)) (l8 g d0 zs c zn)):=by kernel_rfl
theorem l26_2:∀t m n K,S26_2.h t m n K→Ab.Sem Tryz.prog Tryz.f26.ntmps (.loop (ja6 Tryz.f26 2)) t m n K:=by
 refine ja7 ok_H5 hmix (by kernel_rfl) (ja1 _) S26_2 V26_2 B26_2 (fun(g,d0,c,zn,zs,r5,r6,s,x,k,b,L,i)=>(s.size-i).toNat) ?_ ?_ ?_
 ·intro vs bs s h;simp only[S26_2]at h;split at h
  all_goals first | (cases h;exact⟨rfl,rfl⟩) | cases h | (split at h<;>first | (rename_i hq;cases h;have hq:=jah hq;subst hq;exact⟨rfl,rfl⟩) | cases h)
 ·exact fun _ _ _ h=>h
 ·intro⟨g,d0,c,zn,zs,r5,r6,s,x,k,b,L,i⟩ jk Z hp hf;rw[r26_2];delta gk ak fx l8 aq ol az av am bq fu aw k9 ax jm au bu bp cq bm ct;simp only[S26_2]at hp hf;simp only[jaf,jae]at hp;obtain⟨⟨h0,hi,hL,hs,hx0,hxb,hb⟩,hd⟩:=hp;apply cond_intro<;>intro h
  ·have h:=jab h;rw[jb4 h0 (by omega),tkGo]at hf;have hc:=dig_cases (s:=s) (i:=i.toNat) (by omega) hd;refine c_t (jaa (by omega)) ?_;rw[w64 (n:=i+1) (by omega),w8s (by omega),w64 (n:=jaj s i.toNat-48) (by omega),w64 (n:=10*x) (by omega),w64 (n:=10*x+(jaj s i.toNat-48)) (by omega)];apply cond_intro<;>intro q
   ·have q:b≤10*x+(jaj s i.toNat-48):=jab q;rw[if_pos q]at hf;have hm:=tm_rng (a:=10*x+(jaj s i.toNat-48)) (b:=b) (by omega) (by omega);exact c_t (jaa (by omega)) ⟨(g,d0,c,zn,zs,r5,r6,s,(10*x+(jaj s i.toNat-48)).tmod b,1,b,L,i+1),rfl,rfl,by simp only[S26_2,jaf,jae];exact⟨by omega,hd⟩,by simp only;omega,hf⟩
   ·have q:¬b≤10*x+(jaj s i.toNat-48):=jac q;rw[if_neg q]at hf;exact⟨(g,d0,c,zn,zs,r5,r6,s,10*x+(jaj s i.toNat-48),k,b,L,i+1),rfl,rfl,by simp only[S26_2,jaf,jae];exact⟨by omega,hd⟩,by simp only;omega,hf⟩
  ·have h:=jac h;rw[jce (by omega)]at hf;obtain rfl:i=L:=by omega
   exact hf
theorem lok26:LOKf Tryz.prog (twoL 0 S26_0.h 2 S26_2.h) Tryz.f26:=jeu (by kernel_rfl) (by kernel_rfl) l26_0 l26_2
def s26(n:Nu)(t:Ty):Bool×Value:=(decide (n.d.size≤9223372036854775807),.tuple ⟨[vlv (tkV n.g (bz n.d) n.c t).1,I (tkV n.g (bz n.d) n.c t).2.1,I (tkV n.g (bz n.d) n.c t).2.2]⟩)
theorem fn26:Fn1 Tryz.prog 26 Tryz.f26:= .m Tryz.func26
def sq(b:Y)(a c:Int)(d:Value):E:=[b9 [ak a,.string b],ak c,d]
def gn(a:Y)(b c:Int)(d:Value):Value:= .tuple ⟨sq a b c d⟩
def qy(a:Prod Int Int):Value:=gn ao a.fst a.snd (ak 0)
def sd(b:Y)(a:Cx.Nu)(f:Fx.Ty)(e:Int)(h:Value→Prop):Prop:=bif S26_0.pre (Nu.g a,(Nu.d a,(Nu.c a,((0:Int),(ao,((0:Int),((0:Int),(b,(e,((0:Int),((0:Int),((1:Int),(Fx.Ty.p f,(0:Int))))))))))))))then Tmps→go (S26_2.pre (Nu.g a,(Nu.d a,(Nu.c a,((0:Int),(ao,((0:Int),((0:Int),(b,((0:Int),((0:Int),(bpow e (Int.toNat (Fx.Ty.p f-0)) 1,(am b,(0:Int)))))))))))))) (dx (Nu.g a) (gn ao (cv 0 (tkGo (bpow e (Int.toNat (Fx.Ty.p f-0)) 1) (cl b) 0 0).fst) (tkGo (bpow e (Int.toNat (Fx.Ty.p f-0)) 1) (cl b) 0 0).snd (ak 0)) (qy (tkGo (bpow e (Int.toNat (Fx.Ty.p f-0)) 1) (cl b) 0 0)) h) Tmps else False
theorem v26(n:Nu)(t:Ty)(R:Value→Prop):jaz Tryz.prog H5 (twoL 0 S26_0.h 2 S26_2.h) Tryz.f26 [Enc.enc n,Enc.enc t] (fun _=>none) 0 (fun v _ _=>R v)=(k8 (!jd4 (Nu.g n) (bz (Nu.d n)) (Nu.c n)) (Nu.d n) (R (gn ao 0 0 (ak 1))) (bif !decide (Fx.ja9 t)then R (gn ao 0 0 (ak 5))else bif jd4 (Nu.g n) (bz (Nu.d n)) (Nu.c n) &&d8 0 (Fx.Ty.q t) 100 then∀a:Y,szO (plcR (bz (Nu.d n)) (Nu.c n) (Fx.Ty.q t))=a→(bif b4 t 2 then sd a n t 2 R else sd a n t 10 R)else False)):=by kernel_rfl
theorem ok26:jam Tryz.prog 26 (sp2 s26):=by
 refine jcj ok_H5 hmix fn26 lok26 jag fun n t hc=> ?_
 rw[ja0,v26];delta av dp k8 go dx ak b9 sq gn ao qy cl aw cv am sd b4 d8;have hc:(n.d.size≤9223372036854775807):=jab hc
 try dsimp only[s26]
 have hz0:Int.toNat 0=0:=rfl;refine c_t (jaa hc) (cond_intro (fun h=> ?_) (fun h=> ?_))
 ·rw[tkV,if_pos (by simpa using h)]
 have hn:jd4 n.g (bz n.d) n.c=true:=by simpa using h
 rw[hn];apply cond_intro<;>intro q
 ·have q:¬ja9 t:=by simpa using q
  rw[tkV,if_neg (by rw[hn];decide),if_pos q]
 have hv:ja9 t:=by simpa using q
 obtain⟨f1,f2,f3,f4,f5⟩:=jd1 hn;obtain⟨v1,v2,v3,v4,v5⟩:=valid_facts hv;refine c_t (by rw[jaa v4];rfl) fun s' hs'=> ?_
 have hbz:bz s'=plcR (bz n.d) n.c t.q:=by rw[←hs',jcp (jhf (jea f2))]
 have hsz:s'.size≤1500:=by rw[←jal,hbz];exact plc_len f1 f4 v4
 have hr:=jga (b:=bnd t) (by omega) (plcR (bz n.d) n.c t.q) 0 0 (jea f2) (by omega);rw[tkV,if_neg (by rw[hn];decide),if_neg (fun z=>z hv)];have hp2:2≤bnd t:=(Fx.bnd_range hv).1
 have key:∀b:Int,base t.k=b→bpow b (t.p-0).toNat 1=bnd t:=fun b hb=>by
  rw[bpow_eq,Int.one_mul,Int.sub_zero,bnd,pw,hb]
 apply cond_intro<;>intro hk
 ·have hk2:base t.k=2:=by
   have:t.k=2:=by simpa using hk
   rw[this];rfl
  have hb:=key _ hk2;refine c_t (by simp only[S26_0,jae];rw[hb];refine⟨?_,?_,?_,?_,?_,?_⟩ <;>first | omega | trivial) fun x=> ?_
  rw[hb];refine c_t (by simp only[S26_2,jaf,jae];exact⟨by refine⟨?_,?_,?_,?_,?_,?_,?_⟩ <;>first | omega | trivial,by rw[hbz];exact jea f2⟩) fun y=> ?_
  rw[hz0,List.drop_zero,hbz,w64 (n:=0-(tkGo (bnd t) (plcR (bz n.d) n.c t.q) 0 0).1) (by omega),tkR];apply cond_intro<;>intro h
  ·rw[if_pos h,Int.zero_sub]
  ·rw[if_neg (by rw[h];decide)]
 ·have hk2:base t.k=10:=by
   have:¬t.k=2:=by simpa using hk
   rw[v5.resolve_right this];rfl
  have hb:=key _ hk2;refine c_t (by simp only[S26_0,jae];rw[hb];refine⟨?_,?_,?_,?_,?_,?_⟩ <;>first | omega | trivial) fun x=> ?_
  rw[hb];refine c_t (by simp only[S26_2,jaf,jae];exact⟨by refine⟨?_,?_,?_,?_,?_,?_,?_⟩ <;>first | omega | trivial,by rw[hbz];exact jea f2⟩) fun y=> ?_
  rw[hz0,List.drop_zero,hbz,w64 (n:=0-(tkGo (bnd t) (plcR (bz n.d) n.c t.q) 0 0).1) (by omega),tkR];apply cond_intro<;>intro h
  ·rw[if_pos h,Int.zero_sub]
  ·rw[if_neg (by rw[h];decide)]
structure Wh where
 n:Int
 t:Ty
instance:Enc Wh where
 enc x:= .agg ⟨[.int .i64 x.n,.int .i64 x.t.k,.int .i64 x.t.p,.int .i64 x.t.q,.bool x.t.v,.string x.t.s]⟩
 dec | .agg ⟨[.int .i64 n,.int .i64 k,.int .i64 p,.int .i64 q,.bool v,.string s]⟩=>some ⟨n,⟨k,p,q,v,s⟩⟩ | _=>none
 dec_some:=by
  intro v a h;split at h
  ·cases h;rfl
  ·cases h
 plain_enc _:=rfl
def wid(t:Ty):Int:=if t.k=2 then 1+(100*t.p+331)/332+3 else t.p+3
def fixU(n q:Int):J:=rep48 (q+1-(itoZ n).length).toNat++itoZ n
def fixD(n q:Int):J:=if q>0 then(fixU n q).take ((fixU n q).length-q.toNat)++46::(fixU n q).drop ((fixU n q).length-q.toNat)else itoZ n
def fixS(n q:Int):J:=if n<0 then 45::fixD (-n) q else fixD n q
def txtZ(n:Int)(t:Ty):J:=List.replicate (wid t-(fixS n t.q).length).toNat 32++fixS n t.q
def K5:Env:=Env.nil
theorem ok_K5:jaw Tryz.prog K5:=jap
def s112(t:Ty):Bool×Value:=(decide (0≤t.p∧t.p≤1000),I (wid t))
theorem fn112:Fn1 Tryz.prog 112 Tryz.f112:= .m Tryz.func112
theorem v112(t:Ty)(R:Value→Prop):jaz Tryz.prog K5 noL Tryz.f112 [Enc.enc t] (fun _=>none) 0 (fun v _ _=>R v)=(dx (b4 t 2) (ep (il 1 (IntKind.i64.wrap ((IntKind.i64.wrap (IntKind.i64.wrap (100*Fx.Ty.p t)+331)).tdiv 332))+3)) (ep (Fx.Ty.p t+3)) R):=by kernel_rfl
theorem ok112:jam Tryz.prog 112 (sp1 s112):=by
 refine jby ok_K5 hmix fn112 jak jag fun t hc=> ?_
 rw[ja0,v112];delta dx aw ep il b4;have hc:(0≤t.p∧t.p≤1000):=jab hc
 try dsimp only[s112]
 unfold wid;apply cond_intro<;>intro h
 ·have h:t.k=2:=eq_of_beq h;have hd:(100*t.p+331).tdiv 332=(100*t.p+331)/332:=Int.tdiv_eq_ediv_of_nonneg (by omega);rw[if_pos h,w64 (n:=100*t.p) (by omega),w64 (n:=100*t.p+331) (by omega),hd,w64 (n:=(100*t.p+331)/332) (by omega),w64 (n:=1+(100*t.p+331)/332) (by omega),w64 (by omega)]
 ·have h:¬t.k=2:=by simpa using h
  rw[if_neg h,w64 (by omega)]
def K6:Env:=((Env.nil.addG 29 (hideS (sp1 s29))).addG 30 (hideS (sp2 s30))).add 112 (sp1 s112)
theorem ok_K6:jaw Tryz.prog K6:=jai (jao (jao jap (jcu ok29)) (jcu ok30)) ok112
def s321(x:Wh):Bool×Value:=(decide (ja9 x.t∧ -2147483648≤x.n∧x.n≤2147483648),S (szO (txtZ x.n x.t)))
theorem fn321:Fn1 Tryz.prog 321 Tryz.f321:= .m Tryz.func321
def pq(a b:Y)(c:Value→Prop):Prop:=ay (ew a b) (.string (a++b)) c
def sw(c d:Y)(b:Cx.Wh)(e:Value→Prop):Prop:=bif j6 ⟨#[32]⟩ (imax (cv (wid (Wh.t b)) (cw (c++d))) 0) 1000 1000 then∀a:Y,oh (imax (cv (wid (Wh.t b)) (cw (c++d))) 0) 32=a→pq a (c++d) e else False
def se(c d:Bool)(a:Y)(b:Int)(e f:Prop):Prop:=bif d5 0 0 (ll a b) (ll a b) (cw a)then bif ew (lm a (ll a b)) ⟨#[46]⟩then bif d5 0 (ll a b) (cw a) (cw a) (cw a)then bif ew (lm a (ll a b)++⟨#[46]⟩) (a.extract (ll a b).toNat a.size)then bif c then ia d e else f else False else False else False else False
def o5(a:Y)(b:Int):Y:=lm a (ll a b)++⟨#[46]⟩++a.extract (ll a b).toNat a.size
def k321(sg s':Y)(x:Wh)(R:Value→Prop):Prop:=bif decide (Fx.Ty.q (Wh.t x)>0)then bif j6 d9 (imax (cv (il (Fx.Ty.q (Wh.t x)) 1) (am s')) 0) 1000 1000 then∀a:Y,oh (imax (cv (il (Fx.Ty.q (Wh.t x)) 1) (am s')) 0) 48=a→(bif ew a s' then se (ew sg (o5 (a++s') (Fx.Ty.q (Wh.t x)))) (d8 0 (Fx.Ty.p (Wh.t x)) 1000) (a++s') (Fx.Ty.q (Wh.t x)) (sw sg (o5 (a++s') (Fx.Ty.q (Wh.t x))) x R) False else False)else False else bif ew sg s' then bif d8 0 (Fx.Ty.p (Wh.t x)) 1000 then sw sg s' x R else False else False
theorem jdz{m:Int}(h:0≤m∧m≤2147483648):(itoZ m).length≤10:=by
 obtain⟨k,rfl⟩:∃k:Nat,m=(k:Int):=⟨m.toNat,by omega⟩
 rw[itoZ,Lib.itoa_nonneg,zl,List.length_map];exact jgl 9 k (by omega)
theorem jfe(n:Int):IsB (itoZ n):=zl_isB _
theorem jhv(k:Nat):IsB (List.replicate k 32):=fun c hc=>by rw[List.eq_of_mem_replicate hc];omega
theorem rep48_isB(k:Nat):IsB (rep48 k):=fun c hc=>by rw[List.eq_of_mem_replicate hc];omega
theorem jhu(c:Int):∀n,repZ [c] n=List.replicate n c
 | 0=>rfl
 | n+1=>by rw[repZ,jhu c n];rfl
theorem fitN{n:Nat}(h:n≤100000):jbi n=true:=by simp only[jbi,Nat.ble_eq];omega
theorem jja(a b:Int):imax a b=max a b:=by unfold imax;split<;>omega
theorem k321f(sg D X:Y)(t:Ty)(hp:0≤t.p∧t.p≤31)(hw:0≤wid t∧wid t≤100)(hs:sg.size≤1)(hD:D.size≤100)(hX:bz X=List.replicate (wid t-(bz sg++bz D).length).toNat 32++(bz sg++bz D)):
  bif jbi (ByteArray.size sg+ByteArray.size D)then bif decide (0≤Ty.p t∧Ty.p t≤1000)then
   bif decide (0≤imax (IntKind.wrap IntKind.i64 (wid t-(↑(ByteArray.size (sg++D)):Int))) 0∧imax (IntKind.wrap IntKind.i64 (wid t-(↑(ByteArray.size (sg++D)):Int))) (0:Int)≤1000∧ByteArray.size (ByteArray.mk #[32])≤1000)then
    ∀s2:Y,szO (repZ (bz (ByteArray.mk #[32])) (Int.toNat (imax (IntKind.wrap IntKind.i64 (wid t-(↑(ByteArray.size (sg++D)):Int))) 0)))=s2→
     bif jbi (ByteArray.size s2+ByteArray.size (sg++D))then Value.string (s2++(sg++D))=Value.string X else False
   else False else False else False:=by
 have hz:(sg++D).size=sg.size+D.size:=ByteArray.size_append;rw[w64 (n:=wid t-((sg++D).size:Int)) (by omega),jja];refine c_t (fitN (by omega)) (c_t (jaa (by omega)) (c_t (jaa ⟨by omega,by omega,by decide⟩) fun s2 e2=> ?_))
 have b2:bz s2=List.replicate (wid t-(bz sg++bz D).length).toNat 32:=by
  rw[←e2,show bz (ByteArray.mk #[32])=[32]from rfl,jhu,jcp (jhv _),List.length_append,jal,jal];congr 1;omega
 have z2:s2.size≤100:=by rw[←jal,b2,List.length_replicate];omega
 refine c_t (fitN (by omega)) ?_;congr 1;rw[←jf6 (s2++(sg++D)),←jf6 X,jbr,jbr,b2,hX]
theorem k321_ok(sg s':Y)(x:Wh)(m:Int)(h:szO (itoZ m)=s')(hm:0≤m∧m≤2147483648)(hv:ja9 x.t)(hs:sg.size≤1)(hg:IsB (bz sg)):
  k321 sg s' x (fun v=>v= .string (szO (List.replicate (wid x.t-(bz sg++fixD m x.t.q).length).toNat 32++(bz sg++fixD m x.t.q)))):=by
 unfold k321;delta ay ew pq oh aw cv cw j6 sw d8 ia ll lm d5 se o5 am il d9;obtain⟨n,t⟩:=x;simp only at hv ⊢;obtain⟨v1,v2,v3,v4,v5⟩:=Fx.valid_r hv;have hw:0≤wid t∧wid t≤100:=by unfold wid;split<;>omega
 have b1:bz s'=itoZ m:=by rw[←h,jcp (jfe _)]
 have z1:s'.size≤10:=by rw[←jal,b1];exact jdz hm
 have hX:∀l,IsB l→bz (szO (List.replicate (wid t-(bz sg++l).length).toNat 32++(bz sg++l)))=List.replicate (wid t-(bz sg++l).length).toNat 32++(bz sg++l):=fun l hl=>jcp ((jhv _).append (hg.append hl))
 apply cond_intro<;>intro hq
 ·have hq:t.q>0:=jab hq;rw[w64 (n:=t.q+1) (by omega),w64 (n:=t.q+1-(s'.size:Int)) (by omega),jja];refine c_t (jaa ⟨by omega,by omega,by decide⟩) fun s1 e1=> ?_
  have c1:bz s1=rep48 (t.q+1-(itoZ m).length).toNat:=by
   rw[←e1,show bz (ByteArray.mk #[48])=[48]from rfl,jhu,jcp (l:=List.replicate _ 48) (rep48_isB _),←b1,jal];rw[rep48];congr 1;omega
  have y1:(s1.size:Int)=max (t.q+1-(s'.size:Int)) 0:=by rw[←jal,c1,rep48,List.length_replicate,←b1,jal];omega
  have hu:bz (s1++s')=fixU m t.q:=by rw[jbr,c1,b1];rfl
  have zu:(s1++s').size=s1.size+s'.size:=ByteArray.size_append;generalize s1++s'=u at*;rw[w64 (n:=(u.size:Int)-t.q) (by omega)]
  have e3:bz (u.extract 0 ((u.size:Int)-t.q).toNat)=(fixU m t.q).take ((fixU m t.q).length-t.q.toNat):=by
   rw[jdo,hu,←hu,jal];congr 1;omega
  have e4:bz (u.extract ((u.size:Int)-t.q).toNat u.size)=(fixU m t.q).drop ((fixU m t.q).length-t.q.toNat):=by
   rw[jhl,hu,←hu,jal];congr 1;omega
  have z3:(u.extract 0 ((u.size:Int)-t.q).toNat).size=u.size-t.q.toNat:=by rw[jcn];omega
  have z4:(u.extract ((u.size:Int)-t.q).toNat u.size).size=t.q.toNat:=by rw[jcn];omega
  generalize u.extract 0 ((u.size:Int)-t.q).toNat=a at*;generalize u.extract ((u.size:Int)-t.q).toNat u.size=b at*;have n46:(ByteArray.mk #[46]).size=1:=rfl
  have hD:bz (a++ByteArray.mk #[46]++b)=fixD m t.q:=by
   rw[jbr,jbr,e3,e4,fixD,if_pos hq,show bz (ByteArray.mk #[46])=[46]from rfl,List.append_assoc];rfl
  have zD:(a++ByteArray.mk #[46]++b).size=a.size+1+b.size:=by rw[ByteArray.size_append,ByteArray.size_append,n46]
  refine c_t (fitN (by omega)) (c_t (jaa (by omega)) (c_t (fitN (by rw[n46];omega)) (c_t (jaa (by omega)) (c_t (fitN (by rw[ByteArray.size_append,n46];omega)) ?_))));rw[←hD];exact k321f sg _ _ t (by omega) hw hs (by omega) (hX _ (jdq _))
 ·have hq:¬t.q>0:=jac hq;have hD:bz s'=fixD m t.q:=by rw[b1,fixD,if_neg hq]
  rw[←hD];exact k321f sg _ _ t (by omega) hw hs (by omega) (hX _ (jdq _))
def oo(a:Int)(b:Prop):Prop:=bif d8 (-9223372036854775808) a 9223372036854775807 then b else False
theorem v321(x:Wh)(R:Value→Prop):jaz Tryz.prog K6 noL Tryz.f321 [Enc.enc x] (fun _=>none) 0 (fun v _ _=>R v)=(bif b8 (Wh.n x) 0 then oo (cv 0 (Wh.n x)) (∀a:Y,szO (itoZ (cv 0 (Wh.n x)))=a→k321 ⟨#[45]⟩ a x R)else oo (Wh.n x) (∀a:Y,szO (itoZ (Wh.n x))=a→k321 ao a x R)):=by kernel_rfl
theorem ok321:jam Tryz.prog 321 (sp1 s321):=by
 refine jby ok_K6 hmix fn321 jak jag fun x hc=> ?_
 rw[ja0,v321];delta d8 oo ao aw cv b8;have hc:(ja9 x.t∧ -2147483648≤x.n∧x.n≤2147483648):=jab hc
 try dsimp only[s321]
 obtain⟨hv,h1,h2⟩:=hc;apply cond_intro<;>intro h
 ·have h:x.n<0:=jab h;rw[w64 (n:=0-x.n) (by omega)];refine c_t (jaa (by omega)) fun s' e=> ?_
  have:=k321_ok ⟨#[45]⟩ s' x (0-x.n) e (by omega) hv (by decide) (jdq _);rw[txtZ,fixS,if_pos h,show -x.n=0-x.n by omega];exact this
 ·have h:¬x.n<0:=jac h;refine c_t (jaa (by omega)) fun s' e=> ?_
  have:=k321_ok ⟨#[]⟩ s' x x.n e (by omega) hv (by decide) (jdq _);rw[txtZ,fixS,if_neg h];exact this
end Go.Cx
end
section
namespace Go.Cx
open Go Go.Proofs Go.RowKit Go.Extern.Stop Go.Stop Go.Extern
theorem as_nil(t:Value)(w:World):
  Calls Tryz.prog 100 #[.nilIface,t] w fun e w'=>e= .returned (.bool false)∧w'=w:=by
 go_enter Tryz.func100,Tryz.ntmps100
 go_wp2
 go_ret
 exact⟨rfl,rfl⟩
theorem a_valueOf121(t:Addr)(w:World):(ReflectliteValue.unpack (.iface 121 (.pointer (some t)))).run Tryz.prog w
  = .ok (.agg #[.pointer (some ⟨10,121,none⟩),.pointer (some ⟨w.heap.size,0,none⟩),.int .u64 150]) (w.alloc (.cells #[.pointer (some t)] 121)):=by kernel_rfl
theorem a_type121 (a : Addr) (w : World) : (ReflectliteValue.methodAny (ReflectliteValue.valueError "reflectlite.Value.Type" 0) (fun t _ _ _ => ReflectliteType.toType t) #[.agg #[.pointer (some ⟨10, 121, none⟩), .pointer (some a), .int .u64 150]]).run Tryz.prog w
  = .ok (.iface 229 (.agg #[.pointer (some ⟨10,121,none⟩)])) w:=by kernel_rfl
theorem a_kind121(w:World):((ReflectliteType.abiMethod fun t=>(fun a:Nat=>Value.int IntKind.u8 (a:Int)) <$> Rtype.kind t) #[.pointer (some ⟨10,121,none⟩)]).run Tryz.prog w= .ok (.int .u8 22) w:=by kernel_rfl
theorem a_kind119(w:World):((ReflectliteType.abiMethod fun t=>(fun a:Nat=>Value.int IntKind.u8 (a:Int)) <$> Rtype.kind t) #[.pointer (some ⟨10,119,none⟩)]).run Tryz.prog w= .ok (.int .u8 25) w:=by kernel_rfl
theorem a_rlm(z:Sem Value)(f:TypeId→Addr→Nat→Nat→Sem Value)(v:Value):
  ReflectliteValue.method z f #[v]=(do match←ReflectliteValue.parts v with | none=>z | some (t,a,fl)=>f t a fl (fl%32)):=rfl
theorem a_parts121(a:Addr)(w:World):(ReflectliteValue.parts (.agg #[.pointer (some ⟨10,121,none⟩),.pointer (some a),.int .u64 150])).run Tryz.prog w= .ok (some (121,a,150)) w:=by kernel_rfl
theorem a_isNil121(a p:Addr)(W:World)(ha:W.cell? a=some (.pointer (some p))):
  (ReflectliteValue.method (ReflectliteValue.valueError "reflectlite.Value.IsNil" 0) ReflectliteValue.isNil #[.agg #[.pointer (some ⟨10, 121, none⟩), .pointer (some a), .int .u64 150]]).run Tryz.prog W = .ok (.bool false) W := by
 rw[a_rlm];simp only[Sem.run_bind,a_parts121,Result.andThen];simp[ReflectliteValue.isNil,loadVar,isAgg,underlying,Tryz.underlying121,ha,Result.andThen]
theorem a_methodKind (h : Value) (w : World) : (Go.method 421 229 (.agg #[h]) "Kind").run Tryz.prog w = .ok (316, h) w := by kernel_rfl
theorem a_methodElem (h : Value) (w : World) : (Go.method 421 229 (.agg #[h]) "Elem").run Tryz.prog w = .ok (331, .agg #[h]) w := by kernel_rfl
theorem a_methodImplements (h : Value) (w : World) : (Go.method 421 229 (.agg #[h]) "Implements").run Tryz.prog w = .ok (332, .agg #[h]) w := by kernel_rfl
theorem a_methodAssignableTo (h : Value) (w : World) : (Go.method 421 229 (.agg #[h]) "AssignableTo").run Tryz.prog w = .ok (329, .agg #[h]) w := by kernel_rfl
theorem a_elem121(w:World):(ReflectliteType.method ReflectliteType.elem #[.agg #[.pointer (some ⟨10,121,none⟩)]]).run Tryz.prog w= .ok (.iface 229 (.agg #[.pointer (some ⟨10,119,none⟩)])) w:=by kernel_rfl
theorem a_implements119 (w : World) : (ReflectliteType.relation "Implements" ReflectliteType.implements_ #[.agg #[.pointer (some ⟨10, 119, none⟩)], .iface 229 (.agg #[.pointer (some ⟨10, 105, none⟩)])]).run Tryz.prog w = .ok (.bool true) w := by kernel_rfl
theorem a_typeOf119(v:Value)(w:World):(ReflectliteType.typeOf #[.iface 119 v]).run Tryz.prog w= .ok (.iface 229 (.agg #[.pointer (some ⟨10,119,none⟩)])) w:=by kernel_rfl
theorem a_assignable119 (w : World) : (ReflectliteType.relation "AssignableTo" ReflectliteType.assignableTo #[.agg #[.pointer (some ⟨10, 119, none⟩)], .iface 229 (.agg #[.pointer (some ⟨10, 119, none⟩)])]).run Tryz.prog w = .ok (.bool true) w := by kernel_rfl
theorem a_valueOf119(s:ByteArray)(w:World):(ReflectliteValue.unpack (.iface 119 (.agg #[.string s]))).run Tryz.prog w
  = .ok (.agg #[.pointer (some ⟨10,119,none⟩),.pointer (some ⟨w.heap.size,0,none⟩),.int .u64 153]) (w.alloc (.cells #[.string s] 119)):=by kernel_rfl
theorem a_elemOf121(w:World):(Rtype.elem? 121).run Tryz.prog w= .ok (some 119) w:=by kernel_rfl
theorem a_mk119(p:Addr)(w:World):(ReflectliteValue.mk 119 p ReflectliteValue.flagAddr).run Tryz.prog w= .ok (.agg #[.pointer (some ⟨10,119,none⟩),.pointer (some p),.int .u64 409]) w:=by kernel_rfl
theorem a_elemV121(a p:Addr)(W:World)(ha:W.cell? a=some (.pointer (some p))):
  (ReflectliteValue.method (ReflectliteValue.valueError "reflectlite.Value.Elem" 0) ReflectliteValue.elem #[.agg #[.pointer (some ⟨10, 121, none⟩), .pointer (some a), .int .u64 150]]).run Tryz.prog W
   = .ok (.agg #[.pointer (some ⟨10,119,none⟩),.pointer (some p),.int .u64 409]) W:=by
 rw[a_rlm];simp only[Sem.run_bind,a_parts121,Result.andThen];simp[ReflectliteValue.elem,loadVar,isAgg,underlying,Tryz.underlying121,ha,Result.andThen,a_elemOf121,a_mk119]
theorem a_rls(v x:Value):ReflectliteValue.set #[v,x]=(do
  let (some (dst,a,fl),some (src,b,_)):=(←ReflectliteValue.parts v,←ReflectliteValue.parts x)
   | unsupported (.noEntry "extern/(internal/reflectlite.Value).Set.zeroValue")
  if fl / ReflectliteValue.flagAddr % 2 == 0 then unsupported (.noEntry "extern/(internal/reflectlite.Value).Set.unaddressable")
  let val←loadVar src b
  if←Rtype.directlyAssignable dst src then storeVar dst a val
  else if←Rtype.implements dst src then
   if(←Rtype.kind src)==20 then
    match val with
    | .nilIface => unsupported (.noEntry "extern/reflectlite: a nil value of one interface type handed on as a value of another")
    | _=>storeVar dst a val
   else storeVar dst a (.iface src val)
  else panicString ("reflectlite.Set: value of type " ++ (← Rtype.spelt src) ++ " is not assignable to type " ++ (← Rtype.spelt dst))
  pure (.tuple #[])):=rfl
theorem a_parts119a(a:Addr)(w:World):(ReflectliteValue.parts (.agg #[.pointer (some ⟨10,119,none⟩),.pointer (some a),.int .u64 409])).run Tryz.prog w= .ok (some (119,a,409)) w:=by kernel_rfl
theorem a_parts119(a:Addr)(w:World):(ReflectliteValue.parts (.agg #[.pointer (some ⟨10,119,none⟩),.pointer (some a),.int .u64 153])).run Tryz.prog w= .ok (some (119,a,153)) w:=by kernel_rfl
theorem a_direct119(w:World):(Rtype.directlyAssignable 119 119).run Tryz.prog w= .ok true w:=by kernel_rfl
theorem a_size119(w:World):(sizeOf 119).run Tryz.prog w= .ok 1 w:=by kernel_rfl
theorem a_load119(b:Addr)(s:ByteArray)(W:World)(hb:W.cell? b=some (.string s))(hs:b.spot=none):(loadVar 119 b).run Tryz.prog W= .ok (.agg #[.string s]) W:=by
 obtain⟨bb,bo,bs⟩:=b;subst hs;simp[loadVar,isAgg,underlying,Tryz.underlying119,a_size119,loadCells,loadCellsFrom,Addr.add,hb,Result.andThen]
theorem a_set119(ta b:Addr)(s:ByteArray)(old:Value)(W:World)(hb:W.cell? b=some (.string s))(hs:b.spot=none)(ht:W.cell? ta=some old)(hts:ta.spot=none)(hf:W.frozen? ta=false):
  (ReflectliteValue.set #[.agg #[.pointer (some ⟨10, 119, none⟩), .pointer (some ta), .int .u64 409], .agg #[.pointer (some ⟨10, 119, none⟩), .pointer (some b), .int .u64 153]]).run Tryz.prog W
   = .ok (.tuple #[]) (W.setCell ta (.string s)):=by
 obtain⟨tb,tq,ts⟩:=ta;subst hts;rw[a_rls];simp only[Sem.run_bind,a_parts119a,a_parts119,Result.andThen];have hl:=a_load119 b s W hb hs;have hd:=a_direct119 W;simp[ReflectliteValue.flagAddr,hl,hd,storeVar,Value.cells,storeCells,Addr.add,a_size119,Result.andThen];rw[run_store Tryz.prog W ⟨tb,tq,none⟩ _ _ (by rfl)];simp[ht,hf]
end Go.Cx
end
section
namespace Go.Cx
open Go Go.Proofs Go.RowKit Go.Extern.Stop Go.Stop Go.Extern Go.Shelf
set_option maxRecDepth 100000 in
set_option maxHeartbeats 4000000 in
theorem as_hit(s:ByteArray)(t:Addr)(old:Value)(w:World)(hg:w.cell? ⟨0,0,none⟩=some (.iface 229 (.agg #[.pointer (some ⟨10,105,none⟩)])))(hts:t.spot=none)(ht0:w.cell? t=some old)(hf0:w.frozen? t=false):
  Calls Tryz.prog 100 #[.iface 119 (.agg #[.string s]),.iface 121 (.pointer (some t))] w fun ev w'=>ev= .returned (.bool true)∧w'=((((w.alloc (.cells #[.pointer (some t)] 121)).alloc (.cells #[.pointer (some ⟨10,121,none⟩),.pointer (some ⟨w.heap.size,0,none⟩),.int .u64 150] 187)).alloc (.cells #[.pointer (some ⟨10,121,none⟩),.pointer (some ⟨w.heap.size,0,none⟩),.int .u64 150] 187)).alloc (.cells #[.string s] 119)).setCell t (.string s):=by
 have h6:= @run_callFunc_extern Tryz.prog 172 _ (fun args=>ReflectliteValue.unpack (args.getD 0 (.tuple #[]))) Tryz.func172 (by kernel_rfl) (by kernel_rfl) (by kernel_rfl) (by kernel_rfl)
 have h7 := @run_callFunc_extern Tryz.prog 173 _ (ReflectliteValue.methodAny (ReflectliteValue.valueError "reflectlite.Value.Type" 0) (fun t _ _ _ => ReflectliteType.toType t)) Tryz.func173 (by kernel_rfl) (by kernel_rfl) (by kernel_rfl) (by kernel_rfl)
 have h8 := @run_callFunc_extern Tryz.prog 174 _ (ReflectliteValue.method (ReflectliteValue.valueError "reflectlite.Value.IsNil" 0) ReflectliteValue.isNil) Tryz.func174 (by kernel_rfl) (by kernel_rfl) (by kernel_rfl) (by kernel_rfl)
 have h27:= @run_callFunc_extern Tryz.prog 316 _ (ReflectliteType.abiMethod fun t=>do pure (.int .u8 (←Rtype.kind t))) Tryz.func316 (by kernel_rfl) (by kernel_rfl) (by kernel_rfl) (by kernel_rfl);have h37:= @run_callFunc_extern Tryz.prog 331 _ (ReflectliteType.method ReflectliteType.elem) Tryz.func331 (by kernel_rfl) (by kernel_rfl) (by kernel_rfl) (by kernel_rfl)
 have h38 := @run_callFunc_extern Tryz.prog 332 _ (ReflectliteType.relation "Implements" ReflectliteType.implements_) Tryz.func332 (by kernel_rfl) (by kernel_rfl) (by kernel_rfl) (by kernel_rfl)
 have h10:= @run_callFunc_extern Tryz.prog 226 _ ReflectliteType.typeOf Tryz.func226 (by kernel_rfl) (by kernel_rfl) (by kernel_rfl) (by kernel_rfl)
 have h35 := @run_callFunc_extern Tryz.prog 329 _ (ReflectliteType.relation "AssignableTo" ReflectliteType.assignableTo) Tryz.func329 (by kernel_rfl) (by kernel_rfl) (by kernel_rfl) (by kernel_rfl)
 have h11 := @run_callFunc_extern Tryz.prog 227 _ (ReflectliteValue.method (ReflectliteValue.valueError "reflectlite.Value.Elem" 0) ReflectliteValue.elem) Tryz.func227 (by kernel_rfl) (by kernel_rfl) (by kernel_rfl) (by kernel_rfl)
 have h12:= @run_callFunc_extern Tryz.prog 228 _ ReflectliteValue.set Tryz.func228 (by kernel_rfl) (by kernel_rfl) (by kernel_rfl) (by kernel_rfl);have tO:=a_typeOf119;have mA:=a_methodAssignableTo;have a25:=a_assignable119;have v25:=a_valueOf119;have f6:=a_valueOf121;have f7:=a_type121;have mK:=a_methodKind;have mE:=a_methodElem;have mI:=a_methodImplements;have k27:=a_kind121;have k25:=a_kind119;have e27:=a_elem121;have i25:=a_implements119;have n8:=a_isNil121 ⟨w.heap.size,0,none⟩ t ((w.alloc (.cells #[.pointer (some t)] 121)).alloc (.cells #[.pointer (some ⟨10,121,none⟩),.pointer (some ⟨w.heap.size,0,none⟩),.int .u64 150] 187)) (by simp)
 have hlt:0<w.heap.size:=by
  rcases Nat.eq_zero_or_pos w.heap.size with h0 | h
  ·simp[World.cell?,h0]at hg
  ·exact h
 have hg2:((w.alloc (.cells #[.pointer (some t)] 121)).alloc (.cells #[.pointer (some ⟨10,121,none⟩),.pointer (some ⟨w.heap.size,0,none⟩),.int .u64 150] 187)).cell? ⟨0,0,none⟩=some (.iface 229 (.agg #[.pointer (some ⟨10,105,none⟩)])):=by
  rw[World.cell?_alloc_lt _ _ ⟨0,0,none⟩ (by simp),World.cell?_alloc_lt _ _ ⟨0,0,none⟩ hlt];exact hg
 have htl:t.block<w.heap.size:=by
  rcases Nat.lt_or_ge t.block w.heap.size with h | h
  ·exact h
  ·simp[World.cell?,Array.getElem?_eq_none h]at ht0
 have el:=a_elemV121 ⟨w.heap.size,0,none⟩ t (((w.alloc (.cells #[.pointer (some t)] 121)).alloc (.cells #[.pointer (some ⟨10,121,none⟩),.pointer (some ⟨w.heap.size,0,none⟩),.int .u64 150] 187)).alloc (.cells #[.pointer (some ⟨10,121,none⟩),.pointer (some ⟨w.heap.size,0,none⟩),.int .u64 150] 187)) (by rw[World.cell?_alloc_lt _ _ ⟨w.heap.size,0,none⟩ (by simp;omega)];simp)
 have st:=a_set119 t ⟨w.heap.size+1+1+1,0,none⟩ s old ((((w.alloc (.cells #[.pointer (some t)] 121)).alloc (.cells #[.pointer (some ⟨10,121,none⟩),.pointer (some ⟨w.heap.size,0,none⟩),.int .u64 150] 187)).alloc (.cells #[.pointer (some ⟨10,121,none⟩),.pointer (some ⟨w.heap.size,0,none⟩),.int .u64 150] 187)).alloc (.cells #[.string s] 119))
  (by rw[World.cell?_alloc_at _ _ _ _ (by simp)];rfl) rfl
  (by rw[World.cell?_alloc_lt _ _ t (by simp;omega),World.cell?_alloc_lt _ _ t (by simp;omega),World.cell?_alloc_lt _ _ t (by simp;omega),World.cell?_alloc_lt _ _ t htl];exact ht0) hts
  (by rw[World.frozen?_alloc_old _ _ t (by simp;omega),World.frozen?_alloc_old _ _ t (by simp;omega),World.frozen?_alloc_old _ _ t (by simp;omega),World.frozen?_alloc_old _ _ t (Nat.ne_of_lt htl)];exact hf0)
 have e175:∀args w,(callFunc 175 args).run Tryz.prog w= .ok (.enter 175 args) w:=enters_of Tryz.func175 (by kernel_rfl) rfl
 go_enter Tryz.func100,Tryz.ntmps100
 go_wp2
 refine wp_loop_rounds 1 ?_;rw[rounds_succ]
 go_wp2
 go_ret
 exact⟨rfl,rfl⟩
end Go.Cx
end
noncomputable section
namespace Go.Cx
open Go Go.Ab Go.Proofs Go.RowKit
def h100:E→Lk→Nat→(Value→Lk→Nat→Prop)→Prop:=fun args m n K=>match args with
 | [.nilIface,_]=>K (.bool false) m n
 | [.iface t (.agg ⟨[.string s]⟩),.iface t' (.pointer (some ⟨k,0,some _⟩))]=>match Nat.beq t 119,Nat.beq t' 121,m k with
  | true,true,some ⟨[.string _],ty,true⟩=>match Nat.ble itTy ty with
   | false=>K (.bool true) (m.upd k ⟨[.string s],ty,true⟩) n
   | true=>False
  | _,_,_=>False
 | _=>False
theorem c100:jbz Tryz.prog 100:=⟨_,Tryz.func100,by kernel_rfl,rfl⟩
theorem tab_as{w:World}(h:TabsIn w.heap.size w):w.cell? ⟨0,0,none⟩=some (.iface 229 (.agg #[.pointer (some ⟨10,105,none⟩)])):=
 h.cell (b:=0) rfl (i:=0) rfl
theorem gen100:jcz Tryz.prog 100 h100:=by
 refine⟨c100,fun args m n K hh N w0 ι w hrel hwf hargs=> ?_⟩;unfold h100 at hh;split at hh
 ·rename_i t;refine(as_nil (ren ι t) w).mono fun e w' ⟨h1,h2⟩=> ?_
  subst h2;exact⟨.bool false,m,n,ι,by rw[h1];rfl,hh,Nat.le_refl _,fun _ _=>rfl,hrel,hwf,by simp[ids]⟩
 ·rename_i t s t' k sp;split at hh
  case h_2=>exact hh.elim
  rename_i old ty ht ht' hk;split at hh
  case h_2=>exact hh.elim
  rename_i hty;have ht:=jah ht;have ht':=jah ht';subst ht ht';obtain⟨h1,h2,h3⟩:=hrel.blk k _ hk rfl;rw[objOf_cells hty]at h3
  have e1:([.iface 119 (.agg ⟨[.string s]⟩),.iface 121 (.pointer (some ⟨k,0,some sp⟩))]:E).map (ren ι)=[.iface 119 (.agg ⟨[.string s]⟩),.iface 121 (.pointer (some ⟨(ι k).1,0,none⟩))]:=by
   simp[ren,renL,ren1,h1]
  rw[e1]
  have hc:w.cell? ⟨(ι k).1,0,none⟩=some (.string old):=by
   simp only[World.cell?,h3];rfl
  have hf:w.frozen? ⟨(ι k).1,0,none⟩=false:=by
   simp[World.frozen?,h3]
  refine(as_hit s ⟨(ι k).1,0,none⟩ (.string old) w (tab_as hrel.tabs) rfl hc hf).mono fun e w' ⟨g1,g2⟩=> ?_
  have hb:Below w.heap.size w ((((w.alloc (.cells #[.pointer (some ⟨(ι k).1,0,none⟩)] 121)).alloc (.cells #[.pointer (some ⟨10,121,none⟩),.pointer (some ⟨w.heap.size,0,none⟩),.int .u64 150] 187)).alloc (.cells #[.pointer (some ⟨10,121,none⟩),.pointer (some ⟨w.heap.size,0,none⟩),.int .u64 150] 187)).alloc (.cells #[.string s] 119)):=
   ((((Below.refl _ _).alloc (Nat.le_refl _) _).alloc (by simp) _).alloc (by simp;omega) _).alloc (by simp;omega) _
  have hr:=hrel.grow hb;obtain⟨_,_,h4⟩:=hr.blk k _ hk rfl;rw[objOf_cells hty]at h4;have hw:=hr.write hk rfl (b':=⟨[.string s],ty,true⟩) rfl rfl rfl (it_ble hty);refine⟨.bool true,_,n,ι,by rw[g1];rfl,hh,Nat.le_refl _,fun _ _=>rfl,?_,fun j b hj=> ?_,by simp[ids]⟩
  ·rw[g2,setCell_eq_setRow _ _ _ _ _ _ _ h4];exact hw
  ·by_cases e:j=k
   ·subst e;rw[Lk.upd_same]at hj;cases hj;exact⟨(hwf j _ hk).1,by simp[idsL,ids]⟩
   ·rw[Lk.upd_other _ _ e]at hj;exact hwf j b hj
 ·exact hh.elim
end Go.Cx
end
noncomputable section
namespace Go.Cx
open Go Go.Ab Go.Proofs Go.Shelf Go.Px Go.Cv
def RdN(s:Y)(b g:Bool)(d:Y)(c:Int):Prop:=rdN (bz s)=none∧b=false∧g=false∧d=⟨#[]⟩∧c=0∨ ∃l,rdN (bz s)=some (g,l,c)∧d=szO l∧b=true
def hidN:E→Lk→Nat→(Value→Lk→Nat→Prop)→Prop:=fun args m n K=>match args with
 | [.string s]=>match cnd (decide (s.size≤9223372036854775807))with
  | true=>∀(b g:Bool)(d:Y)(c:Int),RdN s b g d c→K (.tuple ⟨[.agg ⟨[.bool g,.string d,.int .i64 c]⟩,.bool b]⟩) m n
  | false=>False
 | _=>False
theorem gen_hidN:jcz Tryz.prog 24 hidN:=by
 obtain⟨hc,hp⟩:=ok24;refine⟨hc,fun args m n K hh N w0 ι w hrel hwf hargs=> ?_⟩;unfold hidN at hh;split at hh
 case h_2=>exact hh.elim
 rename_i s;split at hh
 case h_2=>exact hh.elim
 rename_i hcc;have hs:(sp1 s24) [.string s] ([Value.string s].map (blkOf m))=some (true,onV (rdN (bz s))):=congrArg some (Prod.ext (show(s24 s).1=true from hcc) rfl);refine(hp [.string s] _ N w0 m ι w hrel hs rfl).mono fun e' w' ⟨h1,h2⟩=> ?_
 refine⟨onV (rdN (bz s)),m,n,ι,by rw[h1];rfl,?_,Nat.le_refl _,fun _ _=>rfl,hrel.grow h2,hwf,by simp[ids,idsL,onV]⟩;cases hr:rdN (bz s)with
 | none=>
  have:=hh false false ⟨#[]⟩ 0 (.inl ⟨hr,rfl,rfl,rfl,rfl⟩);rw[←je9]at this;exact this
 | some x=>exact hh true x.1 (szO x.2.1) x.2.2 (.inr ⟨x.2.1,by rw[hr],rfl,rfl⟩)
end Go.Cx
end
noncomputable section
set_option maxHeartbeats 3200000
namespace Go.Cx
open Go Go.Ab Go.Proofs Go.Shelf Go.Px Go.Cv
open Go.Fx (Ty Vl check ja9 most base pw bnd Fit fits tv vv tup V0 T0 jbh jbl jbc jbx str0)
def s322(s:Y):Bool×Value:=(true,S s)
theorem fn322:Fn1 Tryz.prog 322 Tryz.f322:= .m Tryz.func322
theorem v322(s:Y)(R:Value→Prop):jaz Tryz.prog K6 noL Tryz.f322 [Enc.enc s] (fun _=>none) 0 (fun v _ _=>R v)=(R (S s)):=by kernel_rfl
theorem ok322:jam Tryz.prog 322 (sp1 s322):=by
 refine jby ok_K6 hmix fn322 jak jag fun s hc=> ?_
 rw[ja0,v322]
 try dsimp only[s322]
def s324(s:Y):Bool×Value:=(true,S s)
theorem fn324:Fn1 Tryz.prog 324 Tryz.f324:= .m Tryz.func324
theorem v324(s:Y)(R:Value→Prop):jaz Tryz.prog K6 noL Tryz.f324 [Enc.enc s] (fun _=>none) 0 (fun v _ _=>R v)=(R (S s)):=by kernel_rfl
theorem ok324:jam Tryz.prog 324 (sp1 s324):=by
 refine jby ok_K6 hmix fn324 jak jag fun s hc=> ?_
 rw[ja0,v324]
 try dsimp only[s324]
def K7:Env:=Env.nil
theorem ok_K7:jaw Tryz.prog K7:=jap
def s115(t:Ty):Bool×Value:=(decide (t.q≤t.p∧t.p≤1000∧0≤t.q),I (if t.k=2 then t.p else(332*(t.p-t.q)+99)/100))
theorem fn115:Fn1 Tryz.prog 115 Tryz.f115:= .m Tryz.func115
theorem v115(t:Ty)(R:Value→Prop):jaz Tryz.prog K7 noL Tryz.f115 [Enc.enc t] (fun _=>none) 0 (fun v _ _=>R v)=(dx (b4 t 2) (I (Fx.Ty.p t)) (ep ((il (IntKind.i64.wrap (332*cm (Fx.Ty.p t) (Fx.Ty.q t))) 99).tdiv 100)) R):=by kernel_rfl
theorem ok115:jam Tryz.prog 115 (sp1 s115):=by
 refine jby ok_K7 hmix fn115 jak jag fun t hc=> ?_
 rw[ja0,v115];delta dx aw ep il cm b4;have hc:(t.q≤t.p∧t.p≤1000∧0≤t.q):=jab hc
 try dsimp only[s115]
 apply cond_intro<;>intro h
 ·have h:t.k=2:=eq_of_beq h;rw[if_pos h]
 ·have h:¬t.k=2:=by simpa using h
  rw[if_neg h,w64 (n:=t.p-t.q) (by omega),w64 (n:=332*(t.p-t.q)) (by omega),w64 (n:=332*(t.p-t.q)+99) (by omega)];by_cases hn:0≤332*(t.p-t.q)+99
  ·rw[Int.tdiv_eq_ediv_of_nonneg hn,w64 (by omega)]
  ·exfalso;omega
def K8:Env:=Env.nil
theorem ok_K8:jaw Tryz.prog K8:=jap
def inB:Nat→Int→J
 | 0,_=> []
 | k+1,n=>inB k (n/2)++ [48+n%2]
theorem zrow8(k:Nat):zrow (.int .u8 0) k=cz (List.replicate k 0):=by
 rw[cz,List.map_replicate];refine List.eq_replicate_iff.2 ⟨by rw[zrow_len];simp[Value.cells],fun v hv=> ?_⟩;have:=zrow_mem hv;simpa[Value.cells]using this
theorem row_zero(k:Nat)(hk:k≤1000):RowP (zrow (.int .u8 0) k) k k:=by
 rw[zrow8];have:=(jjx (List.replicate k 0) (tail:=[]) (cap:=k) rfl (by simp) (by omega)).1;rw[List.append_nil,List.length_replicate]at this;exact this
theorem row_set{d:E}{n cap:Nat}(h:RowP d n cap){k:Nat}(hk:k<n)(x:Int):RowP (setL d (0+k*1) [.int .u8 x]) n cap∧zc (setL d (0+k*1) [.int .u8 x]) n=(zc d n).set k x:=by
 have e:setL d (0+k*1) [.int .u8 x]=d.set k (.int .u8 x):=by rw[Nat.zero_add,Nat.mul_one];rfl
 have ht:(d.set k (.int .u8 x)).take n=cz ((zc d n).set k x):=by
  rw[List.take_set,h.take,cz,cz,List.map_set]
 rw[e];refine⟨⟨by rw[ht];exact jen _,?_,by rw[List.length_set];exact h.len,h.le,h.cap⟩,?_⟩
 ·refine jbd.2 fun v hv=> ?_
  rcases List.mem_or_eq_of_mem_set hv with hv | hv
  ·exact jbd.1 h.plain v hv
  ·rw[hv];rfl
 ·show List.map iv ((d.set k (.int .u8 x)).take n)=_;rw[ht];simp[cz,Function.comp_def,iv]
theorem inB_len:∀(k:Nat)(n:Int),(inB k n).length=k
 | 0,_=>rfl
 | k+1,n=>by rw[inB,List.length_append,inB_len k];rfl
def V223_0:Int×Int×Y×Nat×Nat×Int×Int×E→E:=fun(n,m,r,a,b,L,i,d)=> [I n,I m,S r,.slice (some ⟨200,0,some 1⟩) a b,I L,I i]
def B223_0:Int×Int×Y×Nat×Nat×Int×Int×E→O:=fun(n,m,r,a,b,L,i,d)=> [some ⟨d,5,true⟩]
def S223_0:LSpecA (Int×Int×Y×Nat×Nat×Int×Int×E) where
 live:=[0,1,4,5,10,11]
 mid:=[200]
 n:=210
 ap:=[(.tmp 5,200)]
 dec vs bs:=match vs,bs with
  | [.int .i64 n,.int .i64 m,.string r,.slice (some ⟨200,0,some 1⟩) a b,.int .i64 L,.int .i64 i],[some ⟨d,5,true⟩]=>some (n,m,r,a,b,L,i,d)
  | _,_=>none
 pre:=fun(n,m,r,a,b,L,i,d)=>jcm d a b&&decide (0≤n∧n≤2147483648∧0≤i∧i≤L∧L=m∧m≤1000∧(a:Int)=m)
 fin:=fun(n,m,r,a,b,L,i,d) Z=>∀(n':Int)(d':E),jcm d' a b=true→zc d' a=inB (m-i).toNat n++(zc d a).drop (m-i).toNat→Z (.exit 0) [I n',I m,S r,.slice (some ⟨200,0,some 1⟩) a b,I L,I L] [some ⟨d',5,true⟩]
theorem r223_0(n:Int)(m:Int)(r:Y)(a:Nat)(b:Nat)(L:Int)(i:Int)(d:E)(jk:Tmps)(R:Exit→E→O→Prop):(jbp Tryz.prog K8 noL Tryz.f223.ntmps (ja6 Tryz.f223 0) (tl S223_0.live (V223_0 (n,m,r,a,b,L,i,d)) jk) (ml S223_0.mid (B223_0 (n,m,r,a,b,L,i,d))) S223_0.n fun e t' m' _=>S223_0.out R e t' m')=(pz (ct i L) R (cv (cm m 1) i) n 2 .i64 d (fk L i 200 a b) (bv 200 a b::az L i) a (S r) (ak m) (S r) (ak n)):=by kernel_rfl
theorem l223_0:LOKf Tryz.prog (oneL 0 S223_0.hA) Tryz.f223:=by
 refine jbe (h:=S223_0.hA) (by kernel_rfl) (jbv ok_K8 hmix (by kernel_rfl) (ja1 _) S223_0 V223_0 B223_0 (fun(n,m,r,a,b,L,i,d)=>(L-i).toNat) ?_ ?_ ?_)
 ·intro vs bs s h;simp only[S223_0]at h;split at h
  all_goals first | (cases h;exact⟨rfl,rfl⟩) | cases h | (split at h<;>first | (rename_i hq;cases h;have hq:=jah hq;subst hq;exact⟨rfl,rfl⟩) | cases h)
 ·exact fun⟨n,m,r,a,b,L,i,d⟩ hp=>by
   simp only[S223_0,jaf]at hp;simp[V223_0,B223_0,S223_0,ja3,jb2,idsL,ids,jaq (jat.1 hp.1).plain]
 ·intro⟨n,m,r,a,b,L,i,d⟩ jk Z hp hf;rw[r223_0];delta fv e8 ij gv av b6 gz bm og aw gy pz ak az bv au bu bp cq fk cv cm ct;simp only[S223_0]at hp hf;simp only[jaf,jae]at hp;obtain⟨hr,hn0,hn1,hi0,hiL,hLm,hm,ham⟩:=hp;have hr:=jat.1 hr;have hzl:=jba hr;apply cond_intro<;>intro h
  ·have h:=jab h
   have hk:(IntKind.wrap .i64 (IntKind.wrap .i64 (m-1)-i))=((m-i).toNat-1:Nat):=by
    rw[w64 (n:=m-1) (by omega),w64 (by omega)];omega
   rw[hk,Int.toNat_natCast];generalize hkk:(m-i).toNat-1=k;have hka:k<a:=by omega
   obtain⟨g1,g2⟩:=row_set hr hka (48+n%2)
   have hw:IntKind.u8.wrap (IntKind.i64.wrap (48+n.tmod 2))=48+n%2:=by
    rw[Int.tmod_eq_emod_of_nonneg hn0,w64 (by omega),w8 (by omega)]
   have hq:IntKind.i64.wrap (n.tdiv 2)=n/2:=by rw[Int.tdiv_eq_ediv_of_nonneg hn0,w64 (by omega)]
   rw[hw,hq,w64 (n:=i+1) (by omega),g1.good,g1.rlb];have hl:=hr.len;have hle:=hr.le;refine c_t (jaa (by omega)) (c_t (by rw[Nat.ble_eq];omega) (c_t rfl ⟨(n/2,m,r,a,b,L,i+1,_),rfl,rfl,?_,by simp only;omega,fun n' d' h1 h2=>hf n' d' h1 ?_⟩))
   ·simp only[S223_0,jaf,jae];exact⟨jat.2 g1,by omega⟩
   ·have e1:(m-i).toNat=k+1:=by omega
    have e2:(m-(i+1)).toNat=k:=by omega
    rw[h2,e1,e2,g2,inB,List.append_assoc];congr 1;rw[List.drop_set,if_neg (by omega),Nat.sub_self];have:(zc d a).drop k=(zc d a)[k]'(by omega)::(zc d a).drop (k+1):=List.drop_eq_getElem_cons (by omega);rw[this];rfl
  ·have h:=jac h;rw[hr.good,hr.rlb];obtain rfl:i=L:=by omega
   refine c_t rfl (hf n d (jat.2 hr) ?_);rw[show(m-i).toNat=0 by omega];rfl
def s223(n:Int)(m:Int):Bool×Value:=(decide (0≤n∧n≤2147483648∧0≤m∧m≤1000),S (szO (inB m.toNat n)))
theorem fn223:Fn1 Tryz.prog 223 Tryz.f223:= .m Tryz.func223
theorem v223(n:Int)(m:Int)(R:Value→Prop):jaz Tryz.prog K8 (oneL 0 S223_0.hA) Tryz.f223 [Enc.enc n,Enc.enc m] (fun _=>none) 0 (fun v _ _=>R v)=(qa (S223_0.toLSpec.pre (n,(m,(ao,(m.toNat,(m.toNat,(natO m.toNat,((0:Int),rlbL [(2,200)] (zrow (al 0) m.toNat))))))))) m 2 (Int→(∀a:E,ly true (inB (Int.toNat (m-0)) n) (ii (m-0) [(2,200)] (zrow (al 0) m.toNat) m.toNat) a a m.toNat m.toNat 210 R))):=by kernel_rfl
theorem ok223:jam Tryz.prog 223 (sp2 s223):=by
 refine jcj ok_K8 hmix fn223 l223_0 jag fun n m hc=> ?_
 rw[ja0,v223];delta gm jv al d8 qa kp ay ly ii ao;have hc:(0≤n∧n≤2147483648∧0≤m∧m≤1000):=jab hc
 try dsimp only[s223]
 obtain⟨h1,h2,h3,h4⟩:=hc;have hr:=row_zero m.toNat (by omega);rw[hr.good,hr.rlb];refine c_t (by rw[jaa (show 0≤m∧m≤m by omega)];simp only[Bool.true_and,jb0,jaf,Nat.ble_eq];omega) (c_t (by rw[jbj hr.plain];rfl) (c_t ?_ fun n' d' g1 g2=> ?_))
 ·simp only[S223_0,jaf,jae];rw[jca];exact⟨jat.2 hr,by omega⟩
 ·have g1:=jat.1 g1;rw[Int.sub_zero]at g2;have hzl:=jba hr;rw[List.drop_eq_nil_of_le (by omega),List.append_nil]at g2;refine c_t (by rw[jbj g1.plain];rfl) fun _=>c_t g1.str.1 ?_
  rw[g1.str.2,g2,jcw]
end Go.Cx
end
noncomputable section
namespace Go.Ab
open Go Go.RowKit
def eqI(a b:Int):Bool:=match a,b with
 | .ofNat m,.ofNat n=>Nat.beq m n
 | .negSucc m,.negSucc n=>Nat.beq m n
 | _,_=>false
def eqU:Yb→Yb→Bool
 | [],[]=>true
 | a::l,b::r=>match Nat.beq a.toNat b.toNat with | true=>eqU l r | false=>false
 | _,_=>false
def eqK(a b:IntKind):Bool:=match decEq a b with | .isTrue _=>true | .isFalse _=>false
mutual
def eqV:Value→Value→Bool
 | .int k a,.int k' b=>match eqK k k' with | true=>eqI a b | false=>false
 | .bool a,.bool b=>match a,b with | true,true=>true | false,false=>true | _,_=>false
 | .string ⟨⟨a⟩⟩,.string ⟨⟨b⟩⟩=>eqU a b
 | .agg ⟨l⟩,.agg ⟨r⟩=>eqVL l r
 | .iface t a,.iface t' b=>match Nat.beq t t' with | true=>eqV a b | false=>false
 | .nilIface,.nilIface=>true
 | _,_=>false
def eqVL:E→E→Bool
 | [],[]=>true
 | a::l,b::r=>match eqV a b with | true=>eqVL l r | false=>false
 | _,_=>false
end
theorem eqI_spec{a b:Int}(h:eqI a b=true):a=b:=by
 unfold eqI at h;split at h
 ·rw[jah h]
 ·rw[jah h]
 ·cases h
theorem eqU_spec:∀{a b:Yb},eqU a b=true→a=b
 | [],[],_=>rfl
 | a::l,b::r,h=>by
  simp only[eqU]at h;split at h
  ·rename_i hb;rw[UInt8.toNat_inj.1 (jah hb),eqU_spec h]
  ·cases h
 | [],_::_,h=>by cases h
 | _::_,[],h=>by cases h
theorem eqK_spec{a b:IntKind}(h:eqK a b=true):a=b:=by
 unfold eqK at h;split at h
 ·assumption
 ·cases h
mutual
theorem eqV_spec:∀{a b:Value},eqV a b=true→a=b
 | .int k a,.int k' b,h=>by
  simp only[eqV]at h;split at h
  ·rename_i hk;rw[eqK_spec hk,eqI_spec h]
  ·cases h
 | .bool a,.bool b,h=>by cases a<;>cases b<;>first | rfl | cases h
 | .string ⟨⟨a⟩⟩,.string ⟨⟨b⟩⟩,h=>by
  simp only[eqV]at h;rw[eqU_spec h]
 | .agg ⟨l⟩,.agg ⟨r⟩,h=>by
  simp only[eqV]at h;rw[jfg h]
 | .iface t a,.iface t' b,h=>by
  simp only[eqV]at h;split at h
  ·rename_i ht;rw[jah ht,eqV_spec h]
  ·cases h
 | .nilIface,.nilIface,_=>rfl
theorem jfg:∀{a b:E},eqVL a b=true→a=b
 | [],[],_=>rfl
 | a::l,b::r,h=>by
  simp only[eqVL]at h;split at h
  ·rename_i hb;rw[eqV_spec hb,jfg h]
  ·cases h
 | [],_::_,h=>by cases h
 | _::_,[],h=>by cases h
end
def memo:List (E×Value)→Spec
 | []=>fun _ _=>none
 | (a,v)::r=>fun args bs=>match eqVL args a with | true=>some (true,v) | false=>memo r args bs
theorem jhz{args:E}{bs:O}{b:Bool}{v:Value}:∀{l:List (E×Value)},memo l args bs=some (b,v)→b=true∧(args,v)∈l
 | [],h=>by cases h
 | (a,u)::r,h=>by
  simp only[memo]at h;split at h
  ·rename_i ha;simp only[Option.some.injEq,Prod.mk.injEq]at h;exact⟨h.1.symm,by rw[jfg ha,h.2];exact List.mem_cons_self ..⟩
  ·obtain⟨h1,h2⟩:=jhz h;exact⟨h1,List.mem_cons_of_mem _ h2⟩
variable [Tabs]
def AllD(P:Program)(G:Env)(L:Nat→Option jb9)(fn:Func):List (E×Value)→Prop
 | []=>True
 | (a,v)::r=>ja0 P G L fn a v∧AllD P G L fn r
theorem AllD_mem{P:Program}{G:Env}{L:Nat→Option jb9}{fn:Func}{a:E}{v:Value}:∀{l:List (E×Value)},AllD P G L fn l→(a,v)∈l→ja0 P G L fn a v
 | (a',v')::r,h,hm=>by
  rcases List.mem_cons.1 hm with e | hm
  ·cases e;exact h.1
  ·exact AllD_mem h.2 hm
theorem jeg{P:Program}{G:Env}{L:Nat→Option jb9}{f:FuncId}{fn:Func}(hG:jaw P G)(hm:P.follows .mixedOrders=true)(hf:Fn1 P f fn)(hL:LOKf P L fn){l:List (E×Value)}
  (hp:(l.all fun x=>ja8 x.1&&Nat.ble x.1.length fn.ntmps)=true) (h:AllD P G L fn l):jam P f (memo l):=by
 refine jdc hG hm hf hL fun args bs v hs=> ?_
 obtain⟨_,hmem⟩:=jhz hs;have:=List.all_eq_true.1 hp _ hmem;simp only[jaf]at this;exact⟨this.1,jag this.2,AllD_mem h hmem⟩
def cj(p:Prop):Nat→Prop
 | 0=>p
 | n+1=>p∧cj p n
omit [Tabs] in
theorem cj_of{p:Prop}(h:p):∀n,cj p n
 | 0=>h
 | n+1=>⟨h,cj_of h n⟩
def SelfL:List (E×Value)→List Nat→Prop
 | [],_=>True
 | (_,v)::r,[]=>v=v∧SelfL r []
 | (_,v)::r,k::ks=>cj (v=v) k∧SelfL r ks
omit [Tabs] in
theorem jke:∀l ks,SelfL l ks
 | [],_=>trivial
 | (_,_)::r,[]=>⟨rfl,jke r []⟩
 | (_,_)::r,k::ks=>⟨cj_of rfl k,jke r ks⟩
def RunL(P:Program)(G:Env)(L:Nat→Option jb9)(fn:Func):List (E×Value)→Prop
 | []=>True
 | (a,v)::r=>jaz P G L fn a (fun _=>none) 0 (fun v' _ _=>v'=v)∧RunL P G L fn r
theorem allD_of{P:Program}{G:Env}{L:Nat→Option jb9}{fn:Func}:∀{l:List (E×Value)},RunL P G L fn l→AllD P G L fn l
 | [],_=>trivial
 | (_,_)::_,h=>⟨by rw[ja0];exact h.1,allD_of h.2⟩
theorem ja2(ks:List Nat){P:Program}{G:Env}{L:Nat→Option jb9}{f:FuncId}{fn:Func}(hG:jaw P G)(hm:P.follows .mixedOrders=true)(hf:Fn1 P f fn)(hL:LOKf P L fn){l:List (E×Value)}
  (hp:(l.all fun x=>ja8 x.1&&Nat.ble x.1.length fn.ntmps)=true) (h:RunL P G L fn l=SelfL l ks):jam P f (memo l):=
 jeg hG hm hf hL hp (allD_of (cast h.symm (jke l ks)))
end Go.Ab
end
noncomputable section
namespace Go.Cs
open Go Go.Ab Go.Proofs Go.Shelf Go.Px Go.Cx Go.RowKit
/-- The tables; lengths and characters are computed. -/
instance tabsC:Tabs:={row:=rowsT,plain:=tabs.plain,conc:=true}
theorem RelM.toT{N:Nat}{w0:World}{m:Lk}{ι:Nm}{w:World}(h: @RelM tabsC N w0 m ι w): @RelM tabs N w0 m ι w:=
 @RelM.mk tabs N w0 m ι w h.below h.base h.blk h.view h.inj
theorem RelM.toC{N:Nat}{w0:World}{m:Lk}{ι:Nm}{w:World}(h: @RelM tabs N w0 m ι w): @RelM tabsC N w0 m ι w:=
 @RelM.mk tabsC N w0 m ι w (@RelM.below tabs N w0 m ι w h) (@RelM.base tabs N w0 m ι w h) (@RelM.blk tabs N w0 m ι w h) (@RelM.view tabs N w0 m ι w h) (@RelM.inj tabs N w0 m ι w h)
theorem jda{f:FuncId}{s:Ab.Spec}(h: @jam tabs Tryz.prog f s): @jam tabsC Tryz.prog f s:=
 ⟨h.1,fun args v N w0 lk ι w hr hs hv=>h.2 args v N w0 lk ι w (RelM.toT hr) hs hv⟩
theorem pureT{f:FuncId}{s:Ab.Spec}(h: @jam tabsC Tryz.prog f s): @jam tabs Tryz.prog f s:=
 ⟨h.1,fun args v N w0 lk ι w hr hs hv=>h.2 args v N w0 lk ι w (RelM.toC hr) hs hv⟩
theorem pure_at{f:FuncId}{s:Ab.Spec}(h:jam Tryz.prog f s){l:List (E×Value)}(hl:∀a v,(a,v)∈l→ ∀bs,s a bs=some (true,v)):jam Tryz.prog f (memo l):=
 ⟨h.1,fun args v N w0 lk ι w hr hs hv=>h.2 args v N w0 lk ι w hr (hl _ _ (jhz hs).2 _) hv⟩
def s154(s t:Y):Bool×Value:=(oneB t&&asc (bz t),.string (sz (tlZ (bz s) ((bz t).getD 0 0))))
theorem ok154:jam Tryz.prog 154 (sp2 s154):=by
 have e:s154=Cx.s154:=by funext s t;simp only[s154,Cx.s154,jcw]
 rw[e];exact jda Cx.ok154
def s131(s t:Y):Bool×Value:=(decide (s.size≤9223372036854775807) && (oneB t&&asc (bz t)),.string (sz (trZ (bz s) ((bz t).getD 0 0))))
theorem ok131:jam Tryz.prog 131 (sp2 s131):=by
 have e:s131=Cx.s131:=by funext s t;simp only[s131,Cx.s131,jcw]
 rw[e];exact jda Cx.ok131
def s55(s t:Y):Bool×Value:=(decide (s.size≤9223372036854775807) && (decide (t.size≤1000) &&asc (bz t)),.string (sz (jch (bz s) (bz t))))
theorem ok55:jam Tryz.prog 55 (sp2 s55):=by
 have e:s55=Cx.s55:=by funext s t;simp only[s55,Cx.s55,jcw]
 rw[e];exact jda Cx.ok55
def s30(s:Y)(n:Int):Bool×Value:=(decide (0≤n∧n≤1000∧s.size≤1000),.string (sz (repZ (bz s) n.toNat)))
theorem ok30:jam Tryz.prog 30 (sp2 s30):=by
 have e:s30=Cx.s30:=by funext s n;simp only[s30,Cx.s30,jcw]
 rw[e];exact jda Cx.ok30
theorem dec1234:Lib.decDigits 1234=[49,50,51,52]:=by
 rw[Lib.decDigits,dif_neg (by decide),Lib.decDigits,dif_neg (by decide),Lib.decDigits_two (by decide) (by decide)];rfl
theorem dec1230:Lib.decDigits 1230=[49,50,51,48]:=by
 rw[Lib.decDigits,dif_neg (by decide),Lib.decDigits,dif_neg (by decide),Lib.decDigits_two (by decide) (by decide)];rfl
theorem dec150:Lib.decDigits 150=[49,53,48]:=by
 rw[Lib.decDigits,dif_neg (by decide),Lib.decDigits_two (by decide) (by decide)];rfl
theorem dec123:Lib.decDigits 123=[49,50,51]:=by
 rw[Lib.decDigits,dif_neg (by decide),Lib.decDigits_two (by decide) (by decide)];rfl
theorem dec234:Lib.decDigits 234=[50,51,52]:=by
 rw[Lib.decDigits,dif_neg (by decide),Lib.decDigits_two (by decide) (by decide)];rfl
theorem ito{n:Nat}{l:Yb}(h:Lib.decDigits n=l):Cx.s29 (n:Int)=(decide (-9223372036854775808≤(n:Int)∧(n:Int)≤9223372036854775807),.string ⟨l.toArray⟩):=by
 rw[Cx.s29,jcw,itoZ,Lib.itoa_nonneg,h,jhq]
theorem fmt{n:Nat}{l:Yb}(h:Lib.decDigits n=l):Px.s87 ⟨(n:Int)⟩ 10=(decide (0≤(n:Int)∧(n:Int)<18446744073709551616) &&isTen 10,.string ⟨l.toArray⟩):=by
 show(_,Value.string (sz (zl (Lib.decDigits (n:Int).toNat))))=_;rw[Int.toNat_natCast,h,jhq]
def m29:List (E×Value):=[([.int .i64 150],.string ⟨#[49,53,48]⟩),([.int .i64 123],.string ⟨#[49,50,51]⟩),([.int .i64 1234],.string ⟨#[49,50,51,52]⟩)]
theorem jkk{α:Type}{p:α→Prop}:∀{l:List α},(l.foldr (fun a q=>p a∧q) True)→ ∀a∈l,p a
 | _::_,h,_,ha=>by
  rcases List.mem_cons.1 ha with rfl | ha
  ·exact h.1
  ·exact jkk h.2 _ ha
theorem pk29:jam Tryz.prog 29 (memo m29):=pure_at (jda Cx.ok29) fun a v h bs=>by
 have:=jkk (p:=fun x:E×Value=>sp1 Cx.s29 x.1 bs=some (true,x.2)) (l:=m29) ⟨congrArg some (ito dec150),congrArg some (ito dec123),congrArg some (ito dec1234),trivial⟩ _ h;exact this
def m81:List (E×Value):=[([.int .u64 1230,.int .i64 10],.string ⟨#[49,50,51,48]⟩),([.int .u64 234,.int .i64 10],.string ⟨#[50,51,52]⟩)]
theorem pk81:jam Tryz.prog 81 (memo m81):=pure_at (jda Px.ok87) fun a v h bs=>by
 have:=jkk (p:=fun x:E×Value=>sp2 Px.s87 x.1 bs=some (true,x.2)) (l:=m81) ⟨congrArg some (fmt dec1230),congrArg some (fmt dec234),trivial⟩ _ h;exact this
theorem genC: @jcz tabsC Tryz.prog 100 h100:=by
 obtain⟨h1,h2⟩:= @gen100;refine⟨h1,fun args m n K hh N w0 ι w hrel hwf hargs=> ?_⟩;refine(h2 args m n K hh N w0 ι w (RelM.toT hrel) hwf hargs).mono fun e w' ⟨v,m',n',ι',h⟩=>⟨v,m',n',ι',h.1,h.2.1,h.2.2.1,h.2.2.2.1,RelM.toC h.2.2.2.2.1,h.2.2.2.2.2⟩
def S0:Env:=Env.nil
theorem ok_S0:jaw Tryz.prog S0:=jap
end Go.Cs
end
noncomputable section
set_option maxRecDepth 100000
set_option maxHeartbeats 3200000
namespace Go.Cs
open Go Go.Ab Go.Proofs Go.Px Go.Cx
theorem jco{row tail:E}{cap n:Nat}(h:jay tail cap n 1=true)(hr:Nat.beq row.length n=true):
  (Nat.beq (List.length (row++tail)) (cap*1) &&Nat.ble n cap&&Nat.ble cap 9223372036854775807&&true&&true)=true:=by
 simp only[jay,jaf]at h;obtain⟨⟨⟨_,h2⟩,h3⟩,h4⟩:=h;have hr:=jah hr;have h2:=jah h2
 have e:Nat.beq (List.length (row++tail)) (cap*1)=true:=by
  rw[List.length_append,hr,←h2,Nat.mul_one,Nat.add_comm];exact Nat.beq_refl _
 rw[e,h3,h4];rfl
theorem fn234:Fn1 Tryz.prog 234 Tryz.f234:= .m Tryz.func234
def B1:Env:=Env.nil.add 272 (sp2 Px.s141)
theorem ok_B1:jaw Tryz.prog B1:=jai jap (jda Px.ok141)
theorem fn235:Fn1 Tryz.prog 235 Tryz.f235:= .m Tryz.func235
def B2:Env:=(Env.nil.addG 234 (inlQ Tryz.prog S0 noL Tryz.f234)).addG 235 (inlQ Tryz.prog B1 noL Tryz.f235)
theorem ok_B2:jaw Tryz.prog B2:=jao (jao jap (jar ok_S0 hmix fn234 jak)) (jar ok_B1 hmix fn235 jak)
theorem fn188:Fn1 Tryz.prog 188 Tryz.f188:= .m Tryz.func188
def m188:List (E×Value):=[([.string ⟨#[90,90,57,86,46,57,57]⟩],.tuple ⟨[.string ⟨#[90,90,57,86,46,57,57]⟩,.bool true]⟩),([.string ⟨#[57,57,57]⟩],.tuple ⟨[.string ⟨#[57,57,57]⟩,.bool true]⟩),([.string ⟨#[65,65,57]⟩],.tuple ⟨[.string ⟨#[65,65,57]⟩,.bool true]⟩)]
def pg(a:E)(b:Nat)(f:Prop)(e:Value):Prop:=dv a b 1→(bif jh ([e]++a) b 1&&true then∀c:Nat,∀d:E,dv d c 2→ia (jh ([e,e]++d) c 2&&true) f else False)
def l9(c:Prop)(d:Value):Prop:=∀a:Nat,∀b:E,pg b a c d
def qn(a:E)(b:Nat)(o:Prop)(c d e f:Value):Prop:=dv a b 3→(bif jh ([c,c,d]++a) b 3&&true then∀g:Nat,∀h:E,dv h g 4→(bif jh ([c,c,d,e]++h) g 4&&true then∀i:Nat,∀j:E,dv j i 5→(bif jh ([c,c,d,e,f]++j) i 5&&true then∀k:Nat,∀l:E,dv l k 6→(bif jh ([c,c,d,e,f,d]++l) k 6&&true then∀m:Nat,∀n:E,dv n m 7→o else False)else False)else False)else False)
def g9(b:Yb)(a:UInt8):Value:= .string ⟨(a::b).toArray⟩
def o6:Value:=g9 [90,57,86,46,57,57] 90
theorem v188_0(R:Value→Prop):jaz Tryz.prog B2 noL Tryz.f188 [S ⟨#[90,90,57,86,46,57,57]⟩] (fun _=>none) 0 (fun v _ _=>R v)=(l9 (∀e:Nat,∀f:E,qn f e (R (du jb o6)) (al 90) (al 57) (al 86) (al 46)) (al 90)):=by kernel_rfl
theorem k188_0:ja0 Tryz.prog B2 noL Tryz.f188 [.string ⟨#[90,90,57,86,46,57,57]⟩] (.tuple ⟨[.string ⟨#[90,90,57,86,46,57,57]⟩,.bool true]⟩):=by
 rw[ja0,v188_0];delta ia jh dv pg l9 al qn du g9 o6 jb;intro c1 t1 h1;refine c_t (jco (row:=[.int .u8 90]) h1 rfl) ?_;intro c2 t2 h2;refine c_t (jco (row:=[.int .u8 90,.int .u8 90]) h2 rfl) ?_;intro c3 t3 h3;refine c_t (jco (row:=[.int .u8 90,.int .u8 90,.int .u8 57]) h3 rfl) ?_;intro c4 t4 h4;refine c_t (jco (row:=[.int .u8 90,.int .u8 90,.int .u8 57,.int .u8 86]) h4 rfl) ?_;intro c5 t5 h5;refine c_t (jco (row:=[.int .u8 90,.int .u8 90,.int .u8 57,.int .u8 86,.int .u8 46]) h5 rfl) ?_;intro c6 t6 h6;refine c_t (jco (row:=[.int .u8 90,.int .u8 90,.int .u8 57,.int .u8 86,.int .u8 46,.int .u8 57]) h6 rfl) ?_;intro c7 t7 h7;rfl
def f8(a b c:UInt8):Value:= .string ⟨#[a,b,c]⟩
theorem v188_1(R:Value→Prop):jaz Tryz.prog B2 noL Tryz.f188 [S ⟨#[57,57,57]⟩] (fun _=>none) 0 (fun v _ _=>R v)=(l9 (∀e:Nat,∀f:E,dv f e 3→R (du jb (f8 57 57 57))) (al 57)):=by kernel_rfl
theorem k188_1:ja0 Tryz.prog B2 noL Tryz.f188 [.string ⟨#[57,57,57]⟩] (.tuple ⟨[.string ⟨#[57,57,57]⟩,.bool true]⟩):=by
 rw[ja0,v188_1];delta ia jh dv pg l9 al du f8 jb;intro c1 t1 h1;refine c_t (jco (row:=[.int .u8 57]) h1 rfl) ?_;intro c2 t2 h2;refine c_t (jco (row:=[.int .u8 57,.int .u8 57]) h2 rfl) ?_;intro c3 t3 h3;rfl
theorem v188_2(R:Value→Prop):jaz Tryz.prog B2 noL Tryz.f188 [S ⟨#[65,65,57]⟩] (fun _=>none) 0 (fun v _ _=>R v)=(l9 (∀e:Nat,∀f:E,dv f e 3→R (du jb (f8 65 65 57))) (al 65)):=by kernel_rfl
theorem k188_2:ja0 Tryz.prog B2 noL Tryz.f188 [.string ⟨#[65,65,57]⟩] (.tuple ⟨[.string ⟨#[65,65,57]⟩,.bool true]⟩):=by
 rw[ja0,v188_2];delta ia jh dv pg l9 al du f8 jb;intro c1 t1 h1;refine c_t (jco (row:=[.int .u8 65]) h1 rfl) ?_;intro c2 t2 h2;refine c_t (jco (row:=[.int .u8 65,.int .u8 65]) h2 rfl) ?_;intro c3 t3 h3;rfl
theorem pk188:jam Tryz.prog 188 (memo m188):=jeg ok_B2 hmix fn188 jak (by kernel_rfl) ⟨k188_0,k188_1,k188_2,trivial⟩
def B3:Env:=Env.nil.add 272 (sp2 Px.s141)
theorem ok_B3:jaw Tryz.prog B3:=jai jap (jda Px.ok141)
theorem fn281:Fn1 Tryz.prog 281 Tryz.f281:= .m Tryz.func281
def B4:Env:=(((Env.nil.add 272 (sp2 Px.s141)).add 279 (sp2 Px.s157)).add 129 (sp2 s132)).add 280 (sp2 s280)
theorem ok_B4:jaw Tryz.prog B4:=jai (jai (jai (jai jap (jda Px.ok141)) (jda Px.ok157)) (jda ok132)) (jda ok280)
theorem fn244:Fn1 Tryz.prog 244 Tryz.f244:= .m Tryz.func244
def B5:Env:=Env.nil.addG 281 (inlQ Tryz.prog B3 noL Tryz.f281)
theorem ok_B5:jaw Tryz.prog B5:=jao jap (jar ok_B3 hmix fn281 jak)
theorem fn245:Fn1 Tryz.prog 245 Tryz.f245:= .m Tryz.func245
def B6:Env:=Env.nil
theorem ok_B6:jaw Tryz.prog B6:=jap
theorem fn246:Fn1 Tryz.prog 246 Tryz.f246:= .m Tryz.func246
def B7:Env:=Env.nil.add 272 (sp2 Px.s141)
theorem ok_B7:jaw Tryz.prog B7:=jai jap (jda Px.ok141)
theorem fn247:Fn1 Tryz.prog 247 Tryz.f247:= .m Tryz.func247
def B8:Env:=((((((Env.nil.add 129 (sp2 s132)).add 130 (sp2 s130)).add 203 (sp2 s102)).addG 244 (inlQ Tryz.prog B4 noL Tryz.f244)).addG 245 (inlQ Tryz.prog B5 noL Tryz.f245)).addG 246 (inlQ Tryz.prog B6 noL Tryz.f246)).addG 247 (inlQ Tryz.prog B7 noL Tryz.f247)
theorem ok_B8:jaw Tryz.prog B8:=jao (jao (jao (jao (jai (jai (jai jap (jda ok132)) (jda ok130)) (jda ok102)) (jar ok_B4 hmix fn244 jak)) (jar ok_B5 hmix fn245 jak)) (jar ok_B6 hmix fn246 jak)) (jar ok_B7 hmix fn247 jak)
theorem fn204:Fn1 Tryz.prog 204 Tryz.f204:= .m Tryz.func204
def B9:Env:=(((Env.nil.add 55 (sp2 s55)).add 203 (sp2 s102)).add 188 (memo m188)).addG 204 (inlQ Tryz.prog B8 noL Tryz.f204)
theorem ok_B9:jaw Tryz.prog B9:=jao (jai (jai (jai jap ok55) (jda ok102)) pk188) (jar ok_B8 hmix fn204 jak)
theorem fn145:Fn1 Tryz.prog 145 Tryz.f145:= .m Tryz.func145
def B10:Env:=Env.nil.addG 145 (inlQ Tryz.prog B9 noL Tryz.f145)
theorem ok_B10:jaw Tryz.prog B10:=jao jap (jar ok_B9 hmix fn145 jak)
theorem fn113:Fn1 Tryz.prog 113 Tryz.f113:= .m Tryz.func113
def m113:List (E×Value):=[([.string ⟨#[90,90,57,86,46,57,57]⟩],.tuple ⟨[.agg ⟨[.string ⟨#[90,90,57,86,46,57,57]⟩,.bool true,.int .i64 6,.int .i64 5,.int .i64 2,.bool false]⟩,.int .i64 0]⟩),([.string ⟨#[57,57,57]⟩],.tuple ⟨[.agg ⟨[.string ⟨#[57,57,57]⟩,.bool true,.int .i64 3,.int .i64 3,.int .i64 0,.bool false]⟩,.int .i64 0]⟩),([.string ⟨#[65,65,57]⟩],.tuple ⟨[.agg ⟨[.string ⟨#[65,65,57]⟩,.bool false,.int .i64 3,.int .i64 0,.int .i64 0,.bool false]⟩,.int .i64 0]⟩)]
theorem v113_0(R:Value→Prop):jaz Tryz.prog B10 noL Tryz.f113 [S ⟨#[90,90,57,86,46,57,57]⟩] (fun _=>none) 0 (fun v _ _=>R v)=(∀a:Nat,jf 7 a→l9 (∀f:Nat,∀g:E,qn g f (∀p:Nat,jf 7 p→R (f0 (o6::B true::ak 6::ak 5::ak 2::jw) (ak 0))) (ak 1) (ak 0) (ak 2) (ak 3)) (ak 1)):=by kernel_rfl
theorem k113_0:ja0 Tryz.prog B10 noL Tryz.f113 [.string ⟨#[90,90,57,86,46,57,57]⟩] (.tuple ⟨[.agg ⟨[.string ⟨#[90,90,57,86,46,57,57]⟩,.bool true,.int .i64 6,.int .i64 5,.int .i64 2,.bool false]⟩,.int .i64 0]⟩):=by
 rw[ja0,v113_0];delta ia jh dv pg l9 ak qn b9 ku f0 jw g9 o6 jf;intro c1 h1;intro c2 t2 h2;refine c_t (jco (row:=[.int .i64 1]) h2 rfl) ?_;intro c3 t3 h3;refine c_t (jco (row:=[.int .i64 1,.int .i64 1]) h3 rfl) ?_;intro c4 t4 h4;refine c_t (jco (row:=[.int .i64 1,.int .i64 1,.int .i64 0]) h4 rfl) ?_;intro c5 t5 h5;refine c_t (jco (row:=[.int .i64 1,.int .i64 1,.int .i64 0,.int .i64 2]) h5 rfl) ?_;intro c6 t6 h6;refine c_t (jco (row:=[.int .i64 1,.int .i64 1,.int .i64 0,.int .i64 2,.int .i64 3]) h6 rfl) ?_;intro c7 t7 h7;refine c_t (jco (row:=[.int .i64 1,.int .i64 1,.int .i64 0,.int .i64 2,.int .i64 3,.int .i64 0]) h7 rfl) ?_;intro c8 t8 h8;intro c9 h9;rfl
theorem v113_1(R:Value→Prop):jaz Tryz.prog B10 noL Tryz.f113 [S ⟨#[57,57,57]⟩] (fun _=>none) 0 (fun v _ _=>R v)=(∀a:Nat,jf 3 a→l9 (∀f:Nat,∀g:E,dv g f 3→(∀h:Nat,jf 3 h→R (f0 (f8 57 57 57::B true::ak 3::ak 3::ak 0::jw) (ak 0)))) (ak 0)):=by kernel_rfl
theorem k113_1:ja0 Tryz.prog B10 noL Tryz.f113 [.string ⟨#[57,57,57]⟩] (.tuple ⟨[.agg ⟨[.string ⟨#[57,57,57]⟩,.bool true,.int .i64 3,.int .i64 3,.int .i64 0,.bool false]⟩,.int .i64 0]⟩):=by
 rw[ja0,v113_1];delta ia jh dv pg l9 ak b9 ku f0 jw f8 jf;intro c1 h1;intro c2 t2 h2;refine c_t (jco (row:=[.int .i64 0]) h2 rfl) ?_;intro c3 t3 h3;refine c_t (jco (row:=[.int .i64 0,.int .i64 0]) h3 rfl) ?_;intro c4 t4 h4;intro c5 h5;rfl
theorem v113_2(R:Value→Prop):jaz Tryz.prog B10 noL Tryz.f113 [S ⟨#[65,65,57]⟩] (fun _=>none) 0 (fun v _ _=>R v)=(R (.tuple ⟨[.agg ⟨[S ⟨#[65,65,57]⟩,B false,I 3,I 0,I 0,B false]⟩,I 0]⟩)):=by kernel_rfl
theorem pk113:jam Tryz.prog 113 (memo m113):=jeg ok_B10 hmix fn113 jak (by kernel_rfl) ⟨k113_0,k113_1,by rw[ja0,v113_2],trivial⟩
def B11:Env:=Env.nil.add 113 (memo m113)
theorem ok_B11:jaw Tryz.prog B11:=jai jap pk113
theorem fn67:Fn1 Tryz.prog 67 Tryz.f67:= .m Tryz.func67
def m67:List (E×Value):=[([.string ⟨#[90,90,57,86,46,57,57]⟩],.int .i64 0),([.string ⟨#[57,57,57]⟩],.int .i64 0),([.string ⟨#[65,65,57]⟩],.int .i64 0)]
theorem pk67:jam Tryz.prog 67 (memo m67):=ja2 [] ok_B11 hmix fn67 jak (by kernel_rfl) (by kernel_rfl)
def B12:Env:=Env.nil.add 113 (memo m113)
theorem ok_B12:jaw Tryz.prog B12:=jai jap pk113
theorem fn61:Fn1 Tryz.prog 61 Tryz.f61:= .m Tryz.func61
def m61:List (E×Value):=[([.string ⟨#[90,90,57,86,46,57,57]⟩],.tuple ⟨[.agg ⟨[.int .i64 1,.int .i64 5,.int .i64 2,.bool false,.string ⟨#[]⟩]⟩,.int .i64 0]⟩),([.string ⟨#[57,57,57]⟩],.tuple ⟨[.agg ⟨[.int .i64 1,.int .i64 3,.int .i64 0,.bool false,.string ⟨#[]⟩]⟩,.int .i64 0]⟩),([.string ⟨#[65,65,57]⟩],.tuple ⟨[.agg ⟨[.int .i64 3,.int .i64 3,.int .i64 0,.bool false,.string ⟨#[]⟩]⟩,.int .i64 0]⟩)]
theorem pk61:jam Tryz.prog 61 (memo m61):=ja2 [] ok_B12 hmix fn61 jak (by kernel_rfl) (by kernel_rfl)
def B13:Env:=Env.nil.addG 145 (inlQ Tryz.prog B9 noL Tryz.f145)
theorem ok_B13:jaw Tryz.prog B13:=jao jap (jar ok_B9 hmix fn145 jak)
theorem fn136:Fn1 Tryz.prog 136 Tryz.f136:= .m Tryz.func136
def B14:Env:=Env.nil.addG 136 (inlQ Tryz.prog B13 noL Tryz.f136)
theorem ok_B14:jaw Tryz.prog B14:=jao jap (jar ok_B13 hmix fn136 jak)
theorem fn59:Fn1 Tryz.prog 59 Tryz.f59:= .m Tryz.func59
def m59:List (E×Value):=[([.string ⟨#[90,90,57,86,46,57,57]⟩],.bool true),([.string ⟨#[57,57,57]⟩],.bool true),([.string ⟨#[65,65,57]⟩],.bool false)]
def jg(a b:E)(c d e:Nat):Bool:=(a++b).length.beq (c*d) &&e.ble c&&c.ble 9223372036854775807&&true&&true
def ma(e:E)(a b d:Nat)(f:Prop):Prop:=∀c:E,iy c a b d→ia (jg e c a d b) f
def mt(a b c d:Int):E:=[ak a,ak b,ak c,ak d]
theorem v59_0(R:Value→Prop):jaz Tryz.prog B14 noL Tryz.f59 [S ⟨#[90,90,57,86,46,57,57]⟩] (fun _=>none) 0 (fun v _ _=>R v)=(∀a:Nat,jf 7 a→(∀b:Nat,ma [ak 1] b 1 1 (∀d:Nat,∀e:E,dv e d 2→(bif jg [ak 1,ak 1] e d 1 2 then∀f:Nat,∀g:E,dv g f 3→(bif jg [ak 1,ak 1,ak 0] g f 1 3 then∀h:Nat,∀i:E,dv i h 4→(bif jg (mt 1 1 0 2) i h 1 4 then∀j:Nat,∀k:E,dv k j 5→(bif jg (ak 1::mt 1 0 2 3) k j 1 5 then∀l:Nat,∀m:E,dv m l 6→(bif jg (ak 1::ak 1::mt 0 2 3 0) m l 1 6 then∀n:Nat,∀o:E,dv o n 7→(∀p:Nat,jf 7 p→R (B true))else False)else False)else False)else False)else False)))):=by kernel_rfl
theorem k59_0:ja0 Tryz.prog B14 noL Tryz.f59 [.string ⟨#[90,90,57,86,46,57,57]⟩] (.bool true):=by
 rw[ja0,v59_0];delta ia jg iy ma jf dv ak mt;intro c1 h1;intro c2 t2 h2;refine c_t (jco (row:=[.int .i64 1]) h2 rfl) ?_;intro c3 t3 h3;refine c_t (jco (row:=[.int .i64 1,.int .i64 1]) h3 rfl) ?_;intro c4 t4 h4;refine c_t (jco (row:=[.int .i64 1,.int .i64 1,.int .i64 0]) h4 rfl) ?_;intro c5 t5 h5;refine c_t (jco (row:=[.int .i64 1,.int .i64 1,.int .i64 0,.int .i64 2]) h5 rfl) ?_;intro c6 t6 h6;refine c_t (jco (row:=[.int .i64 1,.int .i64 1,.int .i64 0,.int .i64 2,.int .i64 3]) h6 rfl) ?_;intro c7 t7 h7;refine c_t (jco (row:=[.int .i64 1,.int .i64 1,.int .i64 0,.int .i64 2,.int .i64 3,.int .i64 0]) h7 rfl) ?_;intro c8 t8 h8;intro c9 h9;rfl
def qo(a:Nat)(c:Prop):Prop:=jf 3 a→(∀b:Nat,ma [ak 0] b 1 1 (∀d:Nat,∀e:E,iy e d 2 1→(bif jg [ak 0,ak 0] e d 1 2 then∀f:Nat,∀g:E,iy g f 3 1→(∀h:Nat,jf 3 h→c)else False)))
theorem v59_1(R:Value→Prop):jaz Tryz.prog B14 noL Tryz.f59 [S ⟨#[57,57,57]⟩] (fun _=>none) 0 (fun v _ _=>R v)=(∀a:Nat,qo a (R (B true))):=by kernel_rfl
theorem k59_1:ja0 Tryz.prog B14 noL Tryz.f59 [.string ⟨#[57,57,57]⟩] (.bool true):=by
 rw[ja0,v59_1];delta ia jg iy ma jf ak qo;intro c1 h1;intro c2 t2 h2;refine c_t (jco (row:=[.int .i64 0]) h2 rfl) ?_;intro c3 t3 h3;refine c_t (jco (row:=[.int .i64 0,.int .i64 0]) h3 rfl) ?_;intro c4 t4 h4;intro c5 h5;rfl
theorem v59_2(R:Value→Prop):jaz Tryz.prog B14 noL Tryz.f59 [S ⟨#[65,65,57]⟩] (fun _=>none) 0 (fun v _ _=>R v)=(R (B false)):=by kernel_rfl
theorem pk59:jam Tryz.prog 59 (memo m59):=jeg ok_B14 hmix fn59 jak (by kernel_rfl) ⟨k59_0,k59_1,by rw[ja0,v59_2],trivial⟩
def B15:Env:=Env.nil
theorem ok_B15:jaw Tryz.prog B15:=jap
theorem fn147:Fn1 Tryz.prog 147 Tryz.f147:= .m Tryz.func147
def B16:Env:=(((Env.nil.add 154 (sp2 s154)).add 55 (sp2 s55)).add 30 (sp2 s30)).add 81 (memo m81)
theorem ok_B16:jaw Tryz.prog B16:=jai (jai (jai (jai jap ok154) ok55) ok30) pk81
theorem fn225:Fn1 Tryz.prog 225 Tryz.f225:= .m Tryz.func225
def B17:Env:=Env.nil
theorem ok_B17:jaw Tryz.prog B17:=jap
theorem fn287:Fn1 Tryz.prog 287 Tryz.f287:= .m Tryz.func287
def B18:Env:=Env.nil
theorem ok_B18:jaw Tryz.prog B18:=jap
theorem fn288:Fn1 Tryz.prog 288 Tryz.f288:= .m Tryz.func288
def B19:Env:=Env.nil.add 55 (sp2 s55)
theorem ok_B19:jaw Tryz.prog B19:=jai jap ok55
theorem fn251:Fn1 Tryz.prog 251 Tryz.f251:= .m Tryz.func251
def B20:Env:=(Env.nil.addG 287 (inlQ Tryz.prog B17 noL Tryz.f287)).addG 288 (inlQ Tryz.prog B18 noL Tryz.f288)
theorem ok_B20:jaw Tryz.prog B20:=jao (jao jap (jar ok_B17 hmix fn287 jak)) (jar ok_B18 hmix fn288 jak)
theorem fn252:Fn1 Tryz.prog 252 Tryz.f252:= .m Tryz.func252
def B21:Env:=Env.nil.addG 287 (inlQ Tryz.prog B17 noL Tryz.f287)
theorem ok_B21:jaw Tryz.prog B21:=jao jap (jar ok_B17 hmix fn287 jak)
theorem fn253:Fn1 Tryz.prog 253 Tryz.f253:= .m Tryz.func253
def B22:Env:=Env.nil
theorem ok_B22:jaw Tryz.prog B22:=jap
theorem fn254:Fn1 Tryz.prog 254 Tryz.f254:= .m Tryz.func254
def B23:Env:=Env.nil
theorem ok_B23:jaw Tryz.prog B23:=jap
theorem fn255:Fn1 Tryz.prog 255 Tryz.f255:= .m Tryz.func255
def B24:Env:=Env.nil
theorem ok_B24:jaw Tryz.prog B24:=jap
theorem fn256:Fn1 Tryz.prog 256 Tryz.f256:= .m Tryz.func256
def B25:Env:=((((((Env.nil.add 30 (sp2 s30)).addG 251 (inlQ Tryz.prog B19 noL Tryz.f251)).addG 252 (inlQ Tryz.prog B20 noL Tryz.f252)).addG 253 (inlQ Tryz.prog B21 noL Tryz.f253)).addG 254 (inlQ Tryz.prog B22 noL Tryz.f254)).addG 255 (inlQ Tryz.prog B23 noL Tryz.f255)).addG 256 (inlQ Tryz.prog B24 noL Tryz.f256)
theorem ok_B25:jaw Tryz.prog B25:=jao (jao (jao (jao (jao (jao (jai jap ok30) (jar ok_B19 hmix fn251 jak)) (jar ok_B20 hmix fn252 jak)) (jar ok_B21 hmix fn253 jak)) (jar ok_B22 hmix fn254 jak)) (jar ok_B23 hmix fn255 jak)) (jar ok_B24 hmix fn256 jak)
theorem fn207:Fn1 Tryz.prog 207 Tryz.f207:= .m Tryz.func207
def B26:Env:=((Env.nil.addG 136 (inlQ Tryz.prog B13 noL Tryz.f136)).addG 225 (inlQ Tryz.prog B16 noL Tryz.f225)).addG 207 (inlQ Tryz.prog B25 noL Tryz.f207)
theorem ok_B26:jaw Tryz.prog B26:=jao (jao (jao jap (jar ok_B13 hmix fn136 jak)) (jar ok_B16 hmix fn225 jak)) (jar ok_B25 hmix fn207 jak)
theorem fn171:Fn1 Tryz.prog 171 Tryz.f171:= .m Tryz.func171
def m171:List (E×Value):=[([.int .i64 1230,.int .i64 2,.string ⟨#[90,90,57,86,46,57,57]⟩],.tuple ⟨[.string ⟨#[32,49,50,46,51,48]⟩,.bool true,.int .i64 0]⟩),([.int .i64 234,.int .i64 0,.string ⟨#[57,57,57]⟩],.tuple ⟨[.string ⟨#[50,51,52]⟩,.bool true,.int .i64 0]⟩)]
def qp(b e:Int)(c f:E)(a d g:Nat)(i:Value)(h:Value→Prop):Prop:=∀w:Nat,ma (al b::c) w a 1 (∀y:Nat,∀z:E,iy z y d 1→(bif jg (al b::al e::f) z y 1 d then∀aa:Nat,∀ab:E,iy ab aa g 1→h (du [.bool true,ak 0] i)else False))
theorem v171_0(R:Value→Prop):jaz Tryz.prog B26 noL Tryz.f171 [I 1230,I 2,S ⟨#[90,90,57,86,46,57,57]⟩] (fun _=>none) 0 (fun v _ _=>R v)=(∀a:Nat,jf 7 a→(∀b:Nat,ma [ak 1] b 1 1 (∀d:Nat,∀e:E,iy e d 2 1→(bif jg [ak 1,ak 1] e d 1 2 then∀f:Nat,∀g:E,iy g f 3 1→(bif jg [ak 1,ak 1,ak 0] g f 1 3 then∀h:Nat,∀i:E,iy i h 4 1→(bif jg (mt 1 1 0 2) i h 1 4 then∀j:Nat,∀k:E,iy k j 5 1→(bif jg (ak 1::mt 1 0 2 3) k j 1 5 then∀l:Nat,∀m:E,iy m l 6 1→(bif jg (ak 1::ak 1::mt 0 2 3 0) m l 1 6 then∀n:Nat,∀o:E,iy o n 7 1→(∀p:Nat,jf 7 p→(∀q:Nat,∀r:E,iy r q 1 1→(bif jg [al 32] r q 1 1 then∀s:Nat,∀t:E,iy t s 2 1→(bif jg [al 32,al 49] t s 1 2 then∀u:Nat,∀v:E,iy v u 3 1→(bif jg [al 32,al 49,al 50] v u 1 3 then qp 32 49 [al 49,al 50,al 46] [al 50,al 46,al 51] 4 5 6 (g9 [49,50,46,51,48] 32) R else False)else False)else False)))else False)else False)else False)else False)else False)))):=by kernel_rfl
theorem k171_0:ja0 Tryz.prog B26 noL Tryz.f171 [.int .i64 1230,.int .i64 2,.string ⟨#[90,90,57,86,46,57,57]⟩] (.tuple ⟨[.string ⟨#[32,49,50,46,51,48]⟩,.bool true,.int .i64 0]⟩):=by
 rw[ja0,v171_0];delta ia jg iy ma du ak al qp g9 jf mt;intro c1 h1;intro c2 t2 h2;refine c_t (jco (row:=[.int .i64 1]) h2 rfl) ?_;intro c3 t3 h3;refine c_t (jco (row:=[.int .i64 1,.int .i64 1]) h3 rfl) ?_;intro c4 t4 h4;refine c_t (jco (row:=[.int .i64 1,.int .i64 1,.int .i64 0]) h4 rfl) ?_;intro c5 t5 h5;refine c_t (jco (row:=[.int .i64 1,.int .i64 1,.int .i64 0,.int .i64 2]) h5 rfl) ?_;intro c6 t6 h6;refine c_t (jco (row:=[.int .i64 1,.int .i64 1,.int .i64 0,.int .i64 2,.int .i64 3]) h6 rfl) ?_;intro c7 t7 h7;refine c_t (jco (row:=[.int .i64 1,.int .i64 1,.int .i64 0,.int .i64 2,.int .i64 3,.int .i64 0]) h7 rfl) ?_;intro c8 t8 h8;intro c9 h9;intro c10 t10 h10;refine c_t (jco (row:=[.int .u8 32]) h10 rfl) ?_;intro c11 t11 h11;refine c_t (jco (row:=[.int .u8 32,.int .u8 49]) h11 rfl) ?_;intro c12 t12 h12;refine c_t (jco (row:=[.int .u8 32,.int .u8 49,.int .u8 50]) h12 rfl) ?_;intro c13 t13 h13;refine c_t (jco (row:=[.int .u8 32,.int .u8 49,.int .u8 50,.int .u8 46]) h13 rfl) ?_;intro c14 t14 h14;refine c_t (jco (row:=[.int .u8 32,.int .u8 49,.int .u8 50,.int .u8 46,.int .u8 51]) h14 rfl) ?_;intro c15 t15 h15;rfl
theorem v171_1(R:Value→Prop):jaz Tryz.prog B26 noL Tryz.f171 [I 234,I 0,S ⟨#[57,57,57]⟩] (fun _=>none) 0 (fun v _ _=>R v)=(∀a:Nat,qo a (qp 50 51 [] [] 1 2 3 (f8 50 51 52) R)):=by kernel_rfl
theorem k171_1:ja0 Tryz.prog B26 noL Tryz.f171 [.int .i64 234,.int .i64 0,.string ⟨#[57,57,57]⟩] (.tuple ⟨[.string ⟨#[50,51,52]⟩,.bool true,.int .i64 0]⟩):=by
 rw[ja0,v171_1];delta ia jg iy ma jf ak qo du al qp f8;intro c1 h1;intro c2 t2 h2;refine c_t (jco (row:=[.int .i64 0]) h2 rfl) ?_;intro c3 t3 h3;refine c_t (jco (row:=[.int .i64 0,.int .i64 0]) h3 rfl) ?_;intro c4 t4 h4;intro c5 h5;intro c6 t6 h6;refine c_t (jco (row:=[.int .u8 50]) h6 rfl) ?_;intro c7 t7 h7;refine c_t (jco (row:=[.int .u8 50,.int .u8 51]) h7 rfl) ?_;intro c8 t8 h8;rfl
theorem pk171:jam Tryz.prog 171 (memo m171):=jeg ok_B26 hmix fn171 jak (by kernel_rfl) ⟨k171_0,k171_1,trivial⟩
def B27:Env:=(Env.nil.addG 145 (inlQ Tryz.prog B9 noL Tryz.f145)).addG 147 (inlQ Tryz.prog B15 noL Tryz.f147)
theorem ok_B27:jaw Tryz.prog B27:=jao (jao jap (jar ok_B9 hmix fn145 jak)) (jar ok_B15 hmix fn147 jak)
theorem fn72:Fn1 Tryz.prog 72 Tryz.f72:= .m Tryz.func72
def m72:List (E×Value):=[([.string ⟨#[65,65,57]⟩,.string ⟨#[97,49,49]⟩],.bool false)]
theorem v72_0(R:Value→Prop):jaz Tryz.prog B27 noL Tryz.f72 [S ⟨#[65,65,57]⟩,S ⟨#[97,49,49]⟩] (fun _=>none) 0 (fun v _ _=>R v)=(∀c1:Nat,Nat.ble 3 c1=true→R (B false)):=by kernel_rfl
theorem k72_0:ja0 Tryz.prog B27 noL Tryz.f72 [.string ⟨#[65,65,57]⟩,.string ⟨#[97,49,49]⟩] (.bool false):=by
 rw[ja0,v72_0];intro c1 h1;rfl
theorem pk72:jam Tryz.prog 72 (memo m72):=jeg ok_B27 hmix fn72 jak (by kernel_rfl) ⟨k72_0,trivial⟩
def B28:Env:=((Env.nil.add 30 (sp2 s30)).addG 145 (inlQ Tryz.prog B9 noL Tryz.f145)).addG 207 (inlQ Tryz.prog B25 noL Tryz.f207)
theorem ok_B28:jaw Tryz.prog B28:=jao (jao (jai jap ok30) (jar ok_B9 hmix fn145 jak)) (jar ok_B25 hmix fn207 jak)
theorem fn176:Fn1 Tryz.prog 176 Tryz.f176:= .m Tryz.func176
def m176:List (E×Value):=[([.string ⟨#[65,65,57]⟩],.tuple ⟨[.string ⟨#[32,32,32]⟩,.int .i64 0]⟩)]
theorem pk176:jam Tryz.prog 176 (memo m176):=ja2 [] ok_B28 hmix fn176 jak (by kernel_rfl) (by kernel_rfl)
def A5:Env:=(Env.nil.add 67 (memo m67)).add 66 (sp1 Cx.s66)
theorem ok_A5:jaw Tryz.prog A5:=jai (jai jap pk67) (jda Cx.ok66)
theorem fn20:Fn1 Tryz.prog 20 Tryz.f20:= .m Tryz.func20
def iz(a b c d:Int):Prod E Value:=([dl a b c],ak d)
def lw(a:UInt8):Value:= .agg ⟨[ak 5,ak 0,ak 0,.bool false,f8 a a 57]⟩
def pp:Value:= .agg ⟨[ak 5,ak 0,ak 0,.bool false,o6]⟩
def m20:List (E×Value):=[iz 1 4 2 0,iz 3 3 0 0,iz 1 3 0 0,iz 2 15 0 0,iz 4 1 0 0,iz 4 3 0 0,iz 3 5 0 0,iz 1 3 1 0,([pp],ak 0),iz 1 4 0 0,([lw 57],ak 0),([lw 65],ak 0),iz 3 256 0 5,iz 4 64 0 0]
theorem pk20:jam Tryz.prog 20 (memo m20):=ja2 [0,1,0,0,0,0,1,0,0,0,0,0,1] ok_A5 hmix fn20 jak (by kernel_rfl) (by kernel_rfl)
def A6:Env:=Env.nil
theorem ok_A6:jaw Tryz.prog A6:=jap
theorem fn191:Fn1 Tryz.prog 191 Tryz.f191:= .m Tryz.func191
def m191:List (E×Value):=[([],b9 (ak 1::ak 10::ak 100::ak 1000::ak 10000::ak 100000::ak 1000000::ak 10000000::ak 100000000::ak 1000000000::ak 10000000000::ak 100000000000::ak 1000000000000::ak 10000000000000::ak 100000000000000::mt 1000000000000000 10000000000000000 100000000000000000 1000000000000000000))]
theorem pk191:jam Tryz.prog 191 (memo m191):=ja2 [] ok_A6 hmix fn191 jak (by kernel_rfl) (by kernel_rfl)
def A7:Env:=Env.nil.add 191 (memo m191)
theorem ok_A7:jaw Tryz.prog A7:=jai jap pk191
theorem fn144:Fn1 Tryz.prog 144 Tryz.f144:= .m Tryz.func144
def m144:List (E×Value):=[iz 1 4 2 10000,iz 2 15 0 32768,iz 1 3 1 1000,iz 1 4 0 10000]
theorem pk144:jam Tryz.prog 144 (memo m144):=ja2 [] ok_A7 hmix fn144 jak (by kernel_rfl) (by kernel_rfl)
def A8:Env:=(Env.nil.add 66 (sp1 Cx.s66)).add 144 (memo m144)
theorem ok_A8:jaw Tryz.prog A8:=jai (jai jap (jda Cx.ok66)) pk144
theorem fn70:Fn1 Tryz.prog 70 Tryz.f70:= .m Tryz.func70
def io(a:Int):Value:= .agg ⟨[ak a,cu]⟩
def qr:E:=[b9 [.int .i64 (-150),cu],dl 1 4 2]
def m70:List (E×Value):=[(qr,ak 0),([io 1,dl 2 15 0],ak 0),([io 123,dl 1 3 1],ak 0),([io 1234,dl 1 4 0],ak 0)]
theorem pk70:jam Tryz.prog 70 (memo m70):=ja2 [] ok_A8 hmix fn70 jak (by kernel_rfl) (by kernel_rfl)
def A9:Env:=Env.nil.add 55 (sp2 s55)
theorem ok_A9:jaw Tryz.prog A9:=jai jap ok55
theorem fn71:Fn1 Tryz.prog 71 Tryz.f71:= .m Tryz.func71
def m71:List (E×Value):=[([.string ⟨#[49,48,49]⟩],.bool true),([.string ⟨#[50]⟩],.bool false)]
theorem pk71:jam Tryz.prog 71 (memo m71):=ja2 [] ok_A9 hmix fn71 jak (by kernel_rfl) (by kernel_rfl)
def A10:Env:=(((Env.nil.add 72 (memo m72)).add 20 (memo m20)).add 70 (memo m70)).add 71 (memo m71)
theorem ok_A10:jaw Tryz.prog A10:=jai (jai (jai (jai jap pk72) pk20) pk70) pk71
theorem fn22:Fn1 Tryz.prog 22 Tryz.f22:= .m Tryz.func22
def jn(a b c:UInt8):Value:= .agg ⟨[ak 0,f8 a b c]⟩
def m22:List (E×Value):=[(qr,ak 0),([jn 49 50 120,dl 3 3 0],ak 0),([io 1,dl 2 15 0],ak 0),([jn 49 48 49,dl 4 3 0],ak 0),([io 123,dl 1 3 1],ak 0),([io 1234,dl 1 4 0],ak 0),([jn 97 49 49,dl 3 3 0],ak 0),([b9 [ak 0,g9 [] 50],dl 4 1 0],ak 6)]
theorem pk22:jam Tryz.prog 22 (memo m22):=ja2 [] ok_A10 hmix fn22 jak (by kernel_rfl) (by kernel_rfl)
def A11:Env:=(Env.nil.add 154 (sp2 s154)).add 131 (sp2 s131)
theorem ok_A11:jaw Tryz.prog A11:=jai (jai jap ok154) ok131
theorem fn77:Fn1 Tryz.prog 77 Tryz.f77:= .m Tryz.func77
def o7(a:Yb)(b:Value):E:=[.bool false,g9 (50::a) 49,b]
def oq(b:Int)(a:Yb):Array Value:=⟨o7 (51::52::a) (ak b)⟩
def o8:E:=[.bool false,f8 49 50 51,ak 1]
def m77:List (E×Value):=[([.bool true,g9 [48,49,50,53,48] 48,ak 2],b9 [.bool true,f8 49 50 53,ak 1]),(o7 [48,48] (ak 0),b9 (o7 [] (.int .i64 (-2)))),(o8,b9 o8),(o7 [51,52] (ak 0),.agg (oq 0 []))]
theorem pk77:jam Tryz.prog 77 (memo m77):=ja2 [] ok_A11 hmix fn77 jak (by kernel_rfl) (by kernel_rfl)
def A12:Env:=Env.nil.add 55 (sp2 s55)
theorem ok_A12:jaw Tryz.prog A12:=jai jap ok55
theorem fn84:Fn1 Tryz.prog 84 Tryz.f84:= .m Tryz.func84
def m84:List (E×Value):=[([.agg (oq 2 [53])],.bool true),([b9 o8],.bool true),([.agg (oq 0 [])],.bool true)]
theorem pk84:jam Tryz.prog 84 (memo m84):=ja2 [] ok_A12 hmix fn84 jak (by kernel_rfl) (by kernel_rfl)
def A13:Env:=(Env.nil.add 154 (sp2 s154)).add 30 (sp2 s30)
theorem ok_A13:jaw Tryz.prog A13:=jai (jai jap ok154) ok30
theorem fn86:Fn1 Tryz.prog 86 Tryz.f86:= .m Tryz.func86
def m86:List (E×Value):=[([.agg (oq 2 [53]),ak 1],g9 [50,51,52] 49),([b9 o8,ak 2],g9 [50,51,48] 49),([.agg (oq 0 []),ak 0],g9 [50,51,52] 49)]
theorem pk86:jam Tryz.prog 86 (memo m86):=ja2 [] ok_A13 hmix fn86 jak (by kernel_rfl) (by kernel_rfl)
def A14:Env:=((Env.nil.add 85 (sp1 Cx.s85)).add 84 (memo m84)).add 86 (memo m86)
theorem ok_A14:jaw Tryz.prog A14:=jai (jai (jai jap (jda Cx.ok85)) pk84) pk86
theorem fn26:Fn1 Tryz.prog 26 Tryz.f26:= .m Tryz.func26
def m26:List (E×Value):=[([.agg (oq 2 [53]),dl 1 3 1],gn ao 234 1 (ak 0)),([b9 o8,dl 1 5 2],gn ao 1230 0 (ak 0)),([.agg (oq 0 []),dl 1 3 0],gn ao 234 1 (ak 0))]
theorem pk26:jam Tryz.prog 26 (memo m26):=ja2 [] ok_A14 hmix fn26 jak (by kernel_rfl) (by kernel_rfl)
def A15:Env:=Env.nil.add 59 (memo m59)
theorem ok_A15:jaw Tryz.prog A15:=jai jap pk59
theorem fn97:Fn1 Tryz.prog 97 Tryz.f97:= .m Tryz.func97
def lj(b c d:Int)(a:Value):Value:= .iface 174 (b9 [a,ak b,ak c,ak d,.bool false,cu])
def m97:List (E×Value):=[(qr,lj 1 4 2 (.int .i64 (-150))),([jn 49 50 120,dl 3 3 0],.iface 178 (f8 49 50 120)),([io 1,dl 2 15 0],lj 2 15 0 (ak 1)),([jn 49 48 49,dl 4 3 0],.iface 175 (f8 49 48 49)),([io 123,dl 1 3 1],lj 1 3 1 (ak 123)),([io 1234,dl 1 4 0],lj 1 4 0 (ak 1234)),([jn 97 49 49,dl 3 3 0],.iface 178 (f8 97 49 49))]
theorem pk97:jam Tryz.prog 97 (memo m97):=ja2 [] ok_A15 hmix fn97 jak (by kernel_rfl) (by kernel_rfl)
def A16:Env:=Env.nil
theorem ok_A16:jaw Tryz.prog A16:=jap
theorem fn112:Fn1 Tryz.prog 112 Tryz.f112:= .m Tryz.func112
def m112:List (E×Value):=[iz 1 4 2 7,iz 1 3 1 6]
theorem pk112:jam Tryz.prog 112 (memo m112):=ja2 [] ok_A16 hmix fn112 jak (by kernel_rfl) (by kernel_rfl)
def A17:Env:=((Env.nil.add 30 (sp2 s30)).add 29 (memo m29)).add 112 (memo m112)
theorem ok_A17:jaw Tryz.prog A17:=jai (jai (jai jap ok30) pk29) pk112
theorem fn321:Fn1 Tryz.prog 321 Tryz.f321:= .m Tryz.func321
def m321:List (E×Value):=[([.agg ⟨[.int .i64 (-150),.int .i64 1,.int .i64 4,.int .i64 2,.bool false,.string ⟨#[]⟩]⟩],.string ⟨#[32,32,45,49,46,53,48]⟩)]
theorem pk321:jam Tryz.prog 321 (memo m321):=ja2 [] ok_A17 hmix fn321 jak (by kernel_rfl) (by kernel_rfl)
def A18:Env:=Env.nil
theorem ok_A18:jaw Tryz.prog A18:=jap
theorem fn322:Fn1 Tryz.prog 322 Tryz.f322:= .m Tryz.func322
def m322:List (E×Value):=[([.string ⟨#[49,48,49]⟩],.string ⟨#[49,48,49]⟩)]
theorem pk322:jam Tryz.prog 322 (memo m322):=ja2 [] ok_A18 hmix fn322 jak (by kernel_rfl) (by kernel_rfl)
def A19:Env:=Env.nil
theorem ok_A19:jaw Tryz.prog A19:=jap
theorem fn324:Fn1 Tryz.prog 324 Tryz.f324:= .m Tryz.func324
def m324:List (E×Value):=[([.string ⟨#[49,50,120]⟩],.string ⟨#[49,50,120]⟩),([.string ⟨#[97,49,49]⟩],.string ⟨#[97,49,49]⟩)]
theorem pk324:jam Tryz.prog 324 (memo m324):=ja2 [] ok_A19 hmix fn324 jak (by kernel_rfl) (by kernel_rfl)
def A20:Env:=((((Env.nil.add 22 (memo m22)).add 97 (memo m97)).add 321 (memo m321)).add 322 (memo m322)).add 324 (memo m324)
theorem ok_A20:jaw Tryz.prog A20:=jai (jai (jai (jai (jai jap pk22) pk97) pk321) pk322) pk324
theorem fn32:Fn1 Tryz.prog 32 Tryz.f32:= .m Tryz.func32
def m32:List (E×Value):=[(qr,du [ak 0] (g9 [32,45,49,46,53,48] 32))]
theorem pk32:jam Tryz.prog 32 (memo m32):=ja2 [] ok_A20 hmix fn32 jak (by kernel_rfl) (by kernel_rfl)
def A21:Env:=Env.nil
theorem ok_A21:jaw Tryz.prog A21:=jap
theorem fn153:Fn1 Tryz.prog 153 Tryz.f153:= .m Tryz.func153
def A22:Env:=Env.nil
theorem ok_A22:jaw Tryz.prog A22:=jap
theorem fn214:Fn1 Tryz.prog 214 Tryz.f214:= .m Tryz.func214
def A23:Env:=Env.nil
theorem ok_A23:jaw Tryz.prog A23:=jap
theorem fn215:Fn1 Tryz.prog 215 Tryz.f215:= .m Tryz.func215
def A24:Env:=Env.nil
theorem ok_A24:jaw Tryz.prog A24:=jap
theorem fn76:Fn1 Tryz.prog 76 Tryz.f76:= .m Tryz.func76
def A25:Env:=((((Env.nil.add 152 (sp1 Cx.s152)).add 213 (sp1 Cx.s213)).addG 153 (inlQ Tryz.prog A21 noL Tryz.f153)).addG 214 (inlQ Tryz.prog A22 noL Tryz.f214)).addG 215 (inlQ Tryz.prog A23 noL Tryz.f215)
theorem ok_A25:jaw Tryz.prog A25:=jao (jao (jao (jai (jai jap (jda Cx.ok152)) (jda Cx.ok213)) (jar ok_A21 hmix fn153 jak)) (jar ok_A22 hmix fn214 jak)) (jar ok_A23 hmix fn215 jak)
theorem fn212:Fn1 Tryz.prog 212 Tryz.f212:= .m Tryz.func212
def A26:Env:=(((Env.nil.add 152 (sp1 Cx.s152)).add 213 (sp1 Cx.s213)).addG 214 (inlQ Tryz.prog A22 noL Tryz.f214)).addG 215 (inlQ Tryz.prog A23 noL Tryz.f215)
theorem ok_A26:jaw Tryz.prog A26:=jao (jao (jai (jai jap (jda Cx.ok152)) (jda Cx.ok213)) (jar ok_A22 hmix fn214 jak)) (jar ok_A23 hmix fn215 jak)
theorem fn263:Fn1 Tryz.prog 263 Tryz.f263:= .m Tryz.func263
def A27:Env:=(Env.nil.add 152 (sp1 Cx.s152)).addG 215 (inlQ Tryz.prog A23 noL Tryz.f215)
theorem ok_A27:jaw Tryz.prog A27:=jao (jai jap (jda Cx.ok152)) (jar ok_A23 hmix fn215 jak)
theorem fn264:Fn1 Tryz.prog 264 Tryz.f264:= .m Tryz.func264
def A28:Env:=((((((((Env.nil.add 152 (sp1 Cx.s152)).add 321 (memo m321)).add 322 (memo m322)).add 324 (memo m324)).addG 153 (inlQ Tryz.prog A21 noL Tryz.f153)).addG 76 (inlQ Tryz.prog A24 noL Tryz.f76)).addG 212 (inlQ Tryz.prog A25 noL Tryz.f212)).addG 263 (inlQ Tryz.prog A26 noL Tryz.f263)).addG 264 (inlQ Tryz.prog A27 noL Tryz.f264)
theorem ok_A28:jaw Tryz.prog A28:=jao (jao (jao (jao (jao (jai (jai (jai (jai jap (jda Cx.ok152)) pk321) pk322) pk324) (jar ok_A21 hmix fn153 jak)) (jar ok_A24 hmix fn76 jak)) (jar ok_A25 hmix fn212 jak)) (jar ok_A26 hmix fn263 jak)) (jar ok_A27 hmix fn264 jak)
theorem fn151:Fn1 Tryz.prog 151 Tryz.f151:= .m Tryz.func151
def A29:Env:=(((((((((Env.nil.add 55 (sp2 s55)).add 77 (memo m77)).add 321 (memo m321)).add 322 (memo m322)).add 324 (memo m324)).addG 76 (inlQ Tryz.prog A24 noL Tryz.f76)).addG 212 (inlQ Tryz.prog A25 noL Tryz.f212)).addG 263 (inlQ Tryz.prog A26 noL Tryz.f263)).addG 264 (inlQ Tryz.prog A27 noL Tryz.f264)).addG 151 (inlQ Tryz.prog A28 noL Tryz.f151)
theorem ok_A29:jaw Tryz.prog A29:=jao (jao (jao (jao (jao (jai (jai (jai (jai (jai jap ok55) pk77) pk321) pk322) pk324) (jar ok_A24 hmix fn76 jak)) (jar ok_A25 hmix fn212 jak)) (jar ok_A26 hmix fn263 jak)) (jar ok_A27 hmix fn264 jak)) (jar ok_A28 hmix fn151 jak)
theorem fn24:Fn1 Tryz.prog 24 Tryz.f24:= .m Tryz.func24
def m24:List (E×Value):=[([g9 [32,45,48,48,49,50,46,53,48,32] 32],f0 [.bool true,f8 49 50 53,ak 1] (.bool true)),([g9 [50,48,48] 49],f0 (o7 [] (.int .i64 (-2))) (.bool true)),([g9 [69,49,50,51] 49],l7),([f8 49 50 120],l7)]
theorem pk24:jam Tryz.prog 24 (memo m24):=ja2 [] ok_A29 hmix fn24 jak (by kernel_rfl) (by kernel_rfl)
def A30:Env:=(((((((((Env.nil.add 29 (memo m29)).add 77 (memo m77)).add 321 (memo m321)).add 322 (memo m322)).add 324 (memo m324)).addG 212 (inlQ Tryz.prog A25 noL Tryz.f212)).addG 263 (inlQ Tryz.prog A26 noL Tryz.f263)).addG 264 (inlQ Tryz.prog A27 noL Tryz.f264)).addG 151 (inlQ Tryz.prog A28 noL Tryz.f151)).add 24 (memo m24)
theorem ok_A30:jaw Tryz.prog A30:=jai (jao (jao (jao (jao (jai (jai (jai (jai (jai jap pk29) pk77) pk321) pk322) pk324) (jar ok_A25 hmix fn212 jak)) (jar ok_A26 hmix fn263 jak)) (jar ok_A27 hmix fn264 jak)) (jar ok_A28 hmix fn151 jak)) pk24
theorem fn222:Fn1 Tryz.prog 222 Tryz.f222:= .m Tryz.func222
def m222:List (E×Value):=[([.iface 178 (f8 49 50 120)],f0 kr (.iface 119 (b9 [f8 49 50 120]))),([lj 1 3 1 (ak 123)],f0 o8 Value.nilIface),([lj 1 4 0 (ak 1234)],f0 (o7 [51,52] (ak 0)) Value.nilIface)]
theorem pk222:jam Tryz.prog 222 (memo m222):=ja2 [] ok_A30 hmix fn222 jak (by kernel_rfl) (by kernel_rfl)
def A31:Env:=(Env.nil.add 26 (memo m26)).add 222 (memo m222)
theorem ok_A31:jaw Tryz.prog A31:=jai (jai jap pk26) pk222
theorem fn168:Fn1 Tryz.prog 168 Tryz.f168:= .m Tryz.func168
def sf(a b c:UInt8)(d:Value):Prod E Value:=([.iface 178 (f8 a b c),d],gn ao 0 0 (.iface 119 (b9 [f8 a b c])))
def m168:List (E×Value):=[sf 49 50 120 (dl 1 3 0),([lj 1 3 1 (ak 123),dl 1 5 2],gn ao 1230 0 Value.nilIface),([lj 1 4 0 (ak 1234),dl 1 3 0],gn ao 234 1 Value.nilIface)]
theorem pk168:jam Tryz.prog 168 (memo m168):=ja2 [] ok_A31 hmix fn168 jak (by kernel_rfl) (by kernel_rfl)
def A32:Env:=Env.nil
theorem ok_A32:jaw Tryz.prog A32:=jap
theorem fn115:Fn1 Tryz.prog 115 Tryz.f115:= .m Tryz.func115
def m115:List (E×Value):=[iz 2 15 0 15,iz 1 3 0 10]
theorem pk115:jam Tryz.prog 115 (memo m115):=ja2 [] ok_A32 hmix fn115 jak (by kernel_rfl) (by kernel_rfl)
def A33:Env:=Env.nil
theorem ok_A33:jaw Tryz.prog A33:=jap
theorem fn223:Fn1 Tryz.prog 223 Tryz.f223:= .m Tryz.func223
def m223:List (E×Value):=[([.int .i64 1,.int .i64 15],.string ⟨#[48,48,48,48,48,48,48,48,48,48,48,48,48,48,49]⟩)]
theorem pk223:jam Tryz.prog 223 (memo m223):=ja2 [] ok_A33 hmix fn223 jak (by kernel_rfl) (by kernel_rfl)
def A34:Env:=Env.nil.add 30 (sp2 s30)
theorem ok_A34:jaw Tryz.prog A34:=jai jap ok30
theorem fn169:Fn1 Tryz.prog 169 Tryz.f169:= .m Tryz.func169
def m169:List (E×Value):=[([g9 [48,48,48,48,48,48,48,48,48,48,48,48,48,49] 48,ak 1,g9 [] 48],g9 [] 48),([f8 49 48 49,ak 5,g9 [] 32],g9 [48,49,32,32] 49),([f8 97 49 49,ak 3,g9 [] 32],f8 97 49 49)]
theorem pk169:jam Tryz.prog 169 (memo m169):=ja2 [] ok_A34 hmix fn169 jak (by kernel_rfl) (by kernel_rfl)
def A35:Env:=(((((((((Env.nil.add 71 (memo m71)).add 321 (memo m321)).add 322 (memo m322)).add 324 (memo m324)).addG 212 (inlQ Tryz.prog A25 noL Tryz.f212)).addG 263 (inlQ Tryz.prog A26 noL Tryz.f263)).addG 264 (inlQ Tryz.prog A27 noL Tryz.f264)).addG 151 (inlQ Tryz.prog A28 noL Tryz.f151)).add 115 (memo m115)).add 223 (memo m223)
theorem ok_A35:jaw Tryz.prog A35:=jai (jai (jao (jao (jao (jao (jai (jai (jai (jai jap pk71) pk321) pk322) pk324) (jar ok_A25 hmix fn212 jak)) (jar ok_A26 hmix fn263 jak)) (jar ok_A27 hmix fn264 jak)) (jar ok_A28 hmix fn151 jak)) pk115) pk223
theorem fn170:Fn1 Tryz.prog 170 Tryz.f170:= .m Tryz.func170
def m170:List (E×Value):=[([lj 2 15 0 (ak 1)],du [Value.nilIface] (g9 [48,48,48,48,48,48,48,48,48,48,48,48,48,49] 48))]
theorem pk170:jam Tryz.prog 170 (memo m170):=ja2 [] ok_A35 hmix fn170 jak (by kernel_rfl) (by kernel_rfl)
def A36:Env:=(((((((((((((Env.nil.add 61 (memo m61)).add 59 (memo m59)).add 171 (memo m171)).add 72 (memo m72)).add 321 (memo m321)).add 322 (memo m322)).add 324 (memo m324)).addG 212 (inlQ Tryz.prog A25 noL Tryz.f212)).addG 263 (inlQ Tryz.prog A26 noL Tryz.f263)).addG 264 (inlQ Tryz.prog A27 noL Tryz.f264)).addG 151 (inlQ Tryz.prog A28 noL Tryz.f151)).add 168 (memo m168)).add 169 (memo m169)).add 170 (memo m170)
theorem ok_A36:jaw Tryz.prog A36:=jai (jai (jai (jao (jao (jao (jao (jai (jai (jai (jai (jai (jai (jai jap pk61) pk59) pk171) pk72) pk321) pk322) pk324) (jar ok_A25 hmix fn212 jak)) (jar ok_A26 hmix fn263 jak)) (jar ok_A27 hmix fn264 jak)) (jar ok_A28 hmix fn151 jak)) pk168) pk169) pk170
theorem fn99:Fn1 Tryz.prog 99 Tryz.f99:= .m Tryz.func99
def m99:List (E×Value):=[sf 49 50 120 (dl 1 3 0),([lj 2 15 0 (ak 1),dl 4 1 0],gn d9 0 0 Value.nilIface),([.iface 175 (f8 49 48 49),dl 3 5 0],gn ⟨#[49,48,49,32,32]⟩ 0 0 Value.nilIface),([lj 1 3 1 (ak 123),pp],gn ⟨#[32,49,50,46,51,48]⟩ 0 0 Value.nilIface),([lj 1 4 0 (ak 1234),lw 57],gn ⟨#[50,51,52]⟩ 0 1 Value.nilIface),sf 97 49 49 (lw 65)]
theorem pk99:jam Tryz.prog 99 (memo m99):=ja2 [0,0,0,0,0,2] ok_A36 hmix fn99 jak (by kernel_rfl) (by kernel_rfl)
def A37:Env:=(Env.nil.add 30 (sp2 s30)).add 176 (memo m176)
theorem ok_A37:jaw Tryz.prog A37:=jai (jai jap ok30) pk176
theorem fn101:Fn1 Tryz.prog 101 Tryz.f101:= .m Tryz.func101
def m101:List (E×Value):=[([dl 1 3 0],io 0),([lw 65],jn 32 32 32)]
theorem pk101:jam Tryz.prog 101 (memo m101):=ja2 [] ok_A37 hmix fn101 jak (by kernel_rfl) (by kernel_rfl)
def A38:Env:=(((((Env.nil.addG 100 h100).add 20 (memo m20)).add 22 (memo m22)).add 97 (memo m97)).add 99 (memo m99)).add 101 (memo m101)
theorem ok_A38:jaw Tryz.prog A38:=jai (jai (jai (jai (jai (jao jap genC) pk20) pk22) pk97) pk99) pk101
theorem fn34:Fn1 Tryz.prog 34 Tryz.f34:= .m Tryz.func34
def m34:List (E×Value):=[([jn 49 50 120,dl 3 3 0,dl 1 3 0],gn ao 0 4 (ak 0)),([io 1,dl 2 15 0,dl 4 1 0],gn d9 0 0 (ak 0)),([jn 49 48 49,dl 4 3 0,dl 3 5 0],gn ⟨#[49,48,49,32,32]⟩ 0 0 (ak 0)),([io 123,dl 1 3 1,pp],gn ⟨#[32,49,50,46,51,48]⟩ 0 0 (ak 0)),([io 1234,dl 1 4 0,lw 57],gn ⟨#[50,51,52]⟩ 0 1 (ak 0)),([jn 97 49 49,dl 3 3 0,lw 65],gn ⟨#[32,32,32]⟩ 0 4 (ak 0))]
theorem pk34:jam Tryz.prog 34 (memo m34):=ja2 [] ok_A38 hmix fn34 jak (by kernel_rfl) (by kernel_rfl)
def A39:Env:=Env.nil.add 34 (memo m34)
theorem ok_A39:jaw Tryz.prog A39:=jai jap pk34
theorem fn48:Fn1 Tryz.prog 48 Tryz.f48:= .m Tryz.func48
def m48:List (E×Value):=[([jn 49 50 120,dl 3 3 0,dl 1 3 0,io 0,ak 4],.bool true),([io 1,dl 2 15 0,dl 4 1 0,b9 [ak 0,g9 [] 48],ak 0],.bool true),([jn 49 48 49,dl 4 3 0,dl 3 5 0,b9 [ak 0,g9 [48,49,32,32] 49],ak 0],.bool true),([io 123,dl 1 3 1,pp,b9 [ak 0,g9 [49,50,46,51,48] 32],ak 0],.bool true),([io 1234,dl 1 4 0,lw 57,jn 50 51 52,ak 1],.bool true),([jn 97 49 49,dl 3 3 0,lw 65,jn 32 32 32,ak 4],.bool true)]
theorem pk48:jam Tryz.prog 48 (memo m48):=ja2 [] ok_A39 hmix fn48 jak (by kernel_rfl) (by kernel_rfl)
def A40:Env:=Env.nil.add 20 (memo m20)
theorem ok_A40:jaw Tryz.prog A40:=jai jap pk20
theorem fn108:Fn1 Tryz.prog 108 Tryz.f108:= .m Tryz.func108
def m108:List (E×Value):=[iz 4 3 0 0,iz 1 3 1 0,iz 1 3 0 0,iz 2 15 0 0]
theorem pk108:jam Tryz.prog 108 (memo m108):=ja2 [] ok_A40 hmix fn108 jak (by kernel_rfl) (by kernel_rfl)
def A41:Env:=(((Env.nil.add 61 (memo m61)).add 59 (memo m59)).add 85 (sp1 Cx.s85)).add 108 (memo m108)
theorem ok_A41:jaw Tryz.prog A41:=jai (jai (jai (jai jap pk61) pk59) (jda Cx.ok85)) pk108
theorem fn38:Fn1 Tryz.prog 38 Tryz.f38:= .m Tryz.func38
def o9(a b c d e f:Int):Prod E Value:=([dl a b c],du [ak 0] (dl d e f))
def m38:List (E×Value):=[o9 4 3 0 2 31 0,o9 1 3 1 1 3 1,o9 2 15 0 2 15 0]
theorem pk38:jam Tryz.prog 38 (memo m38):=ja2 [] ok_A41 hmix fn38 jak (by kernel_rfl) (by kernel_rfl)
def A42:Env:=((Env.nil.add 113 (memo m113)).add 112 (memo m112)).add 108 (memo m108)
theorem ok_A42:jaw Tryz.prog A42:=jai (jai (jai jap pk113) pk112) pk108
theorem fn40:Fn1 Tryz.prog 40 Tryz.f40:= .m Tryz.func40
def m40:List (E×Value):=[o9 1 3 1 3 6 0]
theorem pk40:jam Tryz.prog 40 (memo m40):=ja2 [] ok_A42 hmix fn40 jak (by kernel_rfl) (by kernel_rfl)
def A43:Env:=(((Env.nil.add 61 (memo m61)).add 85 (sp1 Cx.s85)).add 115 (memo m115)).add 108 (memo m108)
theorem ok_A43:jaw Tryz.prog A43:=jai (jai (jai (jai jap pk61) (jda Cx.ok85)) pk115) pk108
theorem fn42:Fn1 Tryz.prog 42 Tryz.f42:= .m Tryz.func42
def m42:List (E×Value):=[o9 1 3 0 4 10 0]
theorem pk42:jam Tryz.prog 42 (memo m42):=ja2 [] ok_A43 hmix fn42 jak (by kernel_rfl) (by kernel_rfl)
def A44:Env:=Env.nil.add 66 (sp1 Cx.s66)
theorem ok_A44:jaw Tryz.prog A44:=jai jap (jda Cx.ok66)
theorem fn117:Fn1 Tryz.prog 117 Tryz.f117:= .m Tryz.func117
def m117:List (E×Value):=[o9 1 3 1 2 11 0]
theorem pk117:jam Tryz.prog 117 (memo m117):=ja2 [] ok_A44 hmix fn117 jak (by kernel_rfl) (by kernel_rfl)
def A45:Env:=Env.nil
theorem ok_A45:jaw Tryz.prog A45:=jap
theorem fn53:Fn1 Tryz.prog 53 Tryz.f53:= .m Tryz.func53
def m53:List (E×Value):=[([.int .i64 (-150)],b9 [.int .i64 (-150),cu]),([ak 0],io 0),([ak 1],io 1),([ak 123],io 123),([ak 1234],io 1234),([ak 234],io 234)]
theorem pk53:jam Tryz.prog 53 (memo m53):=ja2 [] ok_A45 hmix fn53 jak (by kernel_rfl) (by kernel_rfl)
def A46:Env:=Env.nil
theorem ok_A46:jaw Tryz.prog A46:=jap
theorem fn65:Fn1 Tryz.prog 65 Tryz.f65:= .m Tryz.func65
def m65:List (E×Value):=[([ak 3,ak 1],dl 1 3 1),([ak 4,ak 2],dl 1 4 2),([ak 3,ak 0],dl 1 3 0),([ak 4,ak 0],dl 1 4 0)]
theorem pk65:jam Tryz.prog 65 (memo m65):=ja2 [] ok_A46 hmix fn65 jak (by kernel_rfl) (by kernel_rfl)
def A47:Env:=Env.nil
theorem ok_A47:jaw Tryz.prog A47:=jap
theorem fn50:Fn1 Tryz.prog 50 Tryz.f50:= .m Tryz.func50
def lx(a b:Int):Prod E Value:=([ak a],dl b a 0)
def m50:List (E×Value):=[lx 15 2,lx 11 2,lx 31 2]
theorem pk50:jam Tryz.prog 50 (memo m50):=ja2 [] ok_A47 hmix fn50 jak (by kernel_rfl) (by kernel_rfl)
def A48:Env:=Env.nil
theorem ok_A48:jaw Tryz.prog A48:=jap
theorem fn51:Fn1 Tryz.prog 51 Tryz.f51:= .m Tryz.func51
def m51:List (E×Value):=[lx 1 4,lx 3 4,lx 10 4,lx 64 4]
theorem pk51:jam Tryz.prog 51 (memo m51):=ja2 [] ok_A48 hmix fn51 jak (by kernel_rfl) (by kernel_rfl)
def A49:Env:=Env.nil
theorem ok_A49:jaw Tryz.prog A49:=jap
theorem fn54:Fn1 Tryz.prog 54 Tryz.f54:= .m Tryz.func54
def m54:List (E×Value):=[lx 3 3,lx 5 3,lx 6 3,lx 256 3]
theorem pk54:jam Tryz.prog 54 (memo m54):=ja2 [] ok_A49 hmix fn54 jak (by kernel_rfl) (by kernel_rfl)
def A50:Env:=Env.nil
theorem ok_A50:jaw Tryz.prog A50:=jap
theorem fn60:Fn1 Tryz.prog 60 Tryz.f60:= .m Tryz.func60
def m60:List (E×Value):=[([o6],pp),([f8 57 57 57],lw 57),([f8 65 65 57],lw 65)]
theorem pk60:jam Tryz.prog 60 (memo m60):=ja2 [] ok_A50 hmix fn60 jak (by kernel_rfl) (by kernel_rfl)
def A51:Env:=Env.nil
theorem ok_A51:jaw Tryz.prog A51:=jap
theorem fn52:Fn1 Tryz.prog 52 Tryz.f52:= .m Tryz.func52
def qs(a:Yb)(b:UInt8):Prod E Value:=([g9 a b],b9 [ak 0,g9 a b])
def m52:List (E×Value):=[([f8 49 50 120],jn 49 50 120),qs [] 48,([f8 49 48 49],jn 49 48 49),qs [48,49,32,32] 49,qs [49,50,46,51,48] 32,([f8 50 51 52],jn 50 51 52),([f8 97 49 49],jn 97 49 49),([f8 32 32 32],jn 32 32 32),qs [] 50]
theorem pk52:jam Tryz.prog 52 (memo m52):=ja2 [] ok_A51 hmix fn52 jak (by kernel_rfl) (by kernel_rfl)
def A52:Env:=(((((((((((((Env.nil.add 59 (memo m59)).add 85 (sp1 Cx.s85)).add 20 (memo m20)).add 321 (memo m321)).add 322 (memo m322)).add 324 (memo m324)).addG 212 (inlQ Tryz.prog A25 noL Tryz.f212)).addG 263 (inlQ Tryz.prog A26 noL Tryz.f263)).addG 264 (inlQ Tryz.prog A27 noL Tryz.f264)).addG 151 (inlQ Tryz.prog A28 noL Tryz.f151)).add 38 (memo m38)).add 40 (memo m40)).add 42 (memo m42)).add 117 (memo m117)
theorem ok_A52:jaw Tryz.prog A52:=jai (jai (jai (jai (jao (jao (jao (jao (jai (jai (jai (jai (jai (jai jap pk59) (jda Cx.ok85)) pk20) pk321) pk322) pk324) (jar ok_A25 hmix fn212 jak)) (jar ok_A26 hmix fn263 jak)) (jar ok_A27 hmix fn264 jak)) (jar ok_A28 hmix fn151 jak)) pk38) pk40) pk42) pk117
theorem fn44:Fn1 Tryz.prog 44 Tryz.f44:= .m Tryz.func44
def A53:Env:=Env.nil
theorem ok_A53:jaw Tryz.prog A53:=jap
theorem fn46:Fn1 Tryz.prog 46 Tryz.f46:= .m Tryz.func46
def L46:E:=[.int .i64 2,.int .i64 11,.int .i64 0,.bool false,.string ⟨#[]⟩,.int .i64 2,.int .i64 15,.int .i64 0,.bool false,.string ⟨#[]⟩]
def s46c:Ab.Spec:=fun args bs=>match args,bs with
 | [.slice (some ⟨_,0,some 1⟩) 2 _,.slice (some ⟨_,0,some 1⟩) 2 _],[some ⟨l1,_,_⟩,some ⟨l2,_,_⟩]=>match eqVL (l1.take 10) L46&&eqVL (l2.take 10) L46 with
  | true=>some (ja8 l1&&ja8 l2,.bool true)
  | false=>none
 | _,_=>none
def vwT(c d:E)(t u:TypeId):Lk:=fun k=>match k with | 0=>some ⟨c,t,false⟩ | 1=>some ⟨d,u,false⟩ | _=>none
theorem v46(r1 r2:E)(t u:TypeId)(c1 c2:Nat)(R:Value→Prop):jaz Tryz.prog A53 noL Tryz.f46 [.slice (some ⟨0,0,some 1⟩) 2 c1,.slice (some ⟨1,0,some 1⟩) 2 c2] (vwT (L46++r1) (L46++r2) t u) 2 (fun v _ _=>R v)=R (B true):=by kernel_rfl
theorem pk46:jam Tryz.prog 46 s46c:=by
 refine pure_viewQ ok_A53 hmix fn46 jak fun args bs v hs=> ?_
 unfold s46c at hs;split at hs
 case h_2=>cases hs
 rename_i k1 c1 k2 c2 l1 t1 o1 l2 t2 o2;split at hs
 case h_2=>cases hs
 rename_i hq;simp only[Option.some.injEq,Prod.mk.injEq,jaf]at hs hq;obtain⟨⟨p1,p2⟩,rfl⟩:=hs;obtain⟨q1,q2⟩:=hq;have e1:l1=L46++l1.drop 10:=by rw[←jfg q1,List.take_append_drop]
 have e2:l2=L46++l2.drop 10:=by rw[←jfg q2,List.take_append_drop]
 refine⟨[.slice (some ⟨0,0,some 1⟩) 2 c1,.slice (some ⟨1,0,some 1⟩) 2 c2],2,rfl,rfl,jag,?_⟩
 have e:jkc [some ⟨l1,t1,o1⟩,some ⟨l2,t2,o2⟩]=vwT (L46++l1.drop 10) (L46++l2.drop 10) t1 t2:=by
  funext k;rw[←e1,←e2]
  match k with
  | 0=>simp only[jkc,view1,p1,vwT]
  | 1=>simp only[jkc,view1,p2,vwT]
  | k+2=>rfl
 rw[DoesVQ,e,v46]
def A54:Env:=(((((((((((((((((Env.nil.add 20 (memo m20)).add 22 (memo m22)).add 26 (memo m26)).add 32 (memo m32)).add 24 (memo m24)).add 48 (memo m48)).add 38 (memo m38)).add 40 (memo m40)).add 42 (memo m42)).add 53 (memo m53)).add 65 (memo m65)).add 50 (memo m50)).add 51 (memo m51)).add 54 (memo m54)).add 60 (memo m60)).add 52 (memo m52)).addG 44 (inlQ Tryz.prog A52 noL Tryz.f44)).add 46 (s46c)
theorem ok_A54:jaw Tryz.prog A54:=jai (jao (jai (jai (jai (jai (jai (jai (jai (jai (jai (jai (jai (jai (jai (jai (jai (jai jap pk20) pk22) pk26) pk32) pk24) pk48) pk38) pk40) pk42) pk53) pk65) pk50) pk51) pk54) pk60) pk52) (jar ok_A52 hmix fn44 jak)) pk46
end Go.Cs
end
noncomputable section
set_option maxRecDepth 100000
namespace Go.Cs
open Go Go.Ab Go.Proofs Go.Px Go.Cx
def T31:E:=[.int .i64 1,.int .i64 3,.int .i64 1,.bool false,.string ⟨#[]⟩]
theorem fn18:Fn1 Tryz.prog 18 Tryz.f18:= .m Tryz.func18
theorem v18(R:Value→Prop):jaz Tryz.prog A54 noL Tryz.f18 [] (fun _=>none) 0 (fun v _ _=>R v)=(∀a:Nat,ma T31 a 1 5 (∀c:Nat,∀d:E,iy d c (1+1) 5→ay (ja8 (L46++d) &&ja8 L46) (B true) R)):=by kernel_rfl
def s18:Bool×Value:=(true,.bool true)
theorem okC18:jam Tryz.prog 18 (sp0 s18):=by
 refine qure0 ok_A54 hmix fn18 jak fun _=> ?_
 rw[ja0,v18];delta ia jg iy ma ay;intro cap tail h;simp only[jay,jaf]at h;obtain⟨⟨⟨_,h2⟩,h3⟩,h4⟩:=h;have e:(T31++tail).length=tail.length+1*5:=by rw[List.length_append];show 5+_=_;omega
 refine c_t (by rw[e,h2,h3,h4];rfl) fun cap2 tail2 h=> ?_
 simp only[jay,jaf]at h;obtain⟨⟨⟨h1,_⟩,_⟩,_⟩:=h;refine c_t ?_ rfl;have:ja8 (L46++tail2)=true:=by rw[jbd]at h1 ⊢;intro v hv;rcases List.mem_append.1 hv with hv | hv;exact jbd.1 (show ja8 L46=true from rfl) v hv;exact h1 v hv
 rw[this];rfl
theorem ok18: @jam tabs Tryz.prog 18 (sp0 s18):=pureT okC18
end Go.Cs
end
noncomputable section
set_option maxHeartbeats 3200000
namespace Go.Cx
open Go Go.Ab Go.Proofs Go.Shelf Go.Px Go.Cv
open Go.Fx (Ty Vl check ja9 most base pw bnd Fit fits tv vv tup V0 T0 jbh jbl jbc jbx str0)
instance tabsT:Tabs:=tabs
def jkx(t:Ty):Int:=if t.k=2 then t.p else(332*(t.p-t.q)+99)/100
def scal(t:Ty):Int:=if t.k=6 then 5 else chk4 t
def numT(t:Ty):Bool:=t.k==5&&pN (bz t.s)
def piT(t:Ty):Ty:=⟨tyK (bz t.s),tyP (bz t.s),pQ (bz t.s),false,⟨#[]⟩⟩
def chaW(t:Ty):Int:=if t.k=1∨t.k=2 then wid t else if t.k=5 then pW (bz t.s)else t.p
def bwT(t:Ty):Int:=if t.k=1∨t.k=2 then jkx t else if numT t=true then jkx (piT t)else if t.k=5 then pW (bz t.s)else t.p
def sz63(t:Ty):Prop:=t.s.size≤9223372036854775807
instance (t:Ty):Decidable (sz63 t):=by unfold sz63;infer_instance
theorem kinds{t:Ty}(h:scal t=0):(t.k=1∧ja9 t)∨(t.k=2∧ja9 t)∨(t.k=3∧ ¬ja9 t∧0≤t.p∧t.p≤255)∨(t.k=4∧ ¬ja9 t∧0≤t.p∧t.p≤64)∨(t.k=5∧ ¬ja9 t∧vOK (bz t.s)=true):=by
 unfold scal at h;split at h
 ·cases h
 ·unfold chk4 at h;split at h
  ·rename_i hv;rcases hv.1 with q | q
   ·exact .inl ⟨q,hv⟩
   ·exact .inr (.inl ⟨q,hv⟩)
  ·rename_i nv;split at h
   ·rename_i q;exact .inr (.inr (.inl ⟨q.1,nv,q.2.2.2.1,q.2.2.2.2⟩))
   ·split at h
    ·rename_i q;exact .inr (.inr (.inr (.inl ⟨q.1,nv,q.2.2.2.2.1,q.2.2.2.2.2⟩)))
    ·split at h
     ·rename_i q;refine .inr (.inr (.inr (.inr ⟨q.1,nv,?_⟩)));have:=q.2.2.2.2;unfold pE at this;split at this
      ·assumption
      ·cases this
     ·split at h
      ·rename_i n6 _ _ _ q;exact absurd q.1 n6
      ·cases h
theorem ty_num{l:J}(h:pN l=true):tyK l=1∧tyP l=pD l:=by
 have hv:=jdf h;unfold tyK tyP;rw[if_pos hv,if_pos hv,if_pos h,if_pos h];exact⟨rfl,rfl⟩
theorem p_rng{t:Ty}(h:scal t=0):0≤t.p∧t.p≤1000000:=by
 rcases kinds h with⟨hk,hv⟩ | ⟨hk,hv⟩ | ⟨hk,nv,r1,r2⟩ | ⟨hk,nv,r1,r2⟩ | ⟨hk,nv,hp⟩
 ·have:=Fx.valid_r hv;omega
 ·have:=Fx.valid_r hv;omega
 ·omega
 ·omega
 ·unfold scal at h;rw[if_neg (by omega)]at h;unfold chk4 at h;rw[if_neg nv,if_neg (fun q=>by have:=q.1;omega),if_neg (fun q=>by have:=q.1;omega)]at h;split at h
  ·rename_i q;have:=q.2.1;omega
  ·rw[if_neg (fun q=>by have:=q.1;omega)]at h;cases h
def M0:Env:=(Env.nil.add 66 (sp1 s66)).add 67 (sp1 Px.s33)
theorem ok_M0:jaw Tryz.prog M0:=jai (jai jap ok66) Px.ok33
def s20f(t:Ty):Bool×Value:=(decide (sz63 t),I (chk4 t))
def qt(c:Bool)(d:Y)(a:Fx.Ty)(b:Int):Bool:=Fx.Ty.k a==Fx.Ty.k a&& (Fx.Ty.p a==b&& (Fx.Ty.q a==0&& (Fx.Ty.v a==c&& (b5 (Fx.Ty.s a) d&&true))))
def qu(c:Bool)(a:Fx.Ty)(b:Int)(d:Value→Prop):Prop:=bif gx (Fx.Ty.p a) 0 then fq (!ft (Fx.Ty.p a) 0 b || true) (!ft (Fx.Ty.p a) 0 b || !qt c ao a (Fx.Ty.p a)) (ak 5) (ak 0) d else False
theorem v20f(t:Ty)(R:Value→Prop):jaz Tryz.prog M0 noL Tryz.f20 [Enc.enc t] (fun _=>none) 0 (fun v _ _=>R v)=(bif b4 t 1 then R (I (Fx.check t))else bif b4 t 2 then R (I (Fx.check t))else bif b4 t 3 then qu (Fx.Ty.v t) t 255 R∧qu (Fx.Ty.v t) t 255 R else bif b4 t 4 then qu false t 64 R else bif b4 t 5 then mg (!pE (dy t)==0) (!pE (dy t)==0 || !qt false (Fx.Ty.s t) t 0) (Fx.Ty.s t) (R (ak 5)) (R (ak 0))else bif b4 t 6 then dx (!true || !qt false ao t 0) (ak 5) (ak 0) R else R (ak 5)):=by kernel_rfl
theorem ok20f:jam Tryz.prog 20 (sp1 s20f):=by
 refine jby ok_M0 hmix fn20 jak jag fun t hc=> ?_
 rw[ja0,v20f];delta ak dx b5 qt ao b4 av bw dp mg dy fq e9 ft gx qu;have hc:(sz63 t):=jab hc
 try dsimp only[s20f]
 have hs:t.s.size≤9223372036854775807:=hc;have nvk:∀k:Int,t.k=k→k≠1→k≠2→ ¬ja9 t:=fun k hk h1 h2 hv=>by have:=hv.1;omega
 have ck:t.k=1∨t.k=2→check t=chk4 t:=fun hk=>by
  unfold Fx.check chk4;by_cases hv:ja9 t
  ·rw[if_pos hv,if_pos hv]
  ·rw[if_neg hv,if_neg hv,if_neg (by omega),if_neg (by omega),if_neg (by omega),if_neg (by omega)]
 refine cond_intro (fun hk=> ?_) (fun h1=> ?_)
 ·rw[ck (.inl (by simpa using hk))]
 refine cond_intro (fun hk=> ?_) (fun h2=> ?_)
 ·rw[ck (.inr (by simpa using hk))]
 have h1:t.k≠1:=by simpa using h1
 have h2:t.k≠2:=by simpa using h2
 have nv:¬ja9 t:=nvk _ rfl h1 h2;apply cond_intro<;>intro h3
 ·have h3:t.k=3:=by simpa using h3
  have key:∀X:Prop,(bif !(decide (t.p≥0) &&decide (t.p≤255)) || !(t.k==t.k&& (t.p==t.p&& (t.q==0&& (t.v==t.v&& (t.s.toList==(ByteArray.mk #[]).toList&&true)))))then Value.int IntKind.i64 5=I (chk4 t)else Value.int IntKind.i64 0=I (chk4 t)):=fun _=>by
   rw[jcd];unfold chk4;rw[if_neg nv];apply cond_intro<;>intro h
   ·rw[if_neg,if_neg (by omega),if_neg (by omega),if_neg (by omega)];rintro ⟨-,q1,q2,q3,q4⟩;simp[q1,q2,q3,q4]at h
   ·rw[if_pos];simp at h;exact⟨h3,h.2.1,h.2.2,h.1.1,h.1.2⟩
  exact⟨c_t (Bool.or_true _) (c_t (Bool.or_true _) (key True)),c_t (Bool.or_true _) (c_t (Bool.or_true _) (key True))⟩
 have h3:t.k≠3:=by simpa using h3
 apply cond_intro<;>intro h4
 ·have h4:t.k=4:=by simpa using h4
  refine c_t (Bool.or_true _) (c_t (Bool.or_true _) ?_);rw[jcd];unfold chk4;rw[if_neg nv,if_neg (by omega)];apply cond_intro<;>intro h
  ·rw[if_neg,if_neg (by omega),if_neg (by omega)];rintro ⟨-,q1,q2,q3,q4,q5⟩;simp[q1,q2,q3,q4,q5]at h
  ·rw[if_pos];simp at h;exact⟨h4,h.2.1,h.2.2.2,h.2.2.1,h.1.1,h.1.2⟩
 have h4:t.k≠4:=by simpa using h4
 apply cond_intro<;>intro h5
 ·have h5:t.k=5:=by simpa using h5
  refine c_t (jaa hs) (c_t (Bool.or_true _) ?_);unfold chk4;rw[if_neg nv,if_neg (by omega),if_neg (by omega)];apply cond_intro<;>intro h
  ·rw[if_neg,if_neg (by omega)];rintro ⟨-,q1,q2,q3,q4⟩;simp[q1,q2,q3,q4]at h
  ·rw[if_pos];simp at h;exact⟨h5,h.2.1,h.2.2.1,h.2.2.2,h.1⟩
 have h5:t.k≠5:=by simpa using h5
 apply cond_intro<;>intro h6
 ·have h6:t.k=6:=by simpa using h6
  rw[jcd];unfold chk4;rw[if_neg nv,if_neg (by omega),if_neg (by omega),if_neg (by omega)];apply cond_intro<;>intro h
  ·rw[if_neg];rintro ⟨-,q1,q2,q3,q4⟩;simp[q1,q2,q3,q4]at h
  ·rw[if_pos];simp at h;exact⟨h6,h.2.1,h.2.2.2,h.1,h.2.2.1⟩
 have h6:t.k≠6:=by simpa using h6
 unfold chk4;rw[if_neg nv,if_neg (by omega),if_neg (by omega),if_neg (by omega),if_neg (by omega)]
def N0:Env:=((Env.nil.add 180 (sp1 Px.s49)).add 111 (sp1 Px.s47)).add 143 (sp1 Px.s30)
theorem ok_N0:jaw Tryz.prog N0:=jai (jai (jai jap Px.ok49) Px.ok47) Px.ok30
def s110(t:Ty):Bool×Value:=(decide (sz63 t),B (numT t))
theorem fn110:Fn1 Tryz.prog 110 Tryz.f110:= .m Tryz.func110
theorem v110(t:Ty)(R:Value→Prop):jaz Tryz.prog N0 noL Tryz.f110 [Enc.enc t] (fun _=>none) 0 (fun v _ _=>R v)=(ov (b4 t 5) (dp (Fx.Ty.s t)) true (pN (dy t)) R):=by kernel_rfl
theorem ok110:jam Tryz.prog 110 (sp1 s110):=by
 refine jby ok_N0 hmix fn110 jak jag fun t hc=> ?_
 rw[ja0,v110];delta ay br ov dy dp b4;have hc:(sz63 t):=jab hc
 try dsimp only[s110]
 have hs:t.s.size≤9223372036854775807:=hc;exact c_t (by rw[jaa hs];cases(t.k==5) <;>rfl) rfl
def s114(t:Ty):Bool×Value:=(decide (sz63 t∧0≤t.p∧t.p≤1000000),I (chaW t))
theorem fn114:Fn1 Tryz.prog 114 Tryz.f114:= .m Tryz.func114
theorem v114(t:Ty)(R:Value→Prop):jaz Tryz.prog N0 noL Tryz.f114 [Enc.enc t] (fun _=>none) 0 (fun v _ _=>R v)=(bif b4 t 1 then R (ep (Fx.Ty.p t+3))else bif b4 t 2 then R (ep (il 1 (IntKind.i64.wrap ((IntKind.i64.wrap (IntKind.i64.wrap (100*Fx.Ty.p t)+331)).tdiv 332))+3))else bif b4 t 5 then ay (dp (Fx.Ty.s t)) (I (pW (dy t))) R else R (I (Fx.Ty.p t))):=by kernel_rfl
theorem ok114:jam Tryz.prog 114 (sp1 s114):=by
 refine jby ok_N0 hmix fn114 jak jag fun t hc=> ?_
 rw[ja0,v114];delta ay dy dp b4 aw ep il;have hc:(sz63 t∧0≤t.p∧t.p≤1000000):=jab hc
 try dsimp only[s114]
 obtain⟨hs,h1,h2⟩:=hc;unfold chaW wid;apply cond_intro<;>intro hk
 ·have hk:t.k=1:=by simpa using hk
  rw[if_pos (.inl hk),if_neg (by omega),w64 (by omega)]
 have hk:t.k≠1:=by simpa using hk
 apply cond_intro<;>intro hk2
 ·have hk2:t.k=2:=by simpa using hk2
  rw[if_pos (.inr hk2),if_pos hk2,w64 (n:=100*t.p) (by omega),w64 (n:=100*t.p+331) (by omega),Int.tdiv_eq_ediv_of_nonneg (by omega),w64 (n:=(100*t.p+331)/332) (by omega),w64 (n:=1+(100*t.p+331)/332) (by omega),w64 (by omega)]
 have hk2:t.k≠2:=by simpa using hk2
 rw[if_neg (by omega)];apply cond_intro<;>intro hk5
 ·rw[if_pos (by simpa using hk5)];exact c_t (jaa hs) rfl
 ·rw[if_neg (by simpa using hk5)]
def s116a(t:Ty):Bool×Value:=(decide (t.k≠5∧0≤t.q∧t.q≤t.p∧t.p≤1000000),I (bwT t))
theorem fn116:Fn1 Tryz.prog 116 Tryz.f116:= .m Tryz.func116
def qv(a:Fx.Ty)(c d:Prop)(b:Value→Prop):Prop:=bif b4 a 1 then b (ep ((il (IntKind.i64.wrap (332*cm (Fx.Ty.p a) (Fx.Ty.q a))) 99).tdiv 100))else bif b4 a 5 then k8 (pN (dy a)) (Fx.Ty.s a) (ia (dp (Fx.Ty.s a)) c) d else b (.int .i64 (Fx.Ty.p a))
theorem v116a(t:Ty)(R:Value→Prop):jaz Tryz.prog N0 noL Tryz.f116 [Enc.enc t] (fun _=>none) 0 (fun v _ _=>R v)=(qv t False False R):=by kernel_rfl
theorem ok116a:jam Tryz.prog 116 (sp1 s116a):=by
 refine jby ok_N0 hmix fn116 jak jag fun t hc=> ?_
 rw[ja0,v116a];delta av dp k8 ia dy b4 aw ep il cm qv;have hc:(t.k≠5∧0≤t.q∧t.q≤t.p∧t.p≤1000000):=jab hc
 try dsimp only[s116a]
 obtain⟨h5,h1,h2,h3⟩:=hc;unfold bwT jkx numT;apply cond_intro<;>intro hk
 ·have hk:t.k=1:=by simpa using hk
  rw[if_pos (.inl hk),if_neg (by omega),w64 (n:=t.p-t.q) (by omega),w64 (n:=332*(t.p-t.q)) (by omega),w64 (n:=332*(t.p-t.q)+99) (by omega),Int.tdiv_eq_ediv_of_nonneg (by omega),w64 (by omega)]
 have hk:t.k≠1:=by simpa using hk
 refine c_f (by simpa using h5) ?_;by_cases hk2:t.k=2
 ·rw[if_pos (.inr hk2),if_pos hk2]
 ·simp[hk,hk2,h5]
def N1:Env:=(((Env.nil.add 180 (sp1 Px.s49)).add 111 (sp1 Px.s47)).add 114 (sp1 s114)).add 116 (sp1 s116a)
theorem ok_N1:jaw Tryz.prog N1:=jai (jai (jai (jai jap Px.ok49) Px.ok47) ok114) ok116a
def s116(t:Ty):Bool×Value:=(decide (sz63 t∧scal t=0),I (bwT t))
def lb(a:Y):Fx.Ty:=Fx.Ty.mk (tyK (bz a)) (tyP (bz a)) (pQ (bz a)) false ao
theorem v116(t:Ty)(R:Value→Prop):jaz Tryz.prog N1 noL Tryz.f116 [Enc.enc t] (fun _=>none) 0 (fun v _ _=>R v)=(qv t (ay (decide (tyK (dy t)≠5∧0≤pQ (dy t)∧pQ (dy t)≤tyP (dy t)∧tyP (dy t)≤1000000)) (I (bwT (lb (Fx.Ty.s t)))) R) (ay (decide (sz63 t∧0≤Fx.Ty.p t∧Fx.Ty.p t≤1000000)) (I (chaW t)) R) R):=by kernel_rfl
theorem ok116:jam Tryz.prog 116 (sp1 s116):=by
 refine jby ok_N1 hmix fn116 jak jag fun t hc=> ?_
 rw[ja0,v116];delta av dp k8 ia dy b4 aw ep il cm qv ay ao lb;have hc:(sz63 t∧scal t=0):=jab hc
 try dsimp only[s116]
 obtain⟨hs',h0⟩:=hc;have hs:t.s.size≤9223372036854775807:=hs';have hp:=p_rng h0;rcases kinds h0 with⟨hk,hv⟩ | ⟨hk,hv⟩ | ⟨hk,nv,r1,r2⟩ | ⟨hk,nv,r1,r2⟩ | ⟨hk,nv,hp5⟩
 ·have hr:=Fx.valid_r hv;refine c_t (by simp[hk]) ?_;unfold bwT jkx;rw[if_pos (.inl hk),if_neg (by omega),w64 (n:=t.p-t.q) (by omega),w64 (n:=332*(t.p-t.q)) (by omega),w64 (n:=332*(t.p-t.q)+99) (by omega),Int.tdiv_eq_ediv_of_nonneg (by omega),w64 (by omega)]
 ·refine c_f (by simp[hk]) (c_f (by simp[hk]) ?_);unfold bwT jkx;rw[if_pos (.inr hk),if_pos hk]
 ·refine c_f (by simp[hk]) (c_f (by simp[hk]) ?_);unfold bwT numT;simp[hk]
 ·refine c_f (by simp[hk]) (c_f (by simp[hk]) ?_);unfold bwT numT;simp[hk]
 ·refine c_f (by simp[hk]) (c_t (by simp[hk]) (c_t (jaa hs) (cond_intro (fun hn=> ?_) (fun hn=> ?_))))
  ·obtain⟨e1,e2⟩:=ty_num hn;have hd:=je1 hn;refine c_t (jaa hs) (c_t (jaa (by omega)) ?_)
   have e3:bwT ⟨tyK (bz t.s),tyP (bz t.s),pQ (bz t.s),false,⟨#[]⟩⟩=jkx (piT t):=by
    unfold bwT;rw[if_pos (.inl e1)];rfl
   have e4:bwT t=jkx (piT t):=by unfold bwT numT;simp[hk,hn]
   rw[e3,e4]
  ·refine c_t (jaa ⟨hs',by omega,by omega⟩) ?_;unfold bwT numT chaW;simp[hk,hn]
instance tabsT1:Tabs:=tabs
def Q0:Env:=(((Env.nil.add 20 (sp1 s20f)).add 70 (sp2 s70)).add 71 (sp1 s71)).add 72 (sp2 Px.s24)
theorem ok_Q0:jaw Tryz.prog Q0:=jai (jai (jai (jai jap ok20f) ok70) ok71) Px.ok24
def s22f(v:Vl)(t:Ty):Bool×Value:=(decide (t.s.size≤9223372036854775807∧v.s.size≤9223372036854775807),I (fit4 v t))
theorem v22f(v:Vl)(t:Ty)(R:Value→Prop):jaz Tryz.prog Q0 noL Tryz.f22 [Enc.enc v,Enc.enc t] (fun _=>none) 0 (fun v _ _=>R v)=(bif decide (sz63 t)then bif chk4 t !=0 then R (I (chk4 t))else bif b4 t 1 then R (I (Fx.fits v t))else bif b4 t 2 then R (I (Fx.fits v t))else ql (dp (Fx.Vl.s v)) t v (dx (!Fx.Vl.n v==0) (ak 6) (ak 0) R) R else False):=by kernel_rfl
theorem ok22f:jam Tryz.prog 22 (sp2 s22f):=by
 refine jcj ok_Q0 hmix fn22 jak jag fun v t hc=> ?_
 rw[ja0,v22f];delta dx fq ak br pf e9 ft gx b5 ao b4 i6 dy g0 cw b8 ql dp;have hc:(t.s.size≤9223372036854775807∧v.s.size≤9223372036854775807):=jab hc
 try dsimp only[s22f]
 rw[jcd];unfold fit4 is4;refine c_t (jaa hc.1) ?_
 have hk:chk4 t=0→(t.k=1∨t.k=2∨t.k=3∨t.k=4∨t.k=5∨t.k=6)∧((t.k=1∨t.k=2)→ja9 t):=fun h=>by
  unfold chk4 at h;have hv:ja9 t→t.k=1∨t.k=2:=fun h=>h.1
  grind
 apply cond_intro<;>intro h
 ·rw[if_pos (by simpa using h)]
 have h0:chk4 t=0:=by simpa using h
 rw[if_neg (fun z=>z h0)];obtain⟨hk,hval⟩:=hk h0;have hf:ja9 t→Fx.fits v t=if Fit v t then 0 else 6:=fun h=>if_pos h
 simp only[Bool.or_true,Bool.and_true,Bool.cond_self,jaa hc,jaa hc.2]
 repeat' apply cond_intro<;>intro h
 all_goals first | (exfalso;simp at h;done) | (congr 1;grind) | (exfalso;grind)
instance tabsT2:Tabs:=tabs
theorem ex_ck3(t:Ty):∃x:Int,x=chk4 t:=⟨_,rfl⟩
def ckT(t:Ty):Int:=Classical.choose (ex_ck3 t)
theorem jlf(t:Ty):ckT t=chk4 t:=Classical.choose_spec (ex_ck3 t)
theorem ex_ft3(v:Vl)(t:Ty):∃x:Int,x=fit4 v t:=⟨_,rfl⟩
def ftT(v:Vl)(t:Ty):Int:=Classical.choose (ex_ft3 v t)
theorem jla(v:Vl)(t:Ty):ftT v t=fit4 v t:=Classical.choose_spec (ex_ft3 v t)
def z20(t:Ty):Bool×Value:=(decide (t.s.size≤9223372036854775807),I (ckT t))
def z22(v:Vl)(t:Ty):Bool×Value:=(decide (t.s.size≤9223372036854775807∧v.s.size≤9223372036854775807),I (ftT v t))
def z19(t:Ty):Bool×Value:=(true,B (decide ((t.s.size:Int)≤200)))
def Q2:Env:=(((((Env.nil.add 18 (sp0 Cs.s18)).add 19 (sp1 z19)).add 20 (sp1 z20)).add 21 (sp1 z20)).add 22 (sp2 z22)).add 23 (sp2 z22)
theorem fn19s:Fn1 Tryz.prog 19 Tryz.f19:= .m Tryz.func19
theorem v19s(t:Ty)(R:Value→Prop):jaz Tryz.prog Env.nil noL Tryz.f19 [Enc.enc t] (fun _=>none) 0 (fun v _ _=>R v)=R (B (decide ((t.s.size:Int)≤200))):=by kernel_rfl
theorem ok19s:jam Tryz.prog 19 (sp1 z19):=by
 refine jby jap hmix fn19s jak jag fun t hc=> ?_
 rw[ja0,v19s];rfl
theorem z20_eq:z20=s20f:=by funext t;simp only[z20,s20f,jlf];rfl
theorem z20_eq2:z20=s21:=by funext t;simp only[z20,s21,jlf]
theorem z22_eq:z22=s22f:=by funext v t;simp only[z22,s22f,jla]
theorem z22_eq2:z22=s23:=by funext v t;simp only[z22,s23,jla]
def s3(t:Ty)(v:Vl):Bool×Value:=(decide (t.s.size≤9223372036854775807∧v.s.size≤9223372036854775807),B true)
theorem v3(t:Ty)(v:Vl)(R:Value→Prop):jaz Tryz.prog Q2 noL Tryz.f3 [Enc.enc t,Enc.enc v] (fun _=>none) 0 (fun v _ _=>R v)=(bif !decide ((t.s.size:Int)≤200)then R (B true)else bif decide (t.s.size≤9223372036854775807) && (decide (t.s.size≤9223372036854775807) &&bif ckT t==ckT t then decide (t.s.size≤9223372036854775807∧v.s.size≤9223372036854775807) && (decide (t.s.size≤9223372036854775807∧v.s.size≤9223372036854775807) &&true)else true)then R (B (ckT t==ckT t&&ftT v t==ftT v t))else False):=by kernel_rfl
end Go.Cx
end
noncomputable section
namespace Go.Cx
open Go Go.Ab Go.Px Go.Cv
theorem u8n{n:Nat}(h:n<10):((UInt8.ofNat (48+n)).toNat:Int)=48+n:=by
 rw[UInt8.toNat_ofNat'];omega
end Go.Cx
end
noncomputable section
namespace Go.Cx
open Go Go.Ab Go.Px Go.Cv
open Go.Fx (Ty Vl check ja9 most base pw bnd Fit fits)
theorem jhh:∀(k n:Nat),n<10^ (k+1)→jbu (zl (Lib.decDigits n))=true∧zl (Lib.decDigits n)≠ []
 | k,n,h=>by
  have one:∀j,j<10→dig ((UInt8.ofNat (48+j)).toNat:Int)=true:=fun j hj=>by
   rw[u8n hj];unfold dig;exact jaa (by omega)
  rw[Lib.decDigits];by_cases h10:n<10
  ·rw[dif_pos h10];exact⟨by simp only[zl,List.map_cons,List.map_nil,jbu,List.all_cons,List.all_nil,one n h10,Bool.and_self],by simp[zl]⟩
  ·rw[dif_neg h10];cases k with
   | zero=>omega
   | succ k=>
    have ih:=jhh k (n/10) (by rw[Nat.pow_succ]at h;omega);refine⟨?_,by simp[zl]⟩;rw[zl,List.map_append];rw[jjl];have e:jbu (List.map (fun b:UInt8=>(b.toNat:Int)) (Lib.decDigits (n/10)))=true:=ih.1;rw[e];simp only[List.map_cons,List.map_nil,jbu,List.all_cons,List.all_nil,one (n%10) (by omega),Bool.and_self]
theorem ito_digs{m:Int}(h:0≤m∧m≤2147483648):jbu (itoZ m)=true∧itoZ m≠ []:=by
 obtain⟨k,rfl⟩:∃k:Nat,m=(k:Int):=⟨m.toNat,by omega⟩
 rw[itoZ,Lib.itoa_nonneg];exact jhh 9 k (by omega)
def numA(n q:Int):Num:=ja4 (decide (n<0)) (itoZ (if n<0 then -n else n)) q
end Go.Cx
end
noncomputable section
set_option maxHeartbeats 3200000
namespace Go.Cx
open Go Go.Ab Go.Proofs Go.Shelf Go.Px Go.Cv
open Go.Fx (Ty Vl check ja9 most base pw bnd Fit fits tv vv tup V0 T0 jbh jbl jbc jbx str0)
def P0:Env:=Env.nil.addG 29 (hideS (sp1 s29))
theorem ok_P0:jaw Tryz.prog P0:=jao jap (jcu ok29)
def isR(s:Y)(c:Int)(l:J):Prop:=bz s=List.replicate (s.size-l.length) c++l∧l.length≤s.size
instance (s:ByteArray)(c:Int)(l:List Int):Decidable (isR s c l):=by unfold isR;infer_instance
def V167_0:Int×Y×Y→E:=fun(n,r,s)=> [I n,S r,S s]
def B167_0:Int×Y×Y→O:=fun _=> []
def S167_0:LSpec (Int×Y×Y) where
 live:=[0,2,3]
 mid:=[]
 n:=40
 dec vs bs:=match vs,bs with | [.int .i64 n,.string r,.string s],[]=>some (n,r,s) | _,_=>none
 pre:=fun(n,r,s)=>decide (isR s 32 []∧(s.size:Int)≤max n 0∧n≤1000)
 fin:=fun(n,r,s) Z=>Z (.exit 0) [I n,S r,S (szO (List.replicate n.toNat 32))] []
theorem r167_0(n:Int)(r:Y)(s:Y)(jk:Tmps)(R:Exit→E→O→Prop):(jbp Tryz.prog P0 noL Tryz.f167.ntmps (ja6 Tryz.f167 0) (tl S167_0.live (V167_0 (n,r,s)) jk) (ml S167_0.mid (B167_0 (n,r,s))) S167_0.n fun e t' m' _=>R e (List.map t' S167_0.live) (List.map m' S167_0.mid))=(bif b8 (am s) n then bm (ew s ⟨#[32]⟩) R [] (ak n::bk r [] (S (s++⟨#[32]⟩)))else R (.exit 0) (ak n::bk r [] (S s)) []):=by kernel_rfl
theorem l167_0:LOKf Tryz.prog (oneL 0 S167_0.h) Tryz.f167:=by
 refine jbe (h:=S167_0.h) (by kernel_rfl) (ja7 ok_P0 hmix (by kernel_rfl) (ja1 _) S167_0 V167_0 B167_0 (fun(n,r,s)=>(n-s.size).toNat) ?_ ?_ ?_)
 ·intro vs bs s h;simp only[S167_0]at h;split at h
  all_goals first | (cases h;exact⟨rfl,rfl⟩) | cases h | (split at h<;>first | (rename_i hq;cases h;have hq:=jah hq;subst hq;exact⟨rfl,rfl⟩) | cases h)
 ·exact fun _ _ _ h=>h
 ·intro⟨n,r,s⟩ jk Z hp hf;rw[r167_0];delta bk ak bm ew b8 am;simp only[S167_0]at hp hf;have hp:=jab hp;obtain⟨⟨h1,-⟩,h2,h3⟩:=hp;have h1:bz s=List.replicate s.size 32:=by simpa using h1
  have w1:(ByteArray.mk #[32]).size=1:=rfl;apply cond_intro<;>intro h
  ·have h:=jab h;have z:(s++ByteArray.mk #[32]).size=s.size+1:=by rw[ByteArray.size_append,w1]
   refine c_t (fitN (by rw[w1];omega)) ?_;exact⟨(n,r,s++ByteArray.mk #[32]),rfl,rfl,by simp only[S167_0,jae];exact⟨⟨by rw[jbr,h1,z,show bz (ByteArray.mk #[32])=[32]from rfl,List.length_nil,Nat.sub_zero,List.append_nil,List.replicate_succ'],Nat.zero_le _⟩,by omega,h3⟩,by simp only[z];omega,hf⟩
  ·have h:=jac h;have e:s=szO (List.replicate n.toNat 32):=jgn (by rw[h1];congr 1;omega);rw[←e]at hf;exact hf
def V166_0:Int×Int×Y×Y→E:=fun(n,q,r,s)=> [I n,I q,S r,S s]
def B166_0:Int×Int×Y×Y→O:=fun _=> []
def S166_0:LSpec (Int×Int×Y×Y) where
 live:=[0,1,4,5]
 mid:=[]
 n:=60
 dec vs bs:=match vs,bs with | [.int .i64 n,.int .i64 q,.string r,.string s],[]=>some (n,q,r,s) | _,_=>none
 pre:=fun(n,q,r,s)=>decide (isR s 48 (itoZ (max n (-n)))∧s.size≤100∧0≤q∧q≤9∧((itoZ (max n (-n))).length<s.size→(s.size:Int)≤q+1))
 fin:=fun(n,q,r,s) Z=>Z (.exit 0) [I n,I q,S r,S (szO (fixU (max n (-n)) q))] []
theorem r166_0(n:Int)(q:Int)(r:Y)(s:Y)(jk:Tmps)(R:Exit→E→O→Prop):(jbp Tryz.prog P0 noL Tryz.f166.ntmps (ja6 Tryz.f166 0) (tl S166_0.live (V166_0 (n,q,r,s)) jk) (ml S166_0.mid (B166_0 (n,q,r,s))) S166_0.n fun e t' m' _=>R e (List.map t' S166_0.live) (List.map m' S166_0.mid))=(bif decide (am s≤q)then bm (ew d9 s) R [] (ak n::ak q::bk r [] (S (d9++s)))else R (.exit 0) (ak n::ak q::bk r [] (S s)) []):=by kernel_rfl
theorem l166_0:LOKf Tryz.prog (oneL 0 S166_0.h) Tryz.f166:=by
 refine jbe (h:=S166_0.h) (by kernel_rfl) (ja7 ok_P0 hmix (by kernel_rfl) (ja1 _) S166_0 V166_0 B166_0 (fun(n,q,r,s)=>(q+1-s.size).toNat) ?_ ?_ ?_)
 ·intro vs bs s h;simp only[S166_0]at h;split at h
  all_goals first | (cases h;exact⟨rfl,rfl⟩) | cases h | (split at h<;>first | (rename_i hq;cases h;have hq:=jah hq;subst hq;exact⟨rfl,rfl⟩) | cases h)
 ·exact fun _ _ _ h=>h
 ·intro⟨n,q,r,s⟩ jk Z hp hf;rw[r166_0];delta bk ak bm d9 ew am;simp only[S166_0]at hp hf;have hp:=jab hp;obtain⟨⟨h1,h0⟩,h2,h3,h4,h5⟩:=hp;have w1:(ByteArray.mk #[48]).size=1:=rfl;apply cond_intro<;>intro h
  ·have h:=jab h;have z:(ByteArray.mk #[48]++s).size=s.size+1:=by rw[ByteArray.size_append,w1];omega
   refine c_t (fitN (by rw[w1];omega)) ?_;exact⟨(n,q,r,ByteArray.mk #[48]++s),rfl,rfl,by simp only[S166_0,jae];exact⟨⟨by rw[jbr,h1,z,show bz (ByteArray.mk #[48])=[48]from rfl,show s.size+1-(itoZ (max n (-n))).length=s.size-(itoZ (max n (-n))).length+1 by omega,List.replicate_succ];rfl,by omega⟩,by omega,h3,h4,fun _=>by omega⟩,by simp only[z];omega,hf⟩
  ·have h:=jac h;have e:s=szO (fixU (max n (-n)) q):=jgn (by unfold fixU Cv.rep48;rw[h1];congr 2;omega);rw[←e]at hf;exact hf
def s167(n:Int):Bool×Value:=(decide (n≤1000),S (szO (List.replicate n.toNat 32)))
theorem fn167:Fn1 Tryz.prog 167 Tryz.f167:= .m Tryz.func167
theorem v167(n:Int)(R:Value→Prop):jaz Tryz.prog P0 (oneL 0 S167_0.h) Tryz.f167 [Enc.enc n] (fun _=>none) 0 (fun v _ _=>R v)=(go (S167_0.pre (n,(ao,ao))) (R (S (szO (List.replicate n.toNat (32:Int))))) Tmps):=by kernel_rfl
theorem ok167:jam Tryz.prog 167 (sp1 s167):=by
 refine jby ok_P0 hmix fn167 l167_0 jag fun n hc=> ?_
 rw[ja0,v167];delta go ao;have hc:(n≤1000):=jab hc
 try dsimp only[s167]
 refine c_t (jaa ⟨⟨rfl,Nat.zero_le _⟩,?_,hc⟩) fun _=>rfl
 show((0:Nat):Int)≤max n 0;omega
theorem fix_p{u:Y}{m q:Int}(hu:bz u=fixU m q)(hq:0<q∧q≤9)(hl:fixU m q=fixU m q→q<u.size)(hz:u.size≤100){sg:Y}:
  bz (sg++(u.extract 0 ((u.size:Int)-q).toNat++ByteArray.mk #[46]++u.extract ((u.size:Int)-q).toNat u.size))=bz sg++fixD m q∧(u.extract 0 ((u.size:Int)-q).toNat).size≤100∧(u.extract ((u.size:Int)-q).toNat u.size).size≤100:=by
 have e3:bz (u.extract 0 ((u.size:Int)-q).toNat)=(fixU m q).take ((fixU m q).length-q.toNat):=by
  rw[jdo,hu,←hu,jal];congr 1;omega
 have e4:bz (u.extract ((u.size:Int)-q).toNat u.size)=(fixU m q).drop ((fixU m q).length-q.toNat):=by
  rw[jhl,hu,←hu,jal];congr 1;omega
 refine⟨?_,by rw[jcn];omega,by rw[jcn];omega⟩;rw[jbr,jbr,jbr,e3,e4,fixD,if_pos hq.1,show bz (ByteArray.mk #[46])=[46]from rfl,List.append_assoc];rfl
theorem fixU_len{m q:Int}(hm:0≤m∧m≤2147483648)(hq:0≤q∧q≤9):q<(fixU m q).length∧(fixU m q).length≤20∧IsB (fixU m q):=by
 have h:=jdz hm;refine⟨?_,?_,rep48_isB _ |>.append (jfe _)⟩
 ·unfold fixU Cv.rep48;rw[List.length_append,List.length_replicate];omega
 ·unfold fixU Cv.rep48;rw[List.length_append,List.length_replicate];omega
theorem fixU_0{m q:Int}(hq:¬q>0)(hm:0≤m∧m≤2147483648):fixU m q=fixD m q:=by
 have h:0<(itoZ m).length:=List.length_pos_iff.2 (ito_digs hm).2;unfold fixU fixD Cv.rep48;rw[if_neg hq,show(q+1-(itoZ m).length).toNat=0 by omega];rfl
theorem max_n{n:Int}(h:n<0):max n (-n)= -n:=by omega
theorem max_p{n:Int}(h:¬n<0):max n (-n)=n:=by omega
def s166(n:Int)(q:Int):Bool×Value:=(decide (0≤q∧q≤9∧ -2147483648≤n∧n≤2147483648),S (szO (fixS n q)))
theorem fn166:Fn1 Tryz.prog 166 Tryz.f166:= .m Tryz.func166
theorem v166(n:Int)(q:Int)(R:Value→Prop):jaz Tryz.prog P0 (oneL 0 S166_0.h) Tryz.f166 [Enc.enc n,Enc.enc q] (fun _=>none) 0 (fun v _ _=>R v)=(oo (imax n (cm 0 n)) (∀a:Y,szO (itoZ (imax n (cm 0 n)))=a→go (S166_0.pre (n,(q,(ao,a)))) (bif f9 q then se (d7 n) (ew ⟨#[45]⟩ (o5 (szO (fixU (Max.max n (-n)) q)) q)) (szO (fixU (Max.max n (-n)) q)) q (R (S (⟨#[45]⟩++o5 (szO (fixU (Max.max n (-n)) q)) q))) (R (S (o5 (szO (fixU (Max.max n (-n)) q)) q)))else bif d7 n then pq ⟨#[45]⟩ (szO (fixU (Max.max n (-n)) q)) R else R (S (szO (fixU (Max.max n (-n)) q)))) Tmps)):=by kernel_rfl
theorem ok166:jam Tryz.prog 166 (sp2 s166):=by
 refine jcj ok_P0 hmix fn166 l166_0 jag fun n q hc=> ?_
 rw[ja0,v166];delta d8 oo go ay ew pq d7 ia aw cw ll lm d5 se o5 f9 ao cm;have hc:(0≤q∧q≤9∧ -2147483648≤n∧n≤2147483648):=jab hc
 try dsimp only[s166]
 obtain⟨q1,q2,n1,n2⟩:=hc;have ea:imax n (IntKind.wrap .i64 (0-n))=max n (-n):=by rw[jja,w64 (n:=0-n) (by omega)];congr 1;omega
 rw[ea];have hm:0≤max n (-n)∧max n (-n)≤2147483648:=by omega
 refine c_t (jaa (by omega)) fun s' hs=>c_t ?_ fun x=> ?_
 ·have b1:bz s'=itoZ (max n (-n)):=by rw[←hs,jcp (jfe _)]
  have z:s'.size=(itoZ (max n (-n))).length:=by rw[←b1,jal]
  have:=jdz hm;simp only[S166_0,jae];exact⟨⟨by rw[z,Nat.sub_self,b1];rfl,by omega⟩,by omega,q1,q2,fun h=>by omega⟩
 obtain⟨l1,l2,l3⟩:=fixU_len hm ⟨q1,q2⟩;have hu:bz (szO (fixU (max n (-n)) q))=fixU (max n (-n)) q:=jcp l3;have hz:(szO (fixU (max n (-n)) q)).size=(fixU (max n (-n)) q).length:=jci _;generalize szO (fixU (max n (-n)) q)=u at*;have w46:(ByteArray.mk #[46]).size=1:=rfl;have w45:(ByteArray.mk #[45]).size=1:=rfl;rw[w64 (n:=(u.size:Int)-q) (by omega)];apply cond_intro<;>intro h
 ·have h:=jab h;have f1:=fun sg=>fix_p hu ⟨h,q2⟩ (fun _=>by omega) (by omega) (sg:=sg)
  obtain⟨-,z1,z2⟩:=f1 (ByteArray.mk #[]);have za:∀a b:Y,(a++b).size=a.size+b.size:=fun a b=>ByteArray.size_append
  refine c_t (jaa (by omega)) (c_t (fitN (by rw[w46];omega)) (c_t (jaa (by omega)) (c_t (fitN (by rw[za,w46];omega)) (cond_intro (fun h0=> ?_) (fun h0=> ?_)))))
  ·have h0:=jab h0;refine c_t (fitN (by rw[za,za,w46,w45];omega)) ?_;rw[jgn (f1 (ByteArray.mk #[45])).1,fixS,if_pos h0,max_n h0];rfl
  ·have h0:=jac h0;have f2:=(f1 (ByteArray.mk #[])).1;rw[jbr]at f2;rw[jgn (show bz _=fixD (max n (-n)) q from f2),fixS,if_neg h0,max_p h0]
 ·have h:=jac h;rw[fixU_0 h hm]at hu;apply cond_intro<;>intro h0
  ·have h0:=jab h0;refine c_t (fitN (by rw[w45];omega)) ?_;rw[jgn (show bz (ByteArray.mk #[45]++u)=45::fixD (max n (-n)) q by rw[jbr,hu];rfl),fixS,if_pos h0,max_n h0]
  ·have h0:=jac h0;rw[jgn hu,fixS,if_neg h0,max_p h0]
def P1:Env:=(((Env.nil.add 68 (sp1 s68)).addG 166 (hideS (sp2 s166))).addG 167 (hideS (sp1 s167))).add 114 (sp1 s114)
theorem ok_P1:jaw Tryz.prog P1:=jai (jao (jao (jai jap ok68) (jcu ok166)) (jcu ok167)) ok114
theorem fixS_len{n q:Int}(hn: -2147483648≤n∧n≤2147483648)(hq:0≤q∧q≤9):(fixS n q).length≤30∧IsB (fixS n q):=by
 have key:∀m:Int,0≤m∧m≤2147483648→(fixD m q).length≤25∧IsB (fixD m q):=fun m hm=>by
  obtain⟨l1,l2,l3⟩:=fixU_len hm hq;unfold fixD;split
  ·refine⟨?_,(l3.take _).append (.cons (by omega) (l3.drop _))⟩;simp only[List.length_append,List.length_take,List.length_cons,List.length_drop];omega
  ·exact⟨by have:=jdz hm;omega,jfe _⟩
 unfold fixS;split
 ·obtain⟨a,b⟩:=key (-n) (by omega);exact⟨by rw[List.length_cons];omega,.cons (by omega) b⟩
 ·obtain⟨a,b⟩:=key n (by omega);exact⟨by omega,b⟩
def txS(v:Vl)(t:Ty):Y:=if ja9 t then szO (txtZ v.n t)else v.s
def s98(v:Vl)(t:Ty):Bool×Value:=(decide (sz63 t∧(ja9 t→ -2147483648≤v.n∧v.n≤2147483648)),S (txS v t))
theorem fn98:Fn1 Tryz.prog 98 Tryz.f98:= .m Tryz.func98
theorem v98(v:Vl)(t:Ty)(R:Value→Prop):jaz Tryz.prog P1 noL Tryz.f98 [Enc.enc v,Enc.enc t] (fun _=>none) 0 (fun v _ _=>R v)=(bif !decide (Fx.ja9 t)then R (S (Fx.Vl.s v))else bif kc 0 (Fx.Ty.q t) 9 (-2147483648) (Fx.Vl.n v) 2147483648 then∀a:Y,szO (fixS (Fx.Vl.n v) (Fx.Ty.q t))=a→(bif decide (sz63 t∧0≤Fx.Ty.p t∧Fx.Ty.p t≤1000000)then bif decide (cv (chaW t) (am a)≤1000)then∀b:Y,szO (List.replicate (jo (chaW t-am a)) (32:Int))=b→pq b a R else False else False)else False):=by kernel_rfl
theorem ok98:jam Tryz.prog 98 (sp2 s98):=by
 refine jcj ok_P1 hmix fn98 jak jag fun v t hc=> ?_
 rw[ja0,v98];delta ay ew pq aw jo am cv kc;have hc:(sz63 t∧(ja9 t→ -2147483648≤v.n∧v.n≤2147483648)):=jab hc
 try dsimp only[s98]
 apply cond_intro<;>intro h
 ·have h:¬ja9 t:=by simpa using h
  unfold txS;rw[if_neg h]
 ·have h:ja9 t:=by simpa using h
  have n32:=hc.2 h;have hq:=Fx.valid_r h;refine c_t (jaa (by omega)) fun s' hs=>c_t (jaa ⟨hc.1,by omega,by omega⟩) ?_
  obtain⟨l1,l2⟩:=fixS_len (n:=v.n) (q:=t.q) n32 (by omega);have b1:bz s'=fixS v.n t.q:=by rw[←hs,jcp l2]
  have z1:s'.size=(fixS v.n t.q).length:=by rw[←b1,jal]
  have hw:chaW t=wid t:=if_pos h.1;have hw2:0≤wid t∧wid t≤100:=by unfold wid;split<;>omega
  rw[hw,w64 (n:=wid t-(s'.size:Int)) (by omega)];refine c_t (jaa (by omega)) fun s2 h2=> ?_
  have b2:bz s2=List.replicate (wid t-(s'.size:Int)).toNat 32:=by rw[←h2,jcp (jhv _)]
  have z2:s2.size=(wid t-(s'.size:Int)).toNat:=by rw[←jal,b2,List.length_replicate]
  refine c_t (fitN (by omega)) ?_;unfold txS;rw[if_pos h,jgn (l:=txtZ v.n t) (s:=s2++s') (by rw[jbr,b2,b1,txtZ,z1])]
def K9p:Env:=((((((((((Env.nil.add 71 (sp1 s71)).addG 30 (hideS (sp2 s30))).add 322 (sp1 s322)).add 324 (sp1 s324)).addG 24 hidN).add 77 (sp3 s77)).add 115 (sp1 s115)).add 29 (sp1 s29)).add 321 (sp1 s321)).add 78 (sp1 s78)).add 223 (sp2 s223)
theorem ok_K9p:jaw Tryz.prog K9p:=jai (jai (jai (jai (jai (jai (jao (jai (jai (jao (jai jap ok71) (jcu ok30)) ok322) ok324) gen_hidN) ok77) ok115) ok29) ok321) ok78) ok223
theorem fn222:Fn1 Tryz.prog 222 Tryz.f222:= .m Tryz.func222
theorem fn170:Fn1 Tryz.prog 170 Tryz.f170:= .m Tryz.func170
theorem fn97:Fn1 Tryz.prog 97 Tryz.f97:= .m Tryz.func97
theorem fn169:Fn1 Tryz.prog 169 Tryz.f169:= .m Tryz.func169
theorem fn101:Fn1 Tryz.prog 101 Tryz.f101:= .m Tryz.func101
theorem fn168:Fn1 Tryz.prog 168 Tryz.f168:= .m Tryz.func168
theorem fn99:Fn1 Tryz.prog 99 Tryz.f99:= .m Tryz.func99
theorem fn34:Fn1 Tryz.prog 34 Tryz.f34:= .m Tryz.func34
theorem x222w(n:Int)(k:Int)(p:Int)(q:Int)(w:Bool)(u:Y)(R:Value→Prop):(jaz Tryz.prog K9p noL Tryz.f222 [.iface 174 (.agg ⟨[I n,I k,I p,I q,B w,S u]⟩)] (fun _=>none) 0 (fun v _ _=>R v))=(bif d7 n then bif d8 (-9223372036854775808) (cm 0 n) 9223372036854775807 then nj (d7 n) (szO (itoZ (cm 0 n))) q 100000 Value.nilIface R else False else bif d8 (-9223372036854775808) n 9223372036854775807 then nj (d7 n) (szO (itoZ n)) q 100000 Value.nilIface R else False):=by kernel_rfl
theorem x222b(s:Y)(R:Value→Prop):(jaz Tryz.prog K9p noL Tryz.f222 [.iface 175 (S s)] (fun _=>none) 0 (fun v _ _=>R v))=(nk (jcb (bz s)) (decide (s.size≤64)) false (szO (dz (binG (bz s) 0))) 100000 Value.nilIface R):=by kernel_rfl
theorem x222c(s:Y)(R:Value→Prop):(jaz Tryz.prog K9p noL Tryz.f222 [.iface 178 (S s)] (fun _=>none) 0 (fun v _ _=>R v))=(bif dp s then∀a:Bool,∀b:Bool,∀c:Y,∀d:Int,RdN s a b c d→dx (!a) (f0 kr (.iface 119 (b9 [S s]))) (f0 (B b::bk c [] (ak d)) Value.nilIface) R else False):=by kernel_rfl
theorem x169(s:Y)(n:Int)(c:Y)(R:Value→Prop):(jaz Tryz.prog K9p noL Tryz.f169 [S s,I n,S c] (fun _=>none) 0 (fun v _ _=>R v))=(bif decide ((s.size:Int)≥n)then bif decide ((0:Int)≤0∧0≤n∧n≤(s.size:Int))then R (S (ByteArray.extract s 0 n.toNat))else False else bif decide (0≤IntKind.wrap .i64 (n-(s.size:Int))∧IntKind.wrap .i64 (n-(s.size:Int))≤1000∧c.size≤1000)then∀(s':Y),szO (repZ (bz c) (IntKind.wrap .i64 (n-(s.size:Int))).toNat)=s'→bif jbi (s.size+s'.size)then R (S (s++s'))else False else False):=by kernel_rfl
def divT:Nat→Int→Int
 | 0,n=>n
 | k+1,n=>divT k (n/10)
theorem jjk:∀(k:Nat)(n:Int),0≤n→0≤divT k n∧divT k n≤n
 | 0,n,h=>⟨h,Int.le_refl _⟩
 | k+1,n,h=>by
  have:=jjk k (n/10) (by omega);rw[divT];omega
def V170_1:Int×Int×Int×Int×Bool×Y×Int×Int×Int→E:=fun(m,k,p,q,w,u,n,Q,i)=> [.pointer (some ⟨6,0,some 0⟩),I n,I Q,I i]
def B170_1:Int×Int×Int×Int×Bool×Y×Int×Int×Int→O:=fun(m,k,p,q,w,u,n,Q,i)=> [some ⟨[I m,I k,I p,I q,B w,S u],174,true⟩]
def S170_1:LSpec (Int×Int×Int×Int×Bool×Y×Int×Int×Int) where
 live:=[4,5,21,22]
 mid:=[6]
 n:=60
 dec vs bs:=match vs,bs with | [.pointer (some ⟨6,0,some 0⟩),.int .i64 n,.int .i64 Q,.int .i64 i],[some ⟨[.int .i64 m,.int .i64 k,.int .i64 p,.int .i64 q,.bool w,.string u],174,true⟩]=>some (m,k,p,q,w,u,n,Q,i) | _,_=>none
 pre:=fun(m,k,p,q,w,u,n,Q,i)=>decide (0≤n∧n≤2147483648∧0≤i∧i≤Q∧Q≤1000)
 fin:=fun(m,k,p,q,w,u,n,Q,i) Z=>Z (.exit 1) [.pointer (some ⟨6,0,some 0⟩),I (divT (Q-i).toNat n),I Q,I Q] [some ⟨[I m,I k,I p,I q,B w,S u],174,true⟩]
theorem r170_1(m:Int)(k:Int)(p:Int)(q:Int)(w:Bool)(u:Y)(n:Int)(Q:Int)(i:Int)(jk:Tmps)(R:Exit→E→O→Prop):(jbp Tryz.prog K9p noL Tryz.f170.ntmps (ja6 Tryz.f170 1) (tl S170_1.live (V170_1 (m,k,p,q,w,u,n,Q,i)) jk) (ml S170_1.mid (B170_1 (m,k,p,q,w,u,n,Q,i))) S170_1.n fun e t' m' _=>R e (List.map t' S170_1.live) (List.map m' S170_1.mid))=(mw R i Q (gk (ak m::ak k::ak p::gp w q [] (S u)) 174) (kw (n.tdiv 10)::cq Q i) (ak n::az Q i) 1 (aq 6)):=by kernel_rfl
theorem l170_1:LOKf Tryz.prog (oneL 1 S170_1.h) Tryz.f170:=by
 refine jbe (h:=S170_1.h) (by kernel_rfl) (ja7 ok_K9p hmix (by kernel_rfl) (ja1 _) S170_1 V170_1 B170_1 (fun(m,k,p,q,w,u,n,Q,i)=>(Q-i).toNat) ?_ ?_ ?_)
 ·intro vs bs s h;simp only[S170_1]at h;split at h
  all_goals first | (cases h;exact⟨rfl,rfl⟩) | cases h | (split at h<;>first | (rename_i hq;cases h;have hq:=jah hq;subst hq;exact⟨rfl,rfl⟩) | cases h)
 ·exact fun _ _ _ h=>h
 ·intro⟨m,k,p,q,w,u,n,Q,i⟩ jk Z hp hf;rw[r170_1];delta ct mw aq ak az au bu bp cq kw gk gp;simp only[S170_1]at hp hf;have hp:=jab hp;apply cond_intro<;>intro h
  ·have h:=jab h;rw[show(Q-i).toNat=(Q-(i+1)).toNat+1 by omega,divT]at hf;rw[Int.tdiv_eq_ediv_of_nonneg hp.1,w64 (n:=n/10) (by omega),w64 (n:=i+1) (by omega)];exact⟨(m,k,p,q,w,u,n/10,Q,i+1),rfl,rfl,by simp only[S170_1,jae];omega,by simp only;omega,hf⟩
  ·have h:=jac h;obtain rfl:i=Q:=by omega
   rw[Int.sub_self]at hf;exact hf
def sh(e:Bool)(f:Y)(a b c d g:Int)(h:Value→Prop):Prop:=bif S170_1.pre (a,(b,(c,(d,(e,(f,(g,(d,(0:Int)))))))))then Tmps→j7 (d5 d c 1000 0 d) (kc 0 (divT (Int.toNat (d-0)) g) 2147483648 0 (if b=2 then c else(332*(c-d)+99)/100) 1000) (du [Value.nilIface] (.string (szO (inB (if b=2 then c else(332*(c-d)+99)/100).toNat (divT (Int.toNat (d-0)) g))))) h else False
theorem x170w(n:Int)(k:Int)(p:Int)(q:Int)(w:Bool)(u:Y)(R:Value→Prop):(jaz Tryz.prog K9p (oneL 1 S170_1.h) Tryz.f170 [.iface 174 (.agg ⟨[I n,I k,I p,I q,B w,S u]⟩)] (fun _=>none) 0 (fun v _ _=>R v))=(bif d7 n then sh w u n k p q (cm 0 n) R else sh w u n k p q n R):=by kernel_rfl
theorem x170b(s:Y)(R:Value→Prop):(jaz Tryz.prog K9p (oneL 1 S170_1.h) Tryz.f170 [.iface 175 (S s)] (fun _=>none) 0 (fun v _ _=>R v))=(R (.tuple (.mk [S s,Value.nilIface]))):=by kernel_rfl
theorem x170c(s:Y)(R:Value→Prop):(jaz Tryz.prog K9p (oneL 1 S170_1.h) Tryz.f170 [.iface 178 (S s)] (fun _=>none) 0 (fun v _ _=>R v))=(fq (dp s) (jcb (bz s)) (du [Value.nilIface] (S s)) (du [.iface 119 (b9 [S s])] cu) R):=by kernel_rfl
def jd5(l:J)(n:Nat)(c:Int):J:=l.take n++List.replicate (n-l.length) c
def jd6(t:Ty):Int:=if t.k=2 then t.p else(332*(t.p-t.q)+99)/100
def absI(n:Int):Int:=if n<0 then -n else n
def s222:Ab.Spec:=fun args _=>match args with
 | [.iface 174 (.agg ⟨[.int .i64 n,.int .i64 _,.int .i64 _,.int .i64 q,.bool _,.string _]⟩)]=>some (decide (-2147483648≤n∧n≤2147483648∧0≤q∧q≤9),.tuple ⟨[numV (numA n q),.nilIface]⟩)
 | [.iface 175 (.string s)]=>some (jcb (bz s) &&decide (s.size≤64),.tuple ⟨[numV (ja4 false (binD (bz s)) 0),.nilIface]⟩)
 | [.iface 178 (.string s)]=>some (decide (s.size≤9223372036854775807),.tuple ⟨[numV ((rdN (bz s)).getD num0),if(rdN (bz s)).isSome=true then .nilIface else .iface 119 (.agg ⟨[.string s]⟩)]⟩)
 | _=>none
def s170:Ab.Spec:=fun args _=>match args with
 | [.iface 174 (.agg ⟨[.int .i64 n,.int .i64 k,.int .i64 p,.int .i64 q,.bool w,.string u]⟩)]=>some (decide (ja9 ⟨k,p,q,w,u⟩∧ -2147483648≤n∧n≤2147483648),.tuple ⟨[S (szO (inB (jd6 ⟨k,p,q,w,u⟩).toNat (divT q.toNat (absI n)))),.nilIface]⟩)
 | [.iface 175 (.string s)]=>some (true,.tuple ⟨[S s,.nilIface]⟩)
 | [.iface 178 (.string s)]=>some (decide (s.size≤9223372036854775807),.tuple ⟨[if jcb (bz s)=true then S s else S ⟨#[]⟩,if jcb (bz s)=true then .nilIface else .iface 119 (.agg ⟨[.string s]⟩)]⟩)
 | _=>none
def s97:Ab.Spec:=fun args _=>match args with
 | [.agg ⟨[.int .i64 n,.string s]⟩,.agg ⟨[.int .i64 k,.int .i64 p,.int .i64 q,.bool w,.string u]⟩]=>match eqI k 1,eqI k 2,eqI k 3,eqI k 4 with
  | true,_,_,_=>some (true,.iface 174 (.agg ⟨[.int .i64 n,.int .i64 1,.int .i64 p,.int .i64 q,.bool w,.string u]⟩))
  | _,true,_,_=>some (true,.iface 174 (.agg ⟨[.int .i64 n,.int .i64 2,.int .i64 p,.int .i64 q,.bool w,.string u]⟩))
  | _,_,true,_=>some (true,.iface 178 (.string s))
  | _,_,_,true=>some (true,.iface 175 (.string s))
  | _,_,_,_=>none
 | _=>none
def s169(s:Y)(n:Int)(c:Y):Bool×Value:=(decide (0≤n∧n≤1000) &&oneB c,S (szO (jd5 (bz s) n.toNat ((bz c).getD 0 0))))
theorem num_abs{n q:Int}(h: -2147483648≤n∧n≤2147483648)(hq:0≤q∧q≤9){x:Value}{m:Int}(hm:(if n<0 then -n else n)=m)
  (hx:x= .tuple ⟨[numV (ja4 (decide (n<0)) (bz (szO (itoZ m))) q),.nilIface]⟩):x= .tuple ⟨[numV (numA n q),.nilIface]⟩:=by
 rw[hx,jcp (jfe _),numA,hm]
theorem ok222:jam Tryz.prog 222 s222:=by
 refine jdc ok_K9p hmix fn222 jak fun args bs v hs=> ?_
 unfold s222 at hs;split at hs
 ·rename_i n k p q w u;simp only[Option.some.injEq,Prod.mk.injEq,jae]at hs;obtain⟨⟨h1,h2,h3,h4⟩,rfl⟩:=hs;refine⟨rfl,jag,?_⟩;rw[ja0,x222w];delta ay b9 ku f0 mb ot md nj d7 d8 cm;apply cond_intro<;>intro h
  ·have h:=jab h;have hl:=jdz (m:=0-n) (by omega);rw[w64 (n:=0-n) (by omega)];refine c_t (jaa (by omega)) (c_t (jaa ⟨by rw[jci];omega,by omega,by omega⟩) ?_);exact num_abs ⟨h1,h2⟩ ⟨h3,h4⟩ (by rw[if_pos h];omega) rfl
  ·have h:=jac h;have hl:=jdz (m:=n) (by omega);refine c_t (jaa (by omega)) (c_t (jaa ⟨by rw[jci];omega,by omega,by omega⟩) ?_);exact num_abs ⟨h1,h2⟩ ⟨h3,h4⟩ (by rw[if_neg h]) rfl
 ·rename_i s;simp only[Option.some.injEq,Prod.mk.injEq,jaf,jae]at hs;obtain⟨⟨h1,h2⟩,rfl⟩:=hs;refine⟨rfl,jag,?_⟩;rw[ja0,x222b];delta ay b9 ku f0 mb ot md np nk;have hb:=jiv h1 (by rw[jal];exact h2);have hd:=jis 20 (binG (bz s) 0) hb.1 (Int.lt_of_lt_of_le hb.2 (by decide));refine c_t (by rw[h1,jaa h2];rfl) (c_t (jaa ⟨by rw[jci];omega,by omega,by omega⟩) ?_);rw[jcp (dz_isB _),ji8]
 ·rename_i s;simp only[Option.some.injEq,Prod.mk.injEq,jae]at hs;obtain⟨h1,rfl⟩:=hs;refine⟨rfl,jag,?_⟩;rw[ja0,x222c];delta dx b9 ku f0 bk ak ao cu kr dp;refine c_t (jaa h1) fun b g d c hR=> ?_
  rcases hR with⟨r,rfl,rfl,rfl,rfl⟩ | ⟨l,r,rfl,rfl⟩
  ·refine c_t rfl ?_;rw[r];show _=Value.tuple ⟨[.agg ⟨[.bool false,.string (szO []),.int .i64 0]⟩,.iface 119 (.agg ⟨[.string s]⟩)]⟩;rw[je9]
  ·refine c_f rfl ?_;rw[r];rfl
 ·cases hs
theorem ok170:jam Tryz.prog 170 s170:=by
 refine jdc ok_K9p hmix fn170 l170_1 fun args bs v hs=> ?_
 unfold s170 at hs;split at hs
 ·rename_i n k p q w u;simp only[Option.some.injEq,Prod.mk.injEq,jae]at hs;obtain⟨⟨hv,h1,h2⟩,rfl⟩:=hs;obtain⟨v1,v2,v3,v4,v5⟩:=Fx.valid_r hv;simp only at v1 v2 v3 v4 v5;refine⟨rfl,jag,?_⟩;rw[ja0,x170w];delta ay j7 du kc d5 sh cm d7;have hbw:0≤jd6 ⟨k,p,q,w,u⟩∧jd6 ⟨k,p,q,w,u⟩≤200:=by unfold jd6;simp only;split<;>omega
  have key:∀m:Int,absI n=m→0≤m∧m≤2147483648→LSpec.pre S170_1 (n,k,p,q,w,u,m,q,0)=true∧0≤divT (q-0).toNat m∧divT (q-0).toNat m≤2147483648∧divT (q-0).toNat m=divT q.toNat (absI n):=fun m hm hr=>by
   have:=jjk (q-0).toNat m hr.1;refine⟨by simp only[S170_1,jae];omega,by omega,by omega,by rw[hm,Int.sub_zero]⟩
  apply cond_intro<;>intro h
  ·have h:=jab h;rw[w64 (n:=0-n) (by omega)];obtain⟨k1,k2,k3,k4⟩:=key (0-n) (by unfold absI;rw[if_pos h];omega) (by omega);refine c_t k1 fun x=>c_t (jaa ⟨v4,by omega,v3⟩) (c_t (jaa ⟨k2,k3,hbw.1,by have:=hbw.2;show jd6 ⟨k,p,q,w,u⟩≤1000;omega⟩) ?_)
   rw[k4];rfl
  ·have h:=jac h;obtain⟨k1,k2,k3,k4⟩:=key n (by unfold absI;rw[if_neg h]) (by omega);refine c_t k1 fun x=>c_t (jaa ⟨v4,by omega,v3⟩) (c_t (jaa ⟨k2,k3,hbw.1,by have:=hbw.2;show jd6 ⟨k,p,q,w,u⟩≤1000;omega⟩) ?_)
   rw[k4];rfl
 ·rename_i s;simp only[Option.some.injEq,Prod.mk.injEq]at hs;obtain⟨-,rfl⟩:=hs;refine⟨rfl,jag,?_⟩;rw[ja0,x170b]
 ·rename_i s;simp only[Option.some.injEq,Prod.mk.injEq,jae]at hs;obtain⟨h1,rfl⟩:=hs;refine⟨rfl,jag,?_⟩;rw[ja0,x170c];delta dx fq du ao cu b9 dp;refine c_t (jaa h1) (cond_intro (fun h=> ?_) (fun h=> ?_))
  ·rw[if_pos h,if_pos h]
  ·rw[if_neg (by rw[h];decide),if_neg (by rw[h];decide)]
 ·cases hs
theorem ok169:jam Tryz.prog 169 (sp3 s169):=by
 refine jgf ok_K9p hmix fn169 jak jag fun s n c hc=> ?_
 have hc:(decide (0≤n∧n≤1000) &&oneB c)=true:=hc;simp only[jaf,jae]at hc;obtain⟨⟨h0,h1⟩,ho⟩:=hc;obtain⟨ch,hc1,hc2⟩:=jei ho;rw[ja0];have hx:=x169 s n c (fun v=>v=(s169 s n c).2);rw[show(Enc.enc s:Value)= .string s from rfl,show(Enc.enc n:Value)= .int .i64 n from rfl,show(Enc.enc c:Value)= .string c from rfl,hx]
 have hb:bz c=[(bz c).getD 0 0]:=by
  have:c.size=1:=by rw[hc1];rfl
  have hl:(bz c).length=1:=by rw[jal];exact this
  match hq:bz c,hl with
  | [a],_=>rfl
 generalize hd:(bz c).getD 0 0=d at hb;have hcs:c.size=1:=by rw[←jal,hb];rfl
 show _;unfold s169;rw[hd];apply cond_intro<;>intro h
 ·have h:=jab h;refine c_t (jaa (by omega)) ?_;rw[jd5,show n.toNat-(bz s).length=0 by rw[jal];omega,List.replicate_zero,List.append_nil,←jdo,jcw,jf6]
 ·have h:=jac h;rw[w64 (n:=n-(s.size:Int)) (by omega)];refine c_t (jaa ⟨by omega,by omega,by omega⟩) fun s' e=> ?_
  rw[hb,jhu]at e;have hdB:IsB [d]:=by rw[←hb];exact jdq c
  have hrB:IsB (List.replicate (n-(s.size:Int)).toNat d):=fun x hx=>by rw[List.eq_of_mem_replicate hx];exact hdB d (List.mem_singleton.2 rfl)
  have b':bz s'=List.replicate (n-(s.size:Int)).toNat d:=by rw[←e,jcp hrB]
  have z':s'.size=(n-(s.size:Int)).toNat:=by rw[←jal,b',List.length_replicate]
  refine c_t (fitN (by omega)) ?_;rw[jd5,List.take_of_length_le (by rw[jal];omega),show n.toNat-(bz s).length=(n-(s.size:Int)).toNat by rw[jal];omega,←b',←jbr,jcw,jf6]
structure NumIs (x y:Num):Prop where
 h:x=y
structure RdIs (s:Y)(x:Option Num):Prop where
 h:rdN (bz s)=x
structure StrIs (x:J)(s:Y):Prop where
 h:szO x=s
structure BitsIs (s:Y)(b:Bool):Prop where
 h:jcb (bz s)=b
theorem jdg{P:Program}{f:FuncId}{s:Ab.Spec}(h:jam P f s){H:E→Lk→Nat→(Value→Lk→Nat→Prop)→Prop}
  (hH:∀args m n K,H args m n K→ ∃v,s args (args.map (blkOf m))=some (true,v)∧plain v=true∧K v m n):jcz P f H:=by
 obtain⟨hc,hp⟩:=h;refine⟨hc,fun args m n K hh N w0 ι w hrel hwf hargs=> ?_⟩;obtain⟨v,hs,hv,hk⟩:=hH args m n K hh;refine(hp args v N w0 m ι w hrel hs hv).mono fun e' w' ⟨h1,h2⟩=> ?_
 exact⟨v,m,n,ι,by rw[h1,jbg _ hv],hk,Nat.le_refl _,fun _ _=>rfl,hrel.grow h2,hwf,by simp[jbq hv]⟩
def jk7:E→Lk→Nat→(Value→Lk→Nat→Prop)→Prop:=fun args m n K=>match args with
 | [.iface 174 (.agg ⟨[.int .i64 a,.int .i64 _,.int .i64 _,.int .i64 q,.bool _,.string _]⟩)]=>match cnd (decide (-2147483648≤a∧a≤2147483648∧0≤q∧q≤9))with
  | true=>∀x:Num,NumIs (numA a q) x→K (.tuple ⟨[numV x,.nilIface]⟩) m n
  | false=>False
 | [.iface 175 (.string s)]=>match cnd (jcb (bz s) &&decide (s.size≤64))with
  | true=>∀x:Num,NumIs (ja4 false (binD (bz s)) 0) x→K (.tuple ⟨[numV x,.nilIface]⟩) m n
  | false=>False
 | [.iface 178 (.string s)]=>match cnd (decide (s.size≤9223372036854775807))with
  | true=>(∀x:Num,RdIs s (some x)→K (.tuple ⟨[numV x,.nilIface]⟩) m n)∧(RdIs s none→K (.tuple ⟨[.agg ⟨[.bool false,.string ⟨#[]⟩,.int .i64 0]⟩,.iface 119 (.agg ⟨[.string s]⟩)]⟩) m n)
  | false=>False
 | _=>False
theorem gen_hid222:jcz Tryz.prog 222 jk7:=by
 refine jdg ok222 fun args m n K hh=> ?_
 unfold jk7 at hh;split at hh
 ·split at hh
  case h_2=>exact hh.elim
  rename_i hcc;exact⟨_,congrArg some (Prod.ext hcc rfl),rfl,hh _ ⟨rfl⟩⟩
 ·split at hh
  case h_2=>exact hh.elim
  rename_i hcc;exact⟨_,congrArg some (Prod.ext hcc rfl),rfl,hh _ ⟨rfl⟩⟩
 ·split at hh
  case h_2=>exact hh.elim
  rename_i s _ hcc;cases hr:rdN (bz s)with
  | some x=>
   refine⟨_,congrArg some (Prod.ext hcc rfl),?_,?_⟩
   ·rw[hr];rfl
   ·rw[hr];exact hh.1 x ⟨hr⟩
  | none=>
   refine⟨_,congrArg some (Prod.ext hcc rfl),?_,?_⟩
   ·rw[hr];rfl
   ·rw[hr];have:=hh.2 ⟨hr⟩;rw[←je9]at this;exact this
 ·exact hh.elim
def jk8:E→Lk→Nat→(Value→Lk→Nat→Prop)→Prop:=fun args m n K=>match args with
 | [.iface 174 (.agg ⟨[.int .i64 a,.int .i64 k,.int .i64 p,.int .i64 q,.bool w,.string u]⟩)]=>match cnd (decide (ja9 ⟨k,p,q,w,u⟩∧ -2147483648≤a∧a≤2147483648))with
  | true=>∀s:Y,StrIs (inB (jd6 ⟨k,p,q,w,u⟩).toNat (divT q.toNat (absI a))) s→K (.tuple ⟨[S s,.nilIface]⟩) m n
  | false=>False
 | [.iface 175 (.string s)]=>K (.tuple ⟨[S s,.nilIface]⟩) m n
 | [.iface 178 (.string s)]=>match cnd (decide (s.size≤9223372036854775807))with
  | true=>(BitsIs s true→K (.tuple ⟨[S s,.nilIface]⟩) m n)∧(BitsIs s false→K (.tuple ⟨[S ⟨#[]⟩,.iface 119 (.agg ⟨[.string s]⟩)]⟩) m n)
  | false=>False
 | _=>False
theorem gen_hid170:jcz Tryz.prog 170 jk8:=by
 refine jdg ok170 fun args m n K hh=> ?_
 unfold jk8 at hh;split at hh
 ·split at hh
  case h_2=>exact hh.elim
  rename_i hcc;exact⟨_,congrArg some (Prod.ext hcc rfl),rfl,hh _ ⟨rfl⟩⟩
 ·exact⟨_,rfl,rfl,hh⟩
 ·split at hh
  case h_2=>exact hh.elim
  rename_i s _ hcc;cases hr:jcb (bz s)with
  | true=>
   refine⟨_,congrArg some (Prod.ext hcc rfl),?_,?_⟩
   ·rw[hr];rfl
   ·rw[hr];exact hh.1 ⟨hr⟩
  | false=>
   refine⟨_,congrArg some (Prod.ext hcc rfl),?_,?_⟩
   ·rw[hr];rfl
   ·rw[hr];exact hh.2 ⟨hr⟩
 ·exact hh.elim
instance tabsU:Tabs:=tabs
def Ua:Env:=(Env.nil.add 146 (sp2 Px.s22)).add 61 (sp1 Px.s46)
def Ub:Env:=((Env.nil.addG 222 jk7).addG 170 jk8).addG 224 (inlQ Tryz.prog Ua noL Tryz.f224)
theorem fn224:Fn1 Tryz.prog 224 Tryz.f224:= .m Tryz.func224
theorem ok_Ua:jaw Tryz.prog Ua:=jai (jai jap Px.ok22) Px.ok46
theorem ok_Ub:jaw Tryz.prog Ub:=jao (jao (jao jap gen_hid222) gen_hid170) (jar ok_Ua hmix fn224 jak)
def qw(c:Bool)(a b:Y)(d:Prop):Prop:=bif g0 a b.size 9223372036854775807 9223372036854775807 then k8 c b d False else False
def mc(a b:Y):Int:=(rdV (bz a) (bz b)).fst
theorem u222(s:Y)(p:Y)(R:Value→Prop):(jaz Tryz.prog Ub noL Tryz.f222 [.iface 177 (.agg ⟨[.string s,.string p]⟩)] (fun _=>none) 0 (fun v _ _=>R v))=(qw (kc (-2147483648) (mc p s) 2147483648 0 (pQ (bz p)) 9) s p (∀a:Cv.Num,NumIs (numA (mc p s) (pQ (bz p))) a→R (f0 (mb (Prod.fst a) (Prod.snd a)) Value.nilIface))):=by kernel_rfl
theorem u170(s:Y)(p:Y)(R:Value→Prop):(jaz Tryz.prog Ub noL Tryz.f170 [.iface 177 (.agg ⟨[.string s,.string p]⟩)] (fun _=>none) 0 (fun v _ _=>R v))=(qw (decide (Fx.ja9 (lb p)∧ -(2147483648:Int)≤mc p s∧mc p s≤2147483648)) s p (∀a:Y,StrIs (inB (jd6 (lb p)).toNat (divT (pQ (bz p)).toNat (absI (mc p s)))) a→R (du [Value.nilIface] (.string a)))):=by kernel_rfl
theorem rdV_r{s t:Y}(h:pN (bz s)=true): -1000000000<(rdV (bz s) (bz t)).1∧(rdV (bz s) (bz t)).1<1000000000:=by
 have hp:=je1 h;have hv:=jjz (jfb s) h (rdA (bz s) (bz t));obtain⟨g1,g2,g3,g4,g5,g6⟩:=hv;have hr:0≤rdA (bz s) (bz t)∧rdA (bz s) (bz t)<1000000000:=jge _ _ 0 0 (by omega) (by decide) (by omega);unfold rdV;rw[if_pos h]
 repeat' split
 all_goals (simp only;omega)
abbrev pT(p:Y):Ty:=⟨tyK (bz p),tyP (bz p),pQ (bz p),false,⟨#[]⟩⟩
theorem pT_v{p:Y}(h:pN (bz p)=true):ja9 (pT p)∧0≤pQ (bz p)∧pQ (bz p)≤9:=by
 obtain⟨h1,h2,h3,h4⟩:=je1 h;have hv:=jdf h
 have e:tyK (bz p)=1∧tyP (bz p)=pD (bz p):=by
  unfold tyK tyP;rw[if_pos hv,if_pos hv,if_pos h,if_pos h];exact⟨rfl,rfl⟩
 refine⟨⟨.inl e.1,?_,?_,h3,?_,?_,rfl,by rw[ByteArray.toList_eq]⟩,h3,by omega⟩
 ·show 1≤tyP (bz p);omega
 ·show tyP (bz p)≤most (tyK (bz p));rw[e.1];unfold most;rw[if_pos rfl];omega
 ·show pQ (bz p)≤tyP (bz p);omega
 ·show tyK (bz p)=2→_;omega
def s222s:Ab.Spec:=fun args _=>match args with
 | [.iface 177 (.agg ⟨[.string s,.string p]⟩)]=>some (pN (bz p) &&decide (s.size≤9223372036854775807∧p.size≤9223372036854775807),.tuple ⟨[numV (numA (rdV (bz p) (bz s)).1 (pQ (bz p))),.nilIface]⟩)
 | _=>none
theorem ok222s:jam Tryz.prog 222 s222s:=by
 refine jdc ok_Ub hmix fn222 jak fun args bs v hs=> ?_
 unfold s222s at hs;split at hs
 case h_2=>cases hs
 rename_i s p;simp only[Option.some.injEq,Prod.mk.injEq,jaf,jae]at hs;obtain⟨⟨hn,h1,h2⟩,rfl⟩:=hs;refine⟨rfl,jag,?_⟩;rw[ja0,u222];delta av dp k8 g0 qw b9 ku f0 mb mc kc;have hr:=rdV_r (t:=s) hn;have hp:=pT_v hn;exact c_t (jaa ⟨h2,h1⟩) (c_t (jaa h2) (c_t (jaa (by omega)) fun x hx=>by rw[←hx.h]))
def s170s:Ab.Spec:=fun args _=>match args with
 | [.iface 177 (.agg ⟨[.string s,.string p]⟩)]=>some (pN (bz p) &&decide (s.size≤9223372036854775807∧p.size≤9223372036854775807),.tuple ⟨[S (szO (inB (jd6 (pT p)).toNat (divT (pQ (bz p)).toNat (absI (rdV (bz p) (bz s)).1)))),.nilIface]⟩)
 | _=>none
theorem ok170s:jam Tryz.prog 170 s170s:=by
 refine jdc ok_Ub hmix fn170 jak fun args bs v hs=> ?_
 unfold s170s at hs;split at hs
 case h_2=>cases hs
 rename_i s p;simp only[Option.some.injEq,Prod.mk.injEq,jaf,jae]at hs;obtain⟨⟨hn,h1,h2⟩,rfl⟩:=hs;refine⟨rfl,jag,?_⟩;rw[ja0,u170];delta av dp k8 g0 qw du mc ao lb;have hr:=rdV_r (t:=s) hn;have hp:=pT_v hn;exact c_t (jaa ⟨h2,h1⟩) (c_t (jaa h2) (c_t (jaa ⟨hp.1,by omega,by omega⟩) fun x hx=>by rw[←hx.h]))
def hu222:E→Lk→Nat→(Value→Lk→Nat→Prop)→Prop:=fun args m n K=>match args with
 | [.iface 177 (.agg ⟨[.string s,.string p]⟩)]=>match cnd (pN (bz p) &&decide (s.size≤9223372036854775807∧p.size≤9223372036854775807))with
  | true=>∀x:Num,NumIs (numA (rdV (bz p) (bz s)).1 (pQ (bz p))) x→K (.tuple ⟨[numV x,.nilIface]⟩) m n
  | false=>False
 | _=>jk7 args m n K
def hu170:E→Lk→Nat→(Value→Lk→Nat→Prop)→Prop:=fun args m n K=>match args with
 | [.iface 177 (.agg ⟨[.string s,.string p]⟩)]=>match cnd (pN (bz p) &&decide (s.size≤9223372036854775807∧p.size≤9223372036854775807))with
  | true=>∀b:Y,StrIs (inB (jd6 (pT p)).toNat (divT (pQ (bz p)).toNat (absI (rdV (bz p) (bz s)).1))) b→K (.tuple ⟨[S b,.nilIface]⟩) m n
  | false=>False
 | _=>jk8 args m n K
theorem gen_two{f:FuncId}{H1 H2 H:E→Lk→Nat→(Value→Lk→Nat→Prop)→Prop}(h1:jcz Tryz.prog f H1)(h2:jcz Tryz.prog f H2)(h:∀args m n K,H args m n K→H1 args m n K∨H2 args m n K):jcz Tryz.prog f H:=
 ⟨h1.1,fun args m n K hh=>(h args m n K hh).elim (fun q=>h1.2 args m n K q) (fun q=>h2.2 args m n K q)⟩
def hs222:E→Lk→Nat→(Value→Lk→Nat→Prop)→Prop:=fun args m n K=>match args with
 | [.iface 177 (.agg ⟨[.string s,.string p]⟩)]=>match cnd (pN (bz p) &&decide (s.size≤9223372036854775807∧p.size≤9223372036854775807))with
  | true=>∀x:Num,NumIs (numA (rdV (bz p) (bz s)).1 (pQ (bz p))) x→K (.tuple ⟨[numV x,.nilIface]⟩) m n
  | false=>False
 | _=>False
theorem gen_hs222:jcz Tryz.prog 222 hs222:=by
 refine jdg ok222s fun args m n K hh=> ?_
 unfold hs222 at hh;split at hh
 case h_2=>exact hh.elim
 split at hh
 case h_2=>exact hh.elim
 rename_i hcc;exact⟨_,congrArg some (Prod.ext hcc rfl),rfl,hh _ ⟨rfl⟩⟩
theorem gen_hu222:jcz Tryz.prog 222 hu222:=gen_two gen_hs222 gen_hid222 fun args m n K hh=>by
 unfold hu222 at hh;split at hh
 ·exact .inl hh
 ·exact .inr hh
def hs170:E→Lk→Nat→(Value→Lk→Nat→Prop)→Prop:=fun args m n K=>match args with
 | [.iface 177 (.agg ⟨[.string s,.string p]⟩)]=>match cnd (pN (bz p) &&decide (s.size≤9223372036854775807∧p.size≤9223372036854775807))with
  | true=>∀b:Y,StrIs (inB (jd6 (pT p)).toNat (divT (pQ (bz p)).toNat (absI (rdV (bz p) (bz s)).1))) b→K (.tuple ⟨[S b,.nilIface]⟩) m n
  | false=>False
 | _=>False
theorem gen_hs170:jcz Tryz.prog 170 hs170:=by
 refine jdg ok170s fun args m n K hh=> ?_
 unfold hs170 at hh;split at hh
 case h_2=>exact hh.elim
 split at hh
 case h_2=>exact hh.elim
 rename_i hcc;exact⟨_,congrArg some (Prod.ext hcc rfl),rfl,hh _ ⟨rfl⟩⟩
theorem gen_hu170:jcz Tryz.prog 170 hu170:=gen_two gen_hs170 gen_hid170 fun args m n K hh=>by
 unfold hu170 at hh;split at hh
 ·exact .inl hh
 ·exact .inr hh
structure EdIs (p:Y)(n q:Int)(x:Y×Bool×Int):Prop where
 h:(sz (edS (bz p) n q),edF (bz p) n q,edE (bz p) q)=x
def hu171:E→Lk→Nat→(Value→Lk→Nat→Prop)→Prop:=fun args m n K=>match args with
 | [.int .i64 a,.int .i64 q,.string p]=>match cnd (decide (p.size≤9223372036854775807∧ -9223372036854775808≤a∧a≤9223372036854775807))with
  | true=>∀(s:Y)(b:Bool)(e:Int),EdIs p a q (s,b,e)→K (.tuple ⟨[S s,B b,I e]⟩) m n
  | false=>False
 | _=>False
theorem gen_hu171:jcz Tryz.prog 171 hu171:=by
 refine jdg Px.ok20 fun args m n K hh=> ?_
 unfold hu171 at hh;split at hh
 case h_2=>exact hh.elim
 split at hh
 case h_2=>exact hh.elim
 rename_i hcc;exact⟨_,congrArg some (Prod.ext hcc rfl),rfl,hh _ _ _ ⟨rfl⟩⟩
structure HoIs (p s:Y)(b:Bool):Prop where
 h:hoZ (bz p) (bz s)=b
def hu72:E→Lk→Nat→(Value→Lk→Nat→Prop)→Prop:=fun args m n K=>match args with
 | [.string p,.string s]=>match cnd (decide (p.size≤9223372036854775807∧s.size≤9223372036854775807))with
  | true=>∀b:Bool,HoIs p s b→K (B b) m n
  | false=>False
 | _=>False
theorem gen_hu72:jcz Tryz.prog 72 hu72:=by
 refine jdg Px.ok24 fun args m n K hh=> ?_
 unfold hu72 at hh;split at hh
 case h_2=>exact hh.elim
 split at hh
 case h_2=>exact hh.elim
 rename_i hcc;exact⟨_,congrArg some (Prod.ext hcc rfl),rfl,hh _ ⟨rfl⟩⟩
instance tabsU4:Tabs:=tabs
def s323u:Ab.Spec:=fun args _=>match args with
 | [.agg ⟨[.string s,.string _]⟩]=>some (true,.string s)
 | _=>none
def U0:Env:=(Env.nil.add 26 (sp2 s26)).addG 222 hu222
def U1:Env:=((((((((((Env.nil.add 321 (sp1 s321)).addG 170 hu170).addG 169 (hideS (sp3 s169))).addG 171 hu171).addG 72 hu72).add 59 (sp1 Px.s31)).add 61 (sp1 Px.s46)).add 322 (sp1 s322)).add 323 s323u).add 324 (sp1 s324)).addG 168 (inlQ Tryz.prog U0 noL Tryz.f168)
theorem fn323u:Fn1 Tryz.prog 323 Tryz.f323:= .m Tryz.func323
theorem u323(s p:Y)(R:Value→Prop):jaz Tryz.prog Env.nil noL Tryz.f323 [.agg ⟨[.string s,.string p]⟩] (fun _=>none) 0 (fun v _ _=>R v)=R (Value.string s):=by kernel_rfl
theorem ok323u:jam Tryz.prog 323 s323u:=by
 refine jdc jap hmix fn323u jak fun args bs v hs=> ?_
 unfold s323u at hs;split at hs
 case h_2=>cases hs
 cases hs;refine⟨rfl,jag,?_⟩;rw[ja0,u323]
theorem ok_U0:jaw Tryz.prog U0:=jao (jai jap ok26) gen_hu222
theorem ok_U1:jaw Tryz.prog U1:=jao (jai (jai (jai (jai (jai (jao (jao (jao (jao (jai jap ok321) gen_hu170) (jcu ok169)) gen_hu171) gen_hu72) Px.ok31) Px.ok46) ok322) ok323u) ok324) (jar ok_U0 hmix fn168 jak)
abbrev tp3(a:Int)(s:Y)(c:Int)(e:Value):Value:= .tuple ⟨[.agg ⟨[I a,S s]⟩,I c,e]⟩
abbrev er(s:Y):Value:= .iface 119 (.agg ⟨[.string s]⟩)
def tlA(R:Value→Prop)(t:Ty)(x:Num):Prop:=bif decide (ByteArray.size (szO x.2.1)≤9223372036854775807)then R (tp3 (tkV x.1 (bz (szO x.2.1)) x.2.2 t).1 ⟨#[]⟩ (tkV x.1 (bz (szO x.2.1)) x.2.2 t).2.1 .nilIface)else False
def tlC(R:Value→Prop)(t:Ty)(s:Y):Prop:=bif !t.v || true then bif !t.v || decide ((↑(ByteArray.size s):Int)>t.p)then bif decide (0≤t.p∧t.p≤1000) &&true then
  ∀s':Y,szO (jd5 (bz s) (Int.toNat t.p) (List.getD (bz (ByteArray.mk #[32])) 0 0))=s'→R (tp3 0 s' 0 .nilIface)else False else R (tp3 0 s 0 .nilIface)else False
def tlB(R:Value→Prop)(t:Ty)(e:Value)(s:Y):Prop:=bif decide (0≤t.p∧t.p≤1000) &&true then
  ∀s':Y,szO (jd5 (bz s) (Int.toNat t.p) (List.getD (bz (ByteArray.mk #[48])) 0 0))=s'→R (tp3 0 s' 0 e)else False
def tlX(R:Value→Prop)(t:Ty)(s:Y):Prop:=bif decide (0≤tyP (bz t.s)∧tyP (bz t.s)≤1000) &&true then
  ∀s':Y,szO (jd5 (bz s) (Int.toNat (tyP (bz t.s))) (List.getD (bz (ByteArray.mk #[32])) 0 0))=s'→bif decide (ByteArray.size t.s≤9223372036854775807∧ByteArray.size s'≤9223372036854775807)then
   ∀b:Bool,HoIs t.s s' b→bif !b then R (tp3 0 ⟨#[]⟩ 0 (er s'))else R (tp3 0 s' 0 .nilIface)else False else False
def tlE(R:Value→Prop)(t:Ty)(x:Num):Prop:=bif decide (ByteArray.size (szO x.2.1)≤9223372036854775807)then bif decide (ByteArray.size t.s≤9223372036854775807∧ -9223372036854775808≤(tkV x.1 (bz (szO x.2.1)) x.2.2 (pT t.s)).1∧(tkV x.1 (bz (szO x.2.1)) x.2.2 (pT t.s)).1≤9223372036854775807)then
  ∀(s:Y)(b:Bool)(e:Int),EdIs t.s (tkV x.1 (bz (szO x.2.1)) x.2.2 (pT t.s)).1 (pQ (bz t.s)) (s,b,e)→bif !b then R (tp3 0 s 1 .nilIface)else R (tp3 0 s (tkV x.1 (bz (szO x.2.1)) x.2.2 (pT t.s)).2.1 .nilIface)else False else False
def skU(R:Value→Prop)(t:Ty)(nm:(Num→Prop)→Prop)(tx:(Y→Prop)→Prop)(bt:Prop):Prop:=
 bif t.k==1 then nm (tlA R t)else bif t.k==2 then nm (tlA R t)else bif t.k==3 then tx (tlC R t)else bif t.k==4 then bt else
 bif decide (ByteArray.size t.s≤9223372036854775807)then bif decide (ByteArray.size t.s≤9223372036854775807)then bif !pN (bz t.s)then tx (tlX R t)∧tx (tlX R t)∧tx (tlX R t)else nm (tlE R t)else False else False
theorem u99_w(n k p q:Int)(w:Bool)(u:Y)(t:Ty)(R:Value→Prop):jaz Tryz.prog U1 noL Tryz.f99 [.iface 174 (.agg ⟨[.int .i64 n,.int .i64 k,.int .i64 p,.int .i64 q,.bool w,.string u]⟩),Enc.enc t] (fun _=>none) 0 (fun v _ _=>R v)=(skU R t (fun a=>bif kc (-2147483648) n 2147483648 0 q 9 then∀b:Cv.Num,NumIs (numA n q) b→a b else False) (fun a=>bif decide (Fx.ja9 (Fx.Ty.mk k p q w u)∧ -(2147483648:Int)≤n∧n≤2147483648)then a (szO (txtZ n (Fx.Ty.mk k p q w u)))else False) (bif decide (Fx.ja9 (Fx.Ty.mk k p q w u)∧ -(2147483648:Int)≤n∧n≤2147483648)then∀a:Y,StrIs (inB (jd6 (Fx.Ty.mk k p q w u)).toNat (divT q.toNat (absI n))) a→tlB R t Value.nilIface a else False)):=by kernel_rfl
theorem u99_b(s:Y)(t:Ty)(R:Value→Prop):jaz Tryz.prog U1 noL Tryz.f99 [.iface 175 (.string s),Enc.enc t] (fun _=>none) 0 (fun v _ _=>R v)=(skU R t (fun a=>bif jcb (bz s) &&decide (s.size≤64)then∀b:Cv.Num,NumIs (ja4 false (binD (bz s)) 0) b→a b else False) (fun a=>a s) (tlB R t Value.nilIface s)):=by kernel_rfl
theorem u99_c(s:Y)(t:Ty)(R:Value→Prop):jaz Tryz.prog U1 noL Tryz.f99 [.iface 178 (.string s),Enc.enc t] (fun _=>none) 0 (fun v _ _=>R v)=(skU R t (fun a=>bif dp s then(∀b:Cv.Num,RdIs s (some b)→a b)∧(RdIs s none→R (tp3 0 ao 0 (er s)))else False) (fun a=>a s) (bif dp s then(BitsIs s true→tlB R t Value.nilIface s)∧(BitsIs s false→tlB R t (er s) ao)else False)):=by kernel_rfl
theorem u99_p(s pc:Y)(t:Ty)(R:Value→Prop):jaz Tryz.prog U1 noL Tryz.f99 [.iface 177 (.agg ⟨[.string s,.string pc]⟩),Enc.enc t] (fun _=>none) 0 (fun v _ _=>R v)=(skU R t (fun a=>bif pN (bz pc) &&g0 pc s.size 9223372036854775807 9223372036854775807 then∀b:Cv.Num,NumIs (numA (mc pc s) (pQ (bz pc))) b→a b else False) (fun a=>a s) (bif pN (bz pc) &&g0 pc s.size 9223372036854775807 9223372036854775807 then∀a:Y,StrIs (inB (jd6 (pT pc)).toNat (divT (pQ (bz pc)).toNat (absI (mc pc s)))) a→tlB R t Value.nilIface a else False)):=by kernel_rfl
end Go.Cx
end
noncomputable section
namespace Go.Cx
open Go Go.Ab Go.Proofs Go.Shelf Go.Px Go.Cv
theorem nz_len(l:J):(nz l).length≤l.length:=Nat.le_trans (jjv _ _) (jg3 _ _)
theorem jgg(g:Bool)(l:J)(q:Int):(ja4 g l q).2.1.length≤l.length:=by
 unfold ja4;split
 ·simp
 ·exact nz_len l
theorem decR_len{g:Bool}{l:J}{x:Num}(h:decR ja4 g l=some x):x.2.1.length≤l.length+l.length:=by
 rw[jkt]at h;cases hd:decE l with
 | none=>rw[hd]at h;cases h
 | some e=>
  rw[hd]at h;have h:decB g (Cv.ahead 69 l) e=some x:=h;unfold decB at h;split at h
  ·cases h;refine Nat.le_trans (jgg _ _ _) ?_;have h1:=jfz 69 l;have h2:=jfz 46 (Cv.ahead 69 l)
   have h3:((past 46 (Cv.ahead 69 l)).getD []).length≤l.length:=by
    rw[jdw];split
    ·rw[Option.getD_some,List.length_drop];omega
    ·simp
   rw[List.length_append];omega
  ·cases h
theorem jjs{g:Bool}{l:J}{x:Num}(hl:l.length≤255)(h:bodR ja4 binD g l=some x):x.2.1.length≤600:=by
 unfold bodR at h;split at h
 ·split at h
  ·rename_i q;cases h;refine Nat.le_trans (jgg _ _ _) ?_;have hr:=bin_31 q.2 (by rw[List.length_dropLast];exact q.1);rw[binD,decZ,zl,List.length_map];have:=jgl 9 (binG l.dropLast 0).toNat (by omega);omega
  ·cases h
 ·have:=decR_len h;omega
theorem rdN_len(l:J):((rdN l).getD num0).2.1.length≤600:=by
 cases h:rdN l with
 | none=>simp[num0]
 | some x=>
  rw[Option.getD_some];unfold rdN at h;split at h
  ·cases h
  rename_i hl;have h1:=jjv (tlZ l 32) 32;have h2:=jg3 l 32;unfold numR at h;rw[trL_eq,trR_eq]at h;generalize trZ (tlZ l 32) 32=u at h h1;unfold sgnR at h;split at h
  ·cases h;simp
  ·rename_i r _;exact jjs (by simp at h1;omega) h
  ·rename_i r _;exact jjs (by simp at h1;omega) h
  ·exact jjs (by omega) h
end Go.Cx
end
noncomputable section
namespace Go.Cx
open Go Go.Ab Go.Px Go.Cv
open Go.Fx (Ty Vl check ja9 most base pw bnd Fit fits scl cutN cutC InB)
theorem decG_app(l r:J)(a:Int):decG (l++r) a=decG r (decG l a):=by
 rw[jgx,jgx,jgx,List.foldl_append]
theorem jjn:∀(k:Nat)(a:Int),decG (rep48 k) a=a*10^k
 | 0,a=>by simp[rep48,decG]
 | k+1,a=>by
  rw[rep48,List.replicate_succ,decG,←rep48,jjn k,Int.pow_succ];grind
theorem tl_app(l:J):∃k,l=rep48 k++tlZ l 48:=by
 induction l with
 | nil=>exact⟨0,rfl⟩
 | cons c r ih=>
  by_cases h:c=48
  ·subst h;obtain⟨k,e⟩:=ih;refine⟨k+1,?_⟩;rw[jkd,rep48,List.replicate_succ,List.cons_append,←rep48,←e]
  ·exact⟨0,by rw[tl_ne h];rfl⟩
theorem tr_app(l:J):∃k,l=trZ l 48++rep48 k∧l.length=(trZ l 48).length+k:=by
 obtain⟨k,e⟩:=tl_app l.reverse;refine⟨k,?_,?_⟩
 ·have:=congrArg List.reverse e;rw[List.reverse_reverse,List.reverse_append,rep48,List.reverse_replicate,←rep48]at this;exact this
 ·have:=congrArg List.length e;rw[List.length_reverse,List.length_append,rep48,List.length_replicate]at this;rw[trZ,List.length_reverse];unfold tlZ at this;omega
theorem nz_val(l:J):∃k:Nat,decG l 0=decG (nz l) 0*10^k∧(tlZ l 48).length=(nz l).length+k:=by
 obtain⟨j,e⟩:=tl_app l;obtain⟨k,e2,e3⟩:=tr_app (tlZ l 48);refine⟨k,?_,e3⟩
 have e1:decG l 0=decG (tlZ l 48) 0:=by
  have:=decG_app (rep48 j) (tlZ l 48) 0;rw[←e,jjn,Int.zero_mul]at this;exact this
 rw[e1];have:=decG_app (nz l) (rep48 k) 0;rw[jjn]at this;rw[←this];exact congrArg (decG · 0) e2
theorem nz_digs{l:J}(h:jbu l=true):jbu (nz l)=true:=List.all_eq_true.2 fun c hc=>by
 refine List.all_eq_true.1 h c ?_;unfold nz trZ at hc;rw[List.mem_reverse]at hc;have h1:=(List.dropWhile_sublist _).subset hc;rw[List.mem_reverse]at h1;exact(List.dropWhile_sublist _).subset h1
theorem jkp{p:Int→Bool}:∀(l:J)(c:Int),(l.dropWhile p).head?=some c→p c=false
 | [],c,h=>by cases h
 | a::r,c,h=>by
  by_cases ha:p a=true
  ·rw[List.dropWhile_cons_of_pos ha]at h;exact jkp r c h
  ·rw[List.dropWhile_cons_of_neg ha]at h;cases h;simpa using ha
theorem nz_head{l:J}:(nz l).head?≠some 48∧(nz l).getLast?≠some 48:=by
 constructor
 ·intro q;obtain⟨k,e,_⟩:=tr_app (tlZ l 48)
  have:(tlZ l 48).head?=some 48:=by
   rw[e];change (nz l++rep48 k).head?=_;rw[List.head?_append,q];rfl
  have:=jkp l 48 this;simp at this
 ·intro q;unfold nz trZ at q;rw[List.getLast?_reverse]at q;have:=jkp _ 48 q;simp at this
end Go.Cx
end
noncomputable section
set_option maxHeartbeats 3200000
namespace Go.Cx
open Go Go.Ab Go.Proofs Go.Shelf Go.Px Go.Cv
open Go.Fx (Ty Vl check ja9 most base pw bnd Fit fits tv vv tup V0 T0 jbh jbl jbc jbx str0)
inductive Fu where
 | w (n:Int) (t:Ty)
 | b (s:Y)
 | c (s:Y)
 | p (s pc:Y)
def numU:Fu→Option Num
 | .w n t=>some (numA n t.q)
 | .b s=>some (ja4 false (binD (bz s)) 0)
 | .c s=>rdN (bz s)
 | .p s pc=>some (numA (rdV (bz pc) (bz s)).1 (pQ (bz pc)))
def txtU:Fu→Y
 | .w n t=>szO (txtZ n t)
 | .b s=>s
 | .c s=>s
 | .p s _=>s
def bitU:Fu→Option Y
 | .w n t=>some (szO (inB (jd6 t).toNat (divT t.q.toNat (absI n))))
 | .b s=>some s
 | .c s=>if jcb (bz s)=true then some s else none
 | .p s pc=>some (szO (inB (jd6 (pT pc)).toNat (divT (pQ (bz pc)).toNat (absI (rdV (bz pc) (bz s)).1))))
abbrev Cu:=Int×Y×Int×Option Y
def tkU(x:Num)(t:Ty):Int×Int×Int:=tkV x.1 (bz (szO x.2.1)) x.2.2 t
def fiU(s:Y)(n c:Int):Y:=szO (jd5 (bz s) n.toNat c)
def cuN(f:Fu)(C:Num→Cu):Cu:=match numU f with
 | some x=>C x
 | none=>(0,⟨#[]⟩,0,some (txtU f))
def cuV(f:Fu)(t:Ty):Cu:=
 if t.k=1∨t.k=2 then cuN f fun x=>((tkU x t).1,⟨#[]⟩,(tkU x t).2.1,none)
 else if t.k=3 then(0,if t.v=true∧ ¬((txtU f).size:Int)>t.p then txtU f else fiU (txtU f) t.p 32,0,none)
 else if t.k=4 then(0,fiU ((bitU f).getD ⟨#[]⟩) t.p 48,0,if(bitU f).isSome then none else some (txtU f))
 else if pN (bz t.s)=true then cuN f fun x=>(0,sz (edS (bz t.s) (tkU x (pT t.s)).1 (pQ (bz t.s))),if edF (bz t.s) (tkU x (pT t.s)).1 (pQ (bz t.s))=true then(tkU x (pT t.s)).2.1 else 1,none)
 else if hoZ (bz t.s) (bz (fiU (txtU f) (tyP (bz t.s)) 32))=true then(0,fiU (txtU f) (tyP (bz t.s)) 32,0,none)else(0,⟨#[]⟩,0,some (fiU (txtU f) (tyP (bz t.s)) 32))
def cuF:Fu→Prop
 | .w n u=>ja9 u∧ -2147483648≤n∧n≤2147483648
 | .b s=>jcb (bz s)=true∧s.size≤64
 | .c s=>s.size≤9223372036854775807
 | .p s pc=>pN (bz pc)=true∧s.size≤9223372036854775807∧pc.size≤9223372036854775807
def cuA(f:Fu)(t:Ty):Prop:=cuF f∧chk4 t=0∧t.k≠6∧t.s.size≤9223372036854775807
def eV:Option Y→Value
 | none=> .nilIface
 | some s=>er s
abbrev cuR(x:Cu):Value:=tp3 x.1 x.2.1 x.2.2.1 (eV x.2.2.2)
theorem numU_len{f:Fu}(h:cuF f){x:Num}(hx:numU f=some x):x.2.1.length≤600:=by
 cases f with
 | w n u=>
  obtain⟨hv,h1,h2⟩:=h;cases hx;show(numA n u.q).2.1.length≤600;refine Nat.le_trans (jgg _ _ _) ?_;have:=jdz (m:=if n<0 then -n else n) (by split<;>omega);omega
 | b s=>
  cases hx;have hb:=jiv h.1 (by rw[jal];exact h.2);have hd:=jis 20 (binG (bz s) 0) hb.1 (Int.lt_of_lt_of_le hb.2 (by decide));show(ja4 false (binD (bz s)) 0).2.1.length≤600;rw[←ji8];exact Nat.le_trans (jgg _ _ _) (by omega)
 | c s=>
  have:=rdN_len (bz s);rw[show rdN (bz s)=some x from hx]at this;exact this
 | p s pc=>
  cases hx;have hr:=rdV_r (t:=s) h.1;show(numA (rdV (bz pc) (bz s)).1 (pQ (bz pc))).2.1.length≤600;refine Nat.le_trans (jgg _ _ _) ?_;have:=jdz (m:=if(rdV (bz pc) (bz s)).1<0 then -(rdV (bz pc) (bz s)).1 else(rdV (bz pc) (bz s)).1) (by split<;>omega);omega
theorem tkV_rng(g:Bool)(l:J)(c:Int)(t:Ty): -2147483648≤(tkV g l c t).1∧(tkV g l c t).1≤2147483648:=by
 unfold tkV;split
 ·simp
 rename_i hn;split
 ·simp
 rename_i hv;have hv:ja9 t:=Classical.not_not.1 hv;have hb:=Fx.bnd_range hv
 have hd:jbu l=true:=by
  unfold jd4 at hn;split at hn
  ·rename_i e;rw[e];rfl
  ·simp at hn;exact hn.2.1
 have hr:=jga (b:=bnd t) (by omega) (plcR l c t.q) 0 0 (jea hd) (by omega);unfold tkR;simp only;split<;>omega
theorem k5_of{t:Ty}(h:chk4 t=0)(h6:t.k≠6)(h1:¬(t.k=1∨t.k=2))(h3:t.k≠3)(h4:t.k≠4):t.k=5∧vOK (bz t.s)=true:=by
 unfold chk4 at h;have hv:ja9 t→t.k=1∨t.k=2:=fun h=>h.1
 rw[if_neg (fun q=>h1 (hv q)),if_neg (fun q=>h3 q.1),if_neg (fun q=>h4 q.1)]at h;split at h
 ·rename_i q;refine⟨q.1,?_⟩;have:=q.2.2.2.2;unfold pE at this;split at this
  ·assumption
  ·cases this
 ·rw[if_neg (fun q=>h6 q.1)]at h;cases h
theorem p1000{t:Ty}(h:chk4 t=0)(h3:t.k=3∨t.k=4):0≤t.p∧t.p≤1000:=by
 unfold chk4 at h;have hv:ja9 t→t.k=1∨t.k=2:=fun h=>h.1
 grind
theorem sk_ok{f:Fu}{t:Ty}(h:cuA f t){nm:(Num→Prop)→Prop}{tx:(Y→Prop)→Prop}{bt:Prop}
  (hN:∀C:Num→Prop,(∀x,numU f=some x→C x)→(numU f=none→tp3 0 ⟨#[]⟩ 0 (er (txtU f))=cuR (cuV f t))→nm C)
  (hX:∀C:Y→Prop,C (txtU f)→tx C)
  (hB:(∀s,bitU f=some s→tlB (fun v=>v=cuR (cuV f t)) t .nilIface s)→(bitU f=none→tlB (fun v=>v=cuR (cuV f t)) t (er (txtU f)) ⟨#[]⟩)→bt):skU (fun v=>v=cuR (cuV f t)) t nm tx bt:=by
 obtain⟨hF,hk,h6,hs⟩:=h;unfold skU
 have hA:(t.k=1∨t.k=2)→nm (tlA (fun v=>v=cuR (cuV f t)) t):=fun hk12=>by
  have e:cuV f t=cuN f fun x=>((tkU x t).1,⟨#[]⟩,(tkU x t).2.1,none):=if_pos hk12
  refine hN _ (fun x hx=> ?_) (fun hx=> ?_)
  ·rw[e,cuN,hx];exact c_t (jaa (by rw[jci];exact Nat.le_trans (numU_len hF hx) (by decide))) rfl
  ·rw[e,cuN,hx];rfl
 refine cond_intro (fun h1=>hA (.inl (by simpa using h1))) (fun h1=>cond_intro (fun h2=>hA (.inr (by simpa using h2))) (fun h2=> ?_));have n12:¬(t.k=1∨t.k=2):=by simp at h1 h2;omega
 refine cond_intro (fun h3=> ?_) (fun h3=>cond_intro (fun h4=> ?_) (fun h4=> ?_))
 ·have h3:t.k=3:=by simpa using h3
  have e:cuV f t=(0,if t.v=true∧ ¬((txtU f).size:Int)>t.p then txtU f else fiU (txtU f) t.p 32,0,none):=by unfold cuV;rw[if_neg n12,if_pos h3]
  rw[e];refine hX _ (c_t (Bool.or_true _) (cond_intro (fun h=> ?_) (fun h=> ?_)))
  ·refine c_t (by rw[jaa (p1000 hk (.inl h3))];rfl) fun s' hs=> ?_
   rw[if_neg,←hs]
   ·rfl
   ·rintro ⟨h1,h2⟩;rw[h1,jad h2]at h;cases h
  ·rw[if_pos]
   ·rfl
   ·cases hw:t.v<;>simp[hw]at h ⊢;omega
 ·have h4:t.k=4:=by simpa using h4
  have e:cuV f t=(0,fiU ((bitU f).getD ⟨#[]⟩) t.p 48,0,if(bitU f).isSome then none else some (txtU f)):=by unfold cuV;rw[if_neg n12,if_neg (by omega),if_pos h4]
  rw[e]at hB;refine hB (fun s hs'=> ?_) (fun hs'=> ?_)
  ·rw[hs'];refine c_t (by rw[jaa (p1000 hk (.inr h4))];rfl) fun s' hs=> ?_
   rw[←hs];rfl
  ·rw[hs'];refine c_t (by rw[jaa (p1000 hk (.inr h4))];rfl) fun s' hs=> ?_
   rw[←hs];rfl
 ·have n3:t.k≠3:=by simpa using h3
  have n4:t.k≠4:=by simpa using h4
  have h5:=k5_of hk h6 n12 n3 n4;refine c_t (jaa hs) (c_t (jaa hs) (cond_intro (fun hp=> ?_) (fun hp=> ?_)))
  ·have hp:¬pN (bz t.s)=true:=by simpa using hp
   have e:cuV f t=if hoZ (bz t.s) (bz (fiU (txtU f) (tyP (bz t.s)) 32))=true then(0,fiU (txtU f) (tyP (bz t.s)) 32,0,none)else(0,⟨#[]⟩,0,some (fiU (txtU f) (tyP (bz t.s)) 32)):=by unfold cuV;rw[if_neg n12,if_neg n3,if_neg n4,if_neg hp]
   have hw:0≤tyP (bz t.s)∧tyP (bz t.s)≤1000:=by
    have:= @jjy t.s;unfold tyP;rw[if_pos h5.2,if_neg hp];omega
   have hT:tlX (fun v=>v=cuR (cuV f t)) t (txtU f):=by
    rw[e];refine c_t (by rw[jaa hw];rfl) fun s' hs'=> ?_
    have es:fiU (txtU f) (tyP (bz t.s)) 32=s':=hs'
    have hl:s'.size≤9223372036854775807:=by
     rw[←es,fiU,jci,jd5,List.length_append,List.length_take,List.length_replicate];omega
    rw[es];refine c_t (jaa ⟨hs,hl⟩) fun b hb=> ?_
    rw[hb.h];cases b
    ·rfl
    ·rfl
   exact⟨hX _ hT,hX _ hT,hX _ hT⟩
  ·have hp:pN (bz t.s)=true:=by simpa using hp
   have e:cuV f t=cuN f fun x=>(0,sz (edS (bz t.s) (tkU x (pT t.s)).1 (pQ (bz t.s))),if edF (bz t.s) (tkU x (pT t.s)).1 (pQ (bz t.s))=true then(tkU x (pT t.s)).2.1 else 1,none):=by unfold cuV;rw[if_neg n12,if_neg n3,if_neg n4,if_pos hp]
   refine hN _ (fun x hx=> ?_) (fun hx=> ?_)
   ·rw[e,cuN,hx];refine c_t (jaa (by rw[jci];exact Nat.le_trans (numU_len hF hx) (by decide))) ?_;have hr:=tkV_rng x.1 (bz (szO x.2.1)) x.2.2 (pT t.s);refine c_t (jaa ⟨hs,by omega,by omega⟩) fun s b c hc=> ?_
    have hc:=hc.h;simp only[Prod.mk.injEq]at hc;obtain⟨c1,c2,c3⟩:=hc;simp only[tkU];rw[c1];simp only[c2];cases b<;>rfl
   ·rw[e,cuN,hx];rfl
def decU:Value→Option Fu
 | .iface 174 (.agg ⟨[.int .i64 n,.int .i64 k,.int .i64 p,.int .i64 q,.bool w,.string u]⟩)=>some (.w n ⟨k,p,q,w,u⟩)
 | .iface 175 (.string s)=>some (.b s)
 | .iface 178 (.string s)=>some (.c s)
 | .iface 177 (.agg ⟨[.string s,.string p]⟩)=>some (.p s p)
 | _=>none
open Classical in
theorem cuD_ex:∃d:Fu→Ty→Bool,∀f t,d f t=true↔cuA f t:=⟨fun f t=>decide (cuA f t),fun f t=>by simp⟩
def cuD:Fu→Ty→Bool:=Classical.choose cuD_ex
theorem jku{f:Fu}{t:Ty}:cuD f t=true↔cuA f t:=Classical.choose_spec cuD_ex f t
def s99u:Ab.Spec:=fun args _=>match args with
 | [a,.agg ⟨[.int .i64 k,.int .i64 p,.int .i64 q,.bool w,.string u]⟩]=>match decU a with
  | some f=>some (cuD f ⟨k,p,q,w,u⟩,cuR (cuV f ⟨k,p,q,w,u⟩))
  | none=>none
 | _=>none
theorem ok99u:jam Tryz.prog 99 s99u:=by
 refine jdc ok_U1 hmix fn99 jak fun args bs v hs=> ?_
 unfold s99u at hs;split at hs
 case h_2=>cases hs
 rename_i a k p q w u;split at hs
 case h_2=>cases hs
 rename_i f hf;simp only[Option.some.injEq,Prod.mk.injEq]at hs;obtain⟨hA,rfl⟩:=hs;have hA:=jku.1 hA;have en:(.agg ⟨[.int .i64 k,.int .i64 p,.int .i64 q,.bool w,.string u]⟩:Value)=Enc.enc (⟨k,p,q,w,u⟩:Ty):=rfl;unfold decU at hf;split at hf
 ·cases hf;refine⟨rfl,jag,?_⟩;rw[ja0];rw[en,u99_w];delta kc;refine sk_ok hA (fun C h1 _=> ?_) (fun C h1=> ?_) (fun h1 _=> ?_)
  ·exact c_t (jaa (by have⟨h1,h2,h3⟩:=hA.1;obtain⟨v1,v2,v3,v4,v5⟩:=Fx.valid_r h1;exact⟨h2,h3,v3,v5⟩)) fun x hx=>h1 x (congrArg some hx.h)
  ·exact c_t (jaa hA.1) h1
  ·exact c_t (jaa hA.1) fun s hs=>h1 s (congrArg some hs.h)
 ·cases hf;refine⟨rfl,jag,?_⟩;rw[ja0];rw[en,u99_b];refine sk_ok hA (fun C h1 _=> ?_) (fun C h1=>h1) (fun h1 _=>h1 _ rfl);have:=hA.1;exact c_t (by rw[this.1,jaa this.2];rfl) fun x hx=>h1 x (congrArg some hx.h)
 ·cases hf;refine⟨rfl,jag,?_⟩;rw[ja0];rw[en,u99_c];delta ao dp;refine sk_ok hA (fun C h1 h2=> ?_) (fun C h1=>h1) (fun h1 h2=> ?_)
  ·exact c_t (jaa hA.1) ⟨fun x hx=>h1 x hx.h,fun hx=>h2 hx.h⟩
  ·exact c_t (jaa hA.1) ⟨fun hx=>h1 _ (if_pos hx.h),fun hx=>h2 (if_neg (by rw[hx.h];decide))⟩
 ·cases hf;refine⟨rfl,jag,?_⟩;rw[ja0];have hc:=hA.1;rw[en,u99_p];delta mc g0;refine sk_ok hA (fun C h1 _=> ?_) (fun C h1=>h1) (fun h1 _=> ?_)
  ·exact c_t (by rw[hc.1,jaa hc.2];rfl) fun x hx=>h1 x (congrArg some hx.h)
  ·exact c_t (by rw[hc.1,jaa hc.2];rfl) fun s hs=>h1 s (congrArg some hs.h)
 ·cases hf
structure Sh where
 s:Y
 p:Y
instance:Enc Sh where
 enc x:= .agg ⟨[.string x.s,.string x.p]⟩
 dec | .agg ⟨[.string s,.string p]⟩=>some ⟨s,p⟩ | _=>none
 dec_some:=by
  intro v a h;split at h
  ·cases h;rfl
  ·cases h
 plain_enc _:=rfl
instance tabsT5:Tabs:=tabs
end Go.Cx
end
