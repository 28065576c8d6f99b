/-
  Part 1: the run and laws.
-/
import Derived.Test.YtiahilhlpmohoaaGreatDoorS1Ab1
import Derived.Test.YtiahilhlpmohoaaGreatDoorS1Ab2
import Derived.Test.YtiahilhlpmohoaaGreatDoorS1Ab3
import Derived.Test.YtiahilhlpmohoaaGreatDoorS1Ab4
import Derived.Test.YtiahilhlpmohoaaGreatDoorS1Ab5
import Derived.Test.YtiahilhlpmohoaaGreatDoorS1Ab6
import Derived.Test.YtiahilhlpmohoaaGreatDoorS1Ab7
import Derived.Test.YtiahilhlpmohoaaGreatDoorS1AbE
import Derived.Test.YtiahilhlpmohoaaGreatDoorS1Ab8
import Derived.Test.YtiahilhlpmohoaaGreatDoorS1Ab9
import Derived.Test.YtiahilhlpmohoaaGreatDoorS1Ab10
import Derived.Test.YtiahilhlpmohoaaGreatDoorS1Ab11
import Derived.Test.YtiahilhlpmohoaaGreatDoorS1Ab12
import Derived.Test.YtiahilhlpmohoaaGreatDoorS1Ab13
import Derived.Test.YtiahilhlpmohoaaGreatDoorS1Ab14
import Derived.Test.YtiahilhlpmohoaaGreatDoorS1AbW
import Derived.Test.YtiahilhlpmohoaaGreatDoorS1Ab15
import Derived.Test.YtiahilhlpmohoaaGreatDoorS1Ab16
import Derived.Test.YtiahilhlpmohoaaGreatDoorS1Ab17
import Derived.Test.YtiahilhlpmohoaaGreatDoorS1Ab18
import Derived.Test.YtiahilhlpmohoaaGreatDoorS1Ab19
import Derived.WalkKit
import Derived.ProofKit
import Derived.Test.YtiahilhlpmohoaaGreatDoorLays
import Derived.Laws.RangeAny
import Derived.Shelf.Strings.LastIndex
import Derived.Shelf.Strconv.Itoa3
import Derived.Shelf.Strconv.AppendUint10
import Derived.Lib.ItoaLen
import Derived.Shelf.Strconv.Atoi
import Derived.Lib.AtoiErrMem
import Derived.Laws.BitsLemmas
import Derived.Lib.Strings
import Derived.Test.YtiahilhlpmohoaaGreatDoorProg
import Derived.LaidEql
import Derived.Stop.Asserts
import Derived.RowKitTokens
import Derived.Shelf.Small.Strs
import Derived.JoinedOf
import Derived.SevenTiedAt
import Derived.Test.YtiahilhlpmohoaaGreatDoorRows
import Derived.Test.YtiahilhlpmohoaaGreatDoorLbys
import Derived.Lay
import Derived.LaidHandle
import Derived.LaidSub
import Derived.Lib.LaidTab
import Derived.Lib.LaidU8
import Derived.LaidMore
import Derived.HandedShaped
import Derived.Shelf.Vars
set_option linter.unusedVariables false
set_option linter.unusedSimpArgs false
set_option linter.unusedSectionVars false
section
namespace Go.Px
open Go Go.Ab
def bz(s:Y):O:=s.data.toList.map fun b=>(b.toNat:Int)
def sz(l:O):Y:=⟨(l.map fun n=>UInt8.ofNat n.toNat).toArray⟩
def IsB(l:O):Prop:=∀c∈l,0≤c∧c<256
@[simp] theorem jak (s:Y):(bz s).length=s.size:=by
 unfold bz;rw[K9,Array.length_toList];rfl
theorem jed(s:Y)(i:Nat):jai s i=(bz s).getD i 0:=by
 simp only[jai,bz,List.getD_eq_getElem?_getD,List.getElem?_map]
theorem jdh(s:Y):IsB (bz s):=by
 intro c hc;simp only[bz,KB]at hc;obtain⟨b,_,rfl⟩:=hc;have:=b.toNat_lt;omega
theorem jh2(s:Y):sz (bz s)=s:=by
 simp only[sz,bz,List.map_map]
 have:((fun n:Int=>UInt8.ofNat n.toNat) ∘fun b:UInt8=>(b.toNat:Int))=id:=by
  funext b;simp
 rw[this];simp
theorem jc7{l:O}(h:IsB l):bz (sz l)=l:=by
 simp only[sz,bz,List.map_map]
 have:∀n∈l,((fun b:UInt8=>(b.toNat:Int)) ∘fun n:Int=>UInt8.ofNat n.toNat) n=n:=by
  intro n hn;have:=h n hn;simp only[Function.comp,UInt8.toNat_ofNat'];omega
 rw[Ku this];simp
theorem bz_inj{a b:Y}(h:bz a=bz b):a=b:=by rw[←jh2 a,←jh2 b,h]
theorem jb0(a b:Y):bz (a++b)=bz a++bz b:=by
 simp[bz,ByteArray.data_append]
theorem jb5(s:Y)(i j:Nat):bz (s.extract i j)=((bz s).take j).drop i:=by
 simp[bz,ByteArray.data_extract,List.map_drop,List.map_take,Array.toList_extract,List.extract_eq_take_drop,List.drop_take]
theorem sz_append(a b:O):sz (a++b)=sz a++sz b:=by
 apply ByteArray.ext;simp[sz,ByteArray.data_append]
theorem jco(l:O):(sz l).size=l.length:=by simp[sz,ByteArray.size]
theorem jcv(a b:Y):(a.toList==b.toList)=decide (bz a=bz b):=by
 rw[ByteArray.toList_eq,ByteArray.toList_eq,Kl,K4,jae];constructor
 ·intro h;simp[bz,h]
 ·intro h;have:=bz_inj h;rw[this]
theorem IsB.append{a b:O}(ha:IsB a)(hb:IsB b):IsB (a++b):=fun c hc=>by
 rcases Kq.1 hc with h | h
 ·exact ha c h
 ·exact hb c h
theorem IsB.take{a:O}(ha:IsB a)(n:Nat):IsB (a.take n):=fun c hc=>ha c (List.mem_of_mem_take hc)
theorem IsB.drop{a:O}(ha:IsB a)(n:Nat):IsB (a.drop n):=fun c hc=>ha c (List.mem_of_mem_drop hc)
theorem IsB.nil:IsB []:=fun c hc=>by cases hc
theorem IsB.cons{c:Int}{a:O}(h:0≤c∧c<256)(ha:IsB a):IsB (c::a):=fun d hd=>by
 rcases Kg.1 hd with rfl | hd
 ·exact h
 ·exact ha d hd
def cz(l:O):J:=l.map fun n=> .int .u8 n
@[simp] theorem cz_length (l:O):(cz l).length=l.length:=by simp[cz]
theorem cz_append(a b:O):cz (a++b)=cz a++cz b:=by simp[cz]
theorem cz_cell:∀l:O,(cz l).all jf9=true
 | []=>rfl
 | c::r=>by
  have:=cz_cell r;simp only[cz]at this;simp[cz,jf9,this]
theorem jhv:∀l:O,ja1 (cz l)=true
 | []=>rfl
 | c::r=>by simpa[cz,ja1,plain]using jhv r
theorem jev:∀l:O,jbz (cz l)=true
 | []=>rfl
 | c::r=>by simpa[cz,jbz]using jev r
theorem cz_bytesL:∀l:O,jdt (cz l)=l.map fun n=>UInt8.ofNat n.toNat
 | []=>rfl
 | c::r=>by
  have:=cz_bytesL r;simp only[cz]at this;simp only[cz,List.map_cons,jdt,this]
theorem bytesOf_cz(l:O)(tail:J):ja5 (cz l++tail) 0 l.length=sz l:=by
 simp only[ja5,List.drop_zero];rw[KI (by simp),Kw (by simp),cz_bytesL];rfl
theorem bytesOK_cz(l:O)(tail:J):ja8 (cz l++tail) 0 l.length=true:=by
 simp only[ja8,List.drop_zero,jaf,Nat.ble_eq,Kk,cz_length];rw[KI (by simp),Kw (by simp)];exact⟨jev l,by omega⟩
theorem strCells_eq(s:Y):Lib.strCells s=cz (bz s):=by
 simp[Lib.strCells,cz,bz]
theorem jet(l:O)(i:Nat)(h:i<l.length):l.drop i=l.getD i 0::l.drop (i+1):=by
 rw[List.drop_eq_getElem_cons h];simp[List.getD_eq_getElem?_getD,h]
end Go.Px
end
section
namespace Go.Px
open Go Go.Ab Go.Proofs Go.Shelf
def punchedZ:O:=[123,65,66,67,68,69,70,71,72,73,125,74,75,76,77,78,79,80,81,82]
def pow10Z:O:=[1,10,100,1000,10000,100000,1000000,10000000,100000000,1000000000,10000000000,100000000000,1000000000000,10000000000000,100000000000000,1000000000000000,10000000000000000,100000000000000000,1000000000000000000,10000000000000000000]
def jmj:Nat→Option J
 | 3=>some (punchedZ.map fun n=> .int .u8 n)
 | 2=>some (pow10Z.map fun n=> .int .u64 n)
 | 0=>some [.iface 304 (.agg ⟨[.pointer (some ⟨10,157,none⟩)]⟩)]
 | _=>none
instance tabs:Tabs where
 row:=jmj
 plain:=fun b r h=>by
  match b,h with
  | 3,h=>cases h;rfl
  | 2,h=>cases h;rfl
  | 0,h=>cases h;rfl
theorem hmix:Tryz.prog.follows .mixedOrders=true:=by kernel_rfl
structure U8 where n:Int
structure R32 where n:Int
structure U64 where n:Int
instance:Enc U8 where
 enc a:= .int .u8 a.n
 dec | .int .u8 n=>some ⟨n⟩ | _=>none
 dec_some:=by
  intro v a h;split at h
  ·cases h;rfl
  ·cases h
 plain_enc _:=rfl
instance:Enc R32 where
 enc a:= .int .i32 a.n
 dec | .int .i32 n=>some ⟨n⟩ | _=>none
 dec_some:=by
  intro v a h;split at h
  ·cases h;rfl
  ·cases h
 plain_enc _:=rfl
instance:Enc U64 where
 enc a:= .int .u64 a.n
 dec | .int .u64 n=>some ⟨n⟩ | _=>none
 dec_some:=by
  intro v a h;split at h
  ·cases h;rfl
  ·cases h
 plain_enc _:=rfl
theorem pure_shelf{P:Program}{f:FuncId}{s:Ab.Spec}(hc:jbt P f)
  (h:∀args bs v,s args bs=some (true,v)→ja1 args=true∧ ∀w,TabsIn w.heap.size w→Calls P f args.toArray w fun e w'=>e= .returned v∧RowKit.Below w.heap.size w w'):jan P f s:=by
 refine⟨hc,fun args v N w0 lk ι w hrel hs hp=> ?_⟩;obtain⟨h1,h2⟩:=h _ _ _ hs;have hren:args.map (ren ι)=args:=by rw[←jb1,jb4 _ h1]
 rw[hren];exact h2 w hrel.tabs
theorem jci{w w':World}(h:w'=w):RowKit.Below w.heap.size w w':=h▸RowKit.Below.refl _ _
section
variable {α β : Type} [Enc α] [Enc β] {P : Program} {f : FuncId}
theorem shelf1(hc:jbt P f){g:α→Bool×Value}(h:∀a,(g a).1=true→ ∀w,TabsIn w.heap.size w→Calls P f #[Enc.enc a] w fun e w'=>e= .returned (g a).2∧RowKit.Below w.heap.size w w'):jan P f (sp1 g):=by
 refine pure_shelf hc fun args bs v hs=> ?_
 simp only[sp1]at hs;split at hs
 ·split at hs
  ·rename_i ha;simp only[Kb]at hs;obtain rfl:=Enc.dec_some ha;exact⟨by simp[ja1,Enc.plain_enc],by have q:=h _ (by rw[hs]);rw[hs]at q;exact q⟩
  ·cases hs
 ·cases hs
theorem jdf(hc:jbt P f){g:α→β→Bool×Value}(h:∀a b,(g a b).1=true→ ∀w,TabsIn w.heap.size w→Calls P f #[Enc.enc a,Enc.enc b] w fun e w'=>e= .returned (g a b).2∧RowKit.Below w.heap.size w w'):jan P f (sp2 g):=by
 refine pure_shelf hc fun args bs v hs=> ?_
 simp only[sp2]at hs;split at hs
 ·split at hs
  ·rename_i ha hb;simp only[Kb]at hs;obtain rfl:=Enc.dec_some ha;obtain rfl:=Enc.dec_some hb;exact⟨by simp[ja1,Enc.plain_enc],by have q:=h _ _ (by rw[hs]);rw[hs]at q;exact q⟩
  ·cases hs
 ·cases hs
end
def idxZ:O→Int→Int
 | [],_=> -1
 | b::l,c=>if b=c then 0 else if idxZ l c= -1 then -1 else idxZ l c+1
def cntZ(l:O)(c:Int):Nat:=(l.filter (· ==c)).length
def sufZ(l p:O):Bool:=decide (p.length≤l.length∧l.drop (l.length-p.length)=p)
def hasZ(l:O)(c:Int):Bool:=l.any (· ==c)
def anyZ(l cs:O):Bool:=l.any (hasZ cs)
def jcm(l cs:O):O:=((l.reverse.dropWhile (hasZ cs)).reverse).dropWhile (hasZ cs)
def repZ(l:O):Nat→O
 | 0=> []
 | n+1=>l++repZ l n
def numZ:O→Int→Int
 | [],a=>a
 | c::r,a=>numZ r (a*10+(c-48))
def jf6(c:Int):Bool:=decide (48≤c∧c≤57)
abbrev zl(l:Yc):O:=l.map fun b=>(b.toNat:Int)
theorem jmi{a b:UInt8}:((a.toNat:Int)=b.toNat)↔a=b:=by
 rw[Int.natCast_inj,UInt8.toNat_inj]
theorem jl4(c:UInt8):∀l:Yc,Lib.indexByte l c=idxZ (zl l) c.toNat
 | []=>rfl
 | b::l=>by
  simp only[Lib.indexByte,zl,List.map_cons,idxZ,jl4 c l,jmi,K4]
theorem jkq(c:UInt8):∀l:Yc,l.contains c=hasZ (zl l) c.toNat
 | []=>rfl
 | b::l=>by
  have:=jkq c l;simp only[hasZ,zl]at this;rw[List.contains_cons,this];simp only[hasZ,zl,List.map_cons,List.any_cons];congr 1;rw[Kl,K4,K4,jmi];exact eq_comm
theorem jbj{l:O}{c:Int}:hasZ l c=true↔c∈l:=by simp[hasZ]
theorem jg5(c:Int):∀l:O,-1≤idxZ l c∧(0≤idxZ l c↔c∈l)
 | []=>by simp[idxZ]
 | b::l=>by
  obtain⟨h1,h2⟩:=jg5 c l;simp only[idxZ,Kg];by_cases hb:b=c
  ·simp[hb]
  ·rw[Kc hb];have hb':¬c=b:=fun h=>hb h.symm
   split
   ·rename_i h;rw[h]at h2;simp only[hb',false_or];exact⟨by omega,by rw[←h2]⟩
   ·exact⟨by omega,by simp only[hb',false_or];rw[←h2];omega⟩
theorem cnt_zl(c:UInt8):∀l:Yc,Lib.countByte l c=cntZ (zl l) c.toNat
 | []=>rfl
 | b::l=>by
  have ih:=cnt_zl c l;simp only[Lib.countByte,cntZ,zl]at ih;simp only[Lib.countByte,cntZ,zl,List.map_cons,List.count_cons,List.filter_cons,ih];by_cases hb:b=c
  ·simp[hb]
  ·have:((b.toNat:Int)==(c.toNat:Int))=false:=by simpa[jmi]using hb
   simp[hb,this]
theorem zl_inj{a b:Yc}(h:zl a=zl b):a=b:=by
 have:=bz_inj (a:=⟨a.toArray⟩) (b:=⟨b.toArray⟩) (by simpa[bz]using h);simpa using congrArg (fun s:Y=>s.data.toList) this
theorem suf_zl(s p:Yc):Lib.hasSuffix s p=sufZ (zl s) (zl p):=by
 rw[Kl];simp only[Lib.hasSuffix,sufZ,List.isSuffixOf_iff_suffix,jae,K9];constructor
 ·rintro ⟨t,rfl⟩;exact⟨by simp,by simp⟩
 ·rintro ⟨h1,h2⟩;rw[←List.map_drop]at h2;have e:=zl_inj h2;exact⟨s.take (s.length-p.length),(congrArg (s.take (s.length-p.length)++ ·) e.symm).trans (KC ..)⟩
theorem je7{p:UInt8→Bool}{q:Int→Bool}(h:∀b:UInt8,p b=q b.toNat):∀l:Yc,zl (l.dropWhile p)=(zl l).dropWhile q
 | []=>rfl
 | b::l=>by
  simp only[List.dropWhile_cons,zl,List.map_cons,h b];split
  ·exact je7 h l
  ·rfl
theorem trim_zl(l cs:Yc):zl (Lib.trimS l cs)=jcm (zl l) (zl cs):=by
 have h:∀b:UInt8,cs.contains b=hasZ (zl cs) b.toNat:=fun b=>jkq b cs
 simp only[Lib.trimS,Lib.trimLeftS,Lib.trimRightS,jcm];rw[je7 (q:=hasZ (zl cs)) h];congr 1;rw[zl,List.map_reverse,←List.map_reverse];have:=je7 (p:=(cs.contains ·)) (q:=hasZ (zl cs)) h l.reverse;rw[List.map_reverse];simp only[zl,List.map_reverse]at this ⊢;rw[this]
theorem jms(l:Yc):∀n,zl (Lib.repeatL l n)=repZ (zl l) n
 | 0=>rfl
 | n+1=>by
  have:=jms l n;simp only[zl]at this;simp[Lib.repeatL,repZ,zl,this]
theorem jhk(l:Yc):(⟨l.toArray⟩:Y)=sz (zl l):=by
 rw[←jh2 ⟨l.toArray⟩];simp[bz]
theorem jka(s:Y):zl s.data.toList=bz s:=rfl
theorem cal {P : Program} {f : FuncId} {fn : Func} (h : P.funcs[f]? = some fn) (hn : (fn.name == "runtime.NumGoroutine") = false) (hb : fn.body.isSome = true) : jbt P f := ⟨fn, h, hn, by cases hf : fn.body with | none => rw [hf] at hb; cases hb | some c => rfl⟩
theorem c141:jbt Tryz.prog 221:=cal Tryz.func221 (by kernel_rfl) (by kernel_rfl)
theorem c157:jbt Tryz.prog 253:=cal Tryz.func253 (by kernel_rfl) (by kernel_rfl)
theorem c130:jbt Tryz.prog 187:=cal Tryz.func187 (by kernel_rfl) (by kernel_rfl)
theorem c132:jbt Tryz.prog 189:=cal Tryz.func189 (by kernel_rfl) (by kernel_rfl)
theorem c102:jbt Tryz.prog 128:=cal Tryz.func128 (by kernel_rfl) (by kernel_rfl)
theorem c89:jbt Tryz.prog 124:=cal Tryz.func124 (by kernel_rfl) (by kernel_rfl)
theorem c88:jbt Tryz.prog 110:=cal Tryz.func110 (by kernel_rfl) (by kernel_rfl)
theorem c78:jbt Tryz.prog 114:=cal Tryz.func114 (by kernel_rfl) (by kernel_rfl)
theorem c68:jbt Tryz.prog 183:=cal Tryz.func183 (by kernel_rfl) (by kernel_rfl)
def s141(s:Y)(c:U8):Bool×Value:=(decide (0≤c.n∧c.n<256),.int .i64 (idxZ (bz s) c.n))
theorem ok141:jan Tryz.prog 221 (sp2 s141):=jdf c141 fun s c hc w _=>by
 have hc:0≤c.n∧c.n<256:=jab hc;refine(Any.strings_IndexByte Tryz.lays137 s c.n w).mono fun e w' ⟨h1,h2⟩=>⟨?_,jci h2⟩
 rw[h1,jl4];simp only[s141]
 have:((c.n.toNat.toUInt8.toNat:Nat):Int)=c.n:=by
  simp only[Nat.toUInt8,UInt8.toNat_ofNat'];omega
 rw[this,jka]
def oneB(s:Y):Bool:=Nat.beq s.size 1
theorem jeq{s:Y}(h:oneB s=true):∃c:UInt8,s=⟨#[c]⟩∧(c.toNat:Int)=(bz s).getD 0 0:=by
 have h:=jah h;have hl:s.data.toList.length=1:=by simpa using h
 match hm:s.data.toList,hl with
 | [c],_=>
  refine⟨c,?_,by simp[bz,hm]⟩;apply ByteArray.ext;apply Array.ext';simpa using hm
def s157(s t:Y):Bool×Value:=(oneB t,.int .i64 (cntZ (bz s) ((bz t).getD 0 0)))
theorem ok157:jan Tryz.prog 253 (sp2 s157):=jdf c157 fun s t hc w _=>by
 obtain⟨c,h1,h2⟩:=jeq hc;have e:Enc.enc t=Value.string ⟨#[c]⟩:=congrArg Value.string h1;rw[e];refine(Any.strings_Count_one Tryz.lays138 s c w).mono fun e w' ⟨h3,h4⟩=>⟨?_,jci h4⟩
 rw[h3,cnt_zl,h2];rfl
def s132(s t:Y):Bool×Value:=(oneB t,.bool (hasZ (bz s) ((bz t).getD 0 0)))
theorem ok132:jan Tryz.prog 189 (sp2 s132):=jdf c132 fun s t hc w _=>by
 obtain⟨c,h1,h2⟩:=jeq hc;have e:Enc.enc t=Value.string ⟨#[c]⟩:=congrArg Value.string h1;rw[e];refine(Any.strings_Contains_one Tryz.lays144 s c w).mono fun e w' ⟨h3,h4⟩=>⟨?_,jci h4⟩
 rw[h3];simp only[s132];rw[←h2];congr 2;rw[Kl,jae,jl4,(jg5 _ _).2,jbj,jka]
def s130(s t:Y):Bool×Value:=(decide (s.size≤9223372036854775807),.bool (sufZ (bz s) (bz t)))
theorem ok130:jan Tryz.prog 187 (sp2 s130):=jdf c130 fun s t hc w _=>by
 refine(Any.strings_HasSuffix Tryz.lays100 s t w (jab hc)).mono fun e w' ⟨h3,h4⟩=>⟨?_,jci h4⟩
 rw[h3,suf_zl];rfl
def asc(l:O):Bool:=l.all fun c=>decide (c<128)
theorem jdo{s:Y}(h:asc (bz s)=true):∀(j:Nat) b,s.data.toList[j]?=some b→b.toNat<128:=fun j b hb=>by
 simp only[asc,bz,List.all_map,Kf]at h;have:=h b (List.mem_of_getElem? hb);simp at this;omega
theorem info128:(Tryz.prog.info? (Tryz.lays150_ren.t 116)).map (fun i=>(i.zero,i.size))=some (some (.agg (Array.replicate 256 (.bool false))),256):=by kernel_rfl
theorem jjt:(Tryz.prog.info? (Tryz.lays160_ren.t 116)).map (fun i=>(i.zero,i.size))=some (some (.agg (Array.replicate 256 (.bool false))),256):=by kernel_rfl
theorem indexAny_zl(cs:Yc):∀l:Yc,(0≤Lib.indexAny l cs)↔anyZ (zl l) (zl cs)=true
 | []=>by simp[Lib.indexAny,anyZ]
 | b::l=>by
  have ih:=indexAny_zl cs l;have g:=Lib.indexAny_ge cs l;have hb:hasZ (zl cs) b.toNat=cs.contains b:=(jkq b cs).symm;simp only[anyZ,zl,List.map_cons,List.any_cons]at ih hb ⊢;rw[hb];unfold Lib.indexAny;split
  ·simp_all
  ·rename_i hn;have hn:cs.contains b=false:=by simpa using hn
   rw[hn,Bool.false_or,←ih];split
   ·rename_i h;have h:=eq_of_beq h;constructor<;>intro<;>omega
   ·rename_i h;have h:Lib.indexAny l cs≠ -1:=by simpa using h
    constructor<;>intro<;>omega
def s102(s t:Y):Bool×Value:=(decide (s.size≤1000) && (decide (t.size≤1000) && (asc (bz s) &&asc (bz t))),.bool (anyZ (bz s) (bz t)))
theorem ok102:jan Tryz.prog 128 (sp2 s102):=jdf c102 fun s t hc w _=>by
 simp only[s102,jaf,jae]at hc;obtain⟨h1,h2,h3,h4⟩:=hc;refine(Any.strings_ContainsAny_laid Tryz.lays150 info128 s t w (by omega) (by omega) (jdo h3) (jdo h4)).mono fun e w' ⟨h5,h6⟩=>⟨?_,h6⟩
 rw[h5];simp only[s102];congr 2;rw[Kl,Lib.containsAny,jae,indexAny_zl];rfl
theorem szO_ex:∃f:O→Y,f=sz:=⟨_,rfl⟩
noncomputable def szO : O → Y := Classical.choose szO_ex
theorem jcx(l:O):szO l=sz l:=by rw[szO,Kn szO_ex]
noncomputable def s89 (s t : Y) : Bool × Value := (decide (s.size ≤ 1000) && (decide (t.size ≤ 1000) && asc (bz t)), .string (szO (jcm (bz s) (bz t))))
theorem ok89:jan Tryz.prog 124 (sp2 s89):=jdf c89 fun s t hc w _=>by
 simp only[s89,jaf,jae]at hc;obtain⟨h1,h2,h3⟩:=hc;refine(Any.strings_Trim_laid Tryz.lays160 jjt s t w (by omega) (by omega) (jdo h3)).mono fun e w' ⟨h5,h6⟩=>⟨?_,h6⟩
 rw[h5,jhk,trim_zl];simp only[s89,jcx];rfl
def s88(s t:Y):Bool×Value:=(oneB t&&asc (bz t),.string (sz ((bz s).dropWhile (· ==(bz t).getD 0 0))))
theorem ok88:jan Tryz.prog 110 (sp2 s88):=jdf c88 fun s t hc w _=>by
 simp only[s88,jaf]at hc;obtain⟨c,h1,h2⟩:=jeq hc.1;have hlt:c.toNat<128:=jdo hc.2 0 c (by rw[h1];rfl);have e:Enc.enc t=Value.string ⟨#[c]⟩:=congrArg Value.string h1;rw[e];refine(Any.strings_TrimLeft_one Tryz.lays161 s c hlt w).mono fun e w' ⟨h3,h4⟩=>⟨?_,jci h4⟩
 rw[h3,jhk];simp only[s88,Lib.trimLeftB];rw[je7 (q:=(· ==(bz t).getD 0 0)) (fun b=>by rw[←h2,Kl,K4,K4,jmi]),jka]
def s78(s:Y)(n:Int):Bool×Value:=(decide (0≤n∧n≤1000∧s.size≤1000),.string (sz (repZ (bz s) n.toNat)))
theorem ok78:jan Tryz.prog 114 (sp2 s78):=jdf c78 fun s n hc w _=>by
 obtain⟨h1,h2,h3⟩:=jab hc
 have e:Enc.enc n=Value.int .i64 (n.toNat:Int):=by
  show Value.int .i64 n=_;rw[Int.toNat_of_nonneg h1]
 rw[e];have hm:s.size*n.toNat≤1000*1000:=Nat.mul_le_mul h3 (by omega);refine(Any.strings_Repeat Tryz.lays105 Tryz.Builder_Extra_105 s n.toNat w (by omega) (by omega)).mono fun e w' ⟨h4,h5⟩=>⟨?_,h5⟩
 rw[h4,jhk,jms];rfl
end Go.Px
end
section
namespace Go.Px
open Go Go.Ab Go.Proofs
abbrev I(n:Int):Value:= .int .i64 n
abbrev B(b:Bool):Value:= .bool b
abbrev C8(n:Int):Value:= .int .u8 n
abbrev C64(n:Int):Value:= .int .u64 n
abbrev S(s:Y):Value:= .string s
def e0:Y:=⟨#[]⟩
theorem c_t{b:Bool}{P Q:Prop}(h:b=true)(hp:P):bif b then P else Q:=by rw[h];exact hp
theorem c_f{b:Bool}{P Q:Prop}(h:b=false)(hq:Q):bif b then P else Q:=by rw[h];exact hq
theorem w64{n:Int}(h: -9223372036854775808≤n∧n≤9223372036854775807):IntKind.wrap .i64 n=n:=by rw[IntKind.wrap_i64];omega
theorem w3{a b c d:Int}(ha:0≤a∧a≤1000)(hb:0≤b∧b≤1000)(hc:0≤c∧c≤1000)(hd:0≤d∧d≤1000):
  IntKind.wrap .i64 (IntKind.wrap .i64 (IntKind.wrap .i64 (a+b)+c)+d)=a+b+c+d:=by
 rw[w64 (n:=a+b) (by omega),w64 (n:=a+b+c) (by omega),w64 (by omega)]
theorem w8e(n:Int):IntKind.wrap .u8 n=n%256:=by
 simp[IntKind.wrap,IntKind.bits,IntKind.signed]
theorem w8{n:Int}(h:0≤n∧n<256):IntKind.wrap .u8 n=n:=by rw[w8e];omega
theorem jnj(n:Int):IntKind.wrap .u64 n=n%18446744073709551616:=by
 simp[IntKind.wrap,IntKind.bits,IntKind.signed]
theorem wu64{n:Int}(h:0≤n∧n<18446744073709551616):IntKind.wrap .u64 n=n:=by rw[jnj];omega
theorem jf2(s:Y)(i:Nat):0≤jai s i∧jai s i<256:=by
 rw[jed,List.getD_eq_getElem?_getD];cases h:(bz s)[i]? with
 | none=>simp
 | some c=>exact jdh s c (List.mem_of_getElem? h)
theorem jca{s:Y}{i:Int}(h0:0≤i)(h:i<s.size):(bz s).drop i.toNat=jai s i.toNat::(bz s).drop (i+1).toNat:=by
 have:=jet (bz s) i.toNat (by rw[jak];omega);rw[this,jed];congr 2;omega
theorem jck{s:Y}{i:Int}(h:s.size≤i):(bz s).drop i.toNat=[]:=KD (by rw[jak];omega)
def upZ(c:Int):Int:=if 97≤c∧c≤122 then c-32 else c
def twoL(i:Nat)(h:jcb)(j:Nat)(h':jcb):Nat→Option jcb:=fun k=>match Nat.beq k i with | true=>some h | false=>match Nat.beq k j with | true=>some h' | false=>none
theorem je2{P:Program}{fn:Func}{i j:Nat}{h h':jcb}(hij:Nat.beq j i=false)(hb:(match fn.body with | some c=>blks (twoL i h j h') c | none=> [])=[(i,.loop (ja2 fn i)),(j,.loop (ja2 fn j))])
  (hs:∀t m n K,h t m n K→Ab.Sem P fn.ntmps (.loop (ja2 fn i)) t m n K) (hs':∀t m n K,h' t m n K→Ab.Sem P fn.ntmps (.loop (ja2 fn j)) t m n K):LOKf P (twoL i h j h') fn:=by
 unfold LOKf;split
 ·rename_i c hc;simp only[hc]at hb;refine jhh c fun p hp k hk=> ?_
  rw[hb]at hp;simp only[Kg,List.not_mem_nil,or_false]at hp;have e:Nat.beq i i=true:=by simp
  have e':Nat.beq j j=true:=by simp
  rcases hp with rfl | rfl
  ·simp only[twoL,e,Kb]at hk;subst hk;exact hs
  ·simp only[twoL,hij,e',Kb]at hk;subst hk;exact hs'
 ·trivial
theorem lok_one{P:Program}{nt:Nat}{c b:Code}{id:Nat}{h:jcb}(hb:blks (oneL id h) c=[(id,b)])(hs:∀t m n K,h t m n K→Ab.Sem P nt b t m n K):LOK P (oneL id h) nt c:=by
 refine jhh c fun p hp h' hh=> ?_
 rw[hb]at hp;simp only[List.mem_singleton]at hp;subst hp
 have:h'=h:=by
  simp only[oneL]at hh;have e:Nat.beq id id=true:=by simp
  rw[e]at hh;simpa using hh.symm
 subst this;exact hs
theorem bz_take_at{s:Y}{i l:Int}(h0:0≤i)(h:i<l)(hl:l≤s.size):((bz s).take l.toNat).drop i.toNat=jai s i.toNat::((bz s).take l.toNat).drop (i+1).toNat:=by
 have hlen:((bz s).take l.toNat).length=l.toNat:=by rw[Kp,jak];omega
 have:=jet ((bz s).take l.toNat) i.toNat (by omega);rw[this,jed]
 have e:((bz s).take l.toNat).getD i.toNat 0=(bz s).getD i.toNat 0:=by
  simp only[List.getD_eq_getElem?_getD];rw[List.getElem?_take,Kd (by omega)]
 rw[e];congr 2;omega
theorem jjb(l:O)(c:Int):cntZ l c≤l.length:=List.length_filter_le ..
def iv:Value→Int
 | .int _ n=>n
 | _=>0
def zc(c:J)(n:Nat):O:=(c.take n).map iv
def jcp(c:J)(n cap:Nat):Bool:=jbz (c.take n) && (ja1 c&& (Nat.beq c.length cap&& (Nat.ble n cap&&Nat.ble cap 9223372036854775807)))
theorem jml:∀{l:J},jbz l=true→cz (l.map iv)=l
 | [],_=>rfl
 | .int .u8 n::r,h=>by
  have:=jml (l:=r) (by simpa[jbz]using h);simp only[cz]at this;simp only[List.map_cons,cz,iv,this]
structure RowP (c:J)(n cap:Nat):Prop where
 bytes:jbz (c.take n)=true
 plain:ja1 c=true
 len:c.length=cap
 le:n≤cap
 cap:cap≤9223372036854775807
theorem jap{c:J}{n cap:Nat}:jcp c n cap=true↔RowP c n cap:=by
 simp only[jcp,jaf,Nat.ble_eq,Nat.beq_eq];exact⟨fun⟨h1,h2,h3,h4,h5⟩=>⟨h1,h2,h3,h4,h5⟩,fun⟨h1,h2,h3,h4,h5⟩=>⟨h1,h2,h3,h4,h5⟩⟩
theorem jbe{c:J}{n cap:Nat}(h:RowP c n cap):(zc c n).length=n:=by
 have h1:=h.len;have h2:=h.le;simp only[zc,K9,Kp];omega
theorem RowP.eq{c:J}{n cap:Nat}(h:RowP c n cap):c=cz (zc c n)++c.drop n:=by
 rw[zc,jml h.bytes,KC]
theorem RowP.take{c:J}{n cap:Nat}(h:RowP c n cap):c.take n=cz (zc c n):=(jml h.bytes).symm
theorem RowP.str{c:J}{n cap:Nat}(h:RowP c n cap):ja8 c 0 n=true∧ja5 c 0 n=sz (zc c n):=by
 have hz:=jbe h;have e:=h.eq;have h1:=bytesOK_cz (zc c n) (c.drop n);have h2:=bytesOf_cz (zc c n) (c.drop n);rw[←e,hz]at h1 h2;exact⟨h1,h2⟩
theorem plainL_append{a b:J}:ja1 (a++b)=true↔ja1 a=true∧ja1 b=true:=by
 simp only[ja7,Kq];exact⟨fun h=>⟨fun v hv=>h v (.inl hv),fun v hv=>h v (.inr hv)⟩,fun⟨h1,h2⟩ v hv=>hv.elim (h1 v) (h2 v)⟩
theorem jki(L:O){tail:J}{cap:Nat}(ht:ja1 tail=true)(hl:L.length+tail.length=cap)(hc:cap≤9223372036854775807):RowP (cz L++tail) L.length cap∧zc (cz L++tail) L.length=L:=by
 have e:(cz L++tail).take L.length=cz L:=by rw[KI (by simp),Kw (by simp)]
 refine⟨⟨by rw[e];exact jev L,plainL_append.2 ⟨jhv L,ht⟩,by simp[hl],by omega,hc⟩,?_⟩;show List.map iv ((cz L++tail).take L.length)=L;rw[e];simp only[cz,List.map_map];have:(iv∘fun n:Int=>Value.int .u8 n)=id:=by funext n;rfl
 rw[this,List.map_id]
theorem jfe{tail:J}{cap need size:Nat}(h:jbd tail cap need size=true):ja1 tail=true∧tail.length+need*size=cap*size∧need≤cap∧cap≤9223372036854775807:=by
 simp only[jbd,jaf,Nat.ble_eq,Nat.beq_eq]at h;exact⟨h.1.1.1,h.1.1.2,h.1.2,h.2⟩
theorem RowP.app{c:J}{n cap:Nat}(h:RowP c n cap)(M:O){tail:J}{cap':Nat}(ht:jbd tail cap' (n+M.length) 1=true):
  RowP (c.take n++cz M++tail) (n+M.length) cap'∧zc (c.take n++cz M++tail) (n+M.length)=zc c n++M:=by
 obtain⟨t1,t2,t3,t4⟩:=jfe ht;have hz:=jbe h;have:=jki (zc c n++M) (tail:=tail) (cap:=cap') t1 (by simp only[Kk,hz];omega) t4;simp only[Kk,hz,cz_append]at this;rw[h.take];exact this
theorem RowP.app1{c:J}{n cap:Nat}(h:RowP c n cap)(x:Int){tail:J}{cap':Nat}(ht:jbd tail cap' (n+1) 1=true):
  RowP (c.take (n*1)++ [.int .u8 x]++tail) (n+1) cap'∧zc (c.take (n*1)++ [.int .u8 x]++tail) (n+1)=zc c n++ [x]:=by
 rw[Nat.mul_one];exact h.app [x] ht
theorem RowP.ask{c:J}{n cap:Nat}(h:RowP c n cap){k:Nat}(hk:n+k≤1000000):
  (Nat.beq c.length (cap*1) &&Nat.ble n cap&&Nat.ble cap 9223372036854775807&&true&&jb2 (n+k) 1)=true:=by
 have h1:=h.len;have h2:=h.le;have h3:=h.cap;simp only[jb2,jaf,Nat.ble_eq,Nat.beq_eq,Nat.mul_one];exact⟨⟨⟨⟨h1,h2⟩,h3⟩,trivial⟩,by omega,by omega⟩
theorem jgc(M:O){tail:J}{cap':Nat}(ht:jbd tail cap' M.length 1=true):RowP (cz M++tail) M.length cap'∧zc (cz M++tail) M.length=M:=by
 obtain⟨t1,t2,t3,t4⟩:=jfe ht;exact jki M t1 (by omega) t4
theorem RowP.good{c:J}{n cap:Nat}(h:RowP c n cap)(ps:List (Nat×Nat)):jas ps c=true:=goodL_plain h.plain
theorem RowP.rlb{c:J}{n cap:Nat}(h:RowP c n cap)(ps:List (Nat×Nat)):rlbL ps c=c:=rlbL_plain ps h.plain
theorem jf4{d:J}{m cap:Nat}(hr:RowP d m cap)(hm:m≤100000)(x:Int)(ps:List (Nat×Nat))(K:Nat→J→Prop)
  (h:∀(cap':Nat)(d':J),RowP d' (m+1) cap'→zc d' (m+1)=zc d m++ [x]→K cap' d'):
  bif Nat.beq d.length (cap*1) &&Nat.ble m cap&&Nat.ble cap 9223372036854775807&&true&&jb2 (m+1) 1 then
   ∀(cap1:Nat)(tail:J),jbd tail cap1 (m+1) 1=true→
    bif jas ps (List.take (m*1) d++ [.int .u8 x]++tail) &&true&&true then K cap1 (rlbL ps (List.take (m*1) d++ [.int .u8 x]++tail))else False
  else False:=by
 rw[hr.ask (k:=1) (by omega)];intro cap1 tail ht;obtain⟨h1,h2⟩:=hr.app1 x ht;rw[h1.good,h1.rlb];exact h cap1 _ h1 h2
theorem jba{c:J}(h:ja1 c=true)(n:Nat):jaw n c=true:=by
 simp[jaw,jao h]
def G0:Env:=Env.nil
theorem ok_G0:ja3 Tryz.prog G0:=jav
def s82(c:U8):Bool×Value:=(decide (0≤c.n∧c.n<256),.int .u8 (upZ c.n))
def av(a:Bool)(b c:Prop):Prop:=bif a then b else c
def bq(a b c:Bool)(d e:Prop):Prop:=bif a || b then av c d e else False
def jq(a:Int):Value:= .int .u8 (IntKind.u8.wrap a)
def gx(a b c:Int):Bool:=decide (a≥b) &&decide (a≤c)
theorem v82(c:U8)(R:Value→Prop):jax Tryz.prog G0 noL Tryz.f263 [Enc.enc c] (fun _=>none) 0 (fun v _ _=>R v)=(bq (decide (U8.n c≥97)) true (gx (U8.n c) 97 122) (R (jq (IntKind.u8.wrap (U8.n c-97)+65))) (R (.int .u8 (U8.n c)))):=by kernel_rfl
theorem ok82:jan Tryz.prog 263 (sp1 s82):=by
 refine jb6 ok_G0 hmix (.m Tryz.func263) jal jag fun c hc=> ?_
 rw[ja4,v82];delta av bq jq gx;have hc:(0≤c.n∧c.n<256):=jab hc;dsimp only[s82];unfold upZ;refine c_t (by simp) ?_;apply Ka<;>intro h
 ·have h:97≤c.n∧c.n≤122:=by simpa using h
  rw[Kd h,w8 (n:=c.n-97) (by omega),w8 (by omega),show c.n-97+65=c.n-32 by omega]
 ·have h:¬(97≤c.n∧c.n≤122):=by simpa using h
  rw[Kc h]
def V40_0:Y×Int×Bool×Int→J:=fun(s,c,b,i)=> [S s,C8 c,B b,I i]
def B40_0:Y×Int×Bool×Int→Ya:=fun _=> []
def S40_0:LSpec (Y×Int×Bool×Int) where
 live:=[0,1,4,5]
 mid:=[]
 n:=60
 dec vs bs:=match vs,bs with | [.string s,.int .u8 c,.bool b,.int .i64 i],[]=>some (s,c,b,i) | _,_=>none
 pre:=fun(s,c,b,i)=>decide (0≤i∧i≤s.size∧s.size≤9223372036854775807)
 fin:=fun(s,c,b,i) Z=>(bif hasZ ((bz s).drop i.toNat) c then(∀i',Z .ret [S s,C8 c,B true,I i'] [])else Z (.exit 0) [S s,C8 c,B b,I s.size] [])
def al(a:Y):Int:=(a.size:Int)
def ep(b:Y)(a:Int):Bool:=decide (a<al b)
def km(c d:Bool)(b f:Y)(e:Exit→J→Ya→Prop)(a:Int)(h j k:J)(g i:Value):Prop:=bif ep b a then bif c then bif d then e .ret (.string f::g::h) []else e .normal (.string f::i::j) []else False else e (.exit 0) (.string f::i::k) []
def am(a:Int):Value:= .int .u8 a
def ak(a:Int):Value:= .int .i64 a
def ax(a:Int):Int:=IntKind.i64.wrap (a+1)
def az(a:Int):Value:= .int .i64 (ax a)
def au(a:Y)(b:Int):Int:=jai a b.toNat
def aw(a:Y)(b c:Int):Bool:=au a b==c
def bk(b:Y)(a:Int):Bool:=decide (0≤a∧a<al b)
theorem r40_0(s:Y)(c:Int)(b:Bool)(i:Int)(jk:Tmps)(R:Exit→J→Ya→Prop):(jbn Tryz.prog G0 noL Tryz.f203.ntmps (ja2 Tryz.f203 0) (tl S40_0.live (V40_0 (s,c,b,i)) jk) (ml S40_0.mid (B40_0 (s,c,b,i))) S40_0.n fun e t' m' _=>R e (List.map t' S40_0.live) (List.map m' S40_0.mid))=(km (bk s i) (aw s i c) s s R i [B true,ak i] [B b,az i] [B b,ak i] (am c) (am c)):=by kernel_rfl
theorem l40_0:LOKf Tryz.prog (oneL 0 S40_0.h) Tryz.f203:=by
 refine jbb (h:=S40_0.h) (by kernel_rfl) (ja6 ok_G0 hmix (by kernel_rfl) (ja0 _) S40_0 V40_0 B40_0 (fun(s,c,b,i)=>(s.size-i).toNat) ?_ ?_ ?_)
 ·intro vs bs s h;simp only[S40_0]at h;split at h
  all_goals first | (cases h;exact⟨rfl,rfl⟩) | cases h
 ·exact fun _ _ _ h=>h
 ·intro⟨s,c,b,i⟩ jk Z hp hf;rw[r40_0];delta al ep km am ak ax az au aw bk;simp only[S40_0]at hp hf;simp only[jae]at hp;apply Ka<;>intro h
  ·have h:=jab h;rw[jca hp.1 h]at hf;refine c_t (jaa (by omega)) ?_;simp only[hasZ,List.any_cons]at hf;apply Ka<;>intro hb
   ·rw[hb]at hf;exact hf i
   ·rw[hb,Bool.false_or]at hf;rw[w64 (by omega)];exact⟨(s,c,b,i+1),rfl,rfl,by simp only[S40_0,jae];omega,by simp only;omega,hf⟩
  ·have h:=jac h;rw[jck (by omega)]at hf;obtain rfl:i=s.size:=by omega
   exact hf
def s40(s:Y)(c:U8):Bool×Value:=(decide (s.size≤9223372036854775807),.bool (hasZ (bz s) c.n))
def io(a b:Bool)(c d:Prop):Prop:=bif a then av b c d else False
def gm(b:Value)(a:Value→Prop):Prop:=Int→Tmps→a b
def bu(b:Y)(a:Int):O:=(bz b).drop a.toNat
theorem v40(s:Y)(c:U8)(R:Value→Prop):jax Tryz.prog G0 (oneL 0 S40_0.h) Tryz.f203 [Enc.enc s,Enc.enc c] (fun _=>none) 0 (fun v _ _=>R v)=(io (S40_0.pre (s,(U8.n c,(false,(0:Int))))) (hasZ (bu s 0) (U8.n c)) (gm (B true) R) (Tmps→R (B false))):=by kernel_rfl
theorem ok40:jan Tryz.prog 203 (sp2 s40):=by
 refine jcz ok_G0 hmix (.m Tryz.func203) l40_0 jag fun s c hc=> ?_
 rw[ja4,v40];delta av io gm bu;have hc:(s.size≤9223372036854775807):=jab hc;dsimp only[s40];refine c_t (by simp only[S40_0,jae];omega) ?_;rw[show List.drop (Int.toNat 0) (bz s)=bz s from rfl];exact Ka (fun h _ _=>by rw[h]) (fun h _=>by rw[h])
def V75_0:Y×Int×Int×Int→J:=fun(s,c,n,i)=> [S s,C8 c,I n,I i]
def B75_0:Y×Int×Int×Int→Ya:=fun _=> []
def S75_0:LSpec (Y×Int×Int×Int) where
 live:=[0,1,5,6]
 mid:=[]
 n:=60
 dec vs bs:=match vs,bs with | [.string s,.int .u8 c,.int .i64 n,.int .i64 i],[]=>some (s,c,n,i) | _,_=>none
 pre:=fun(s,c,n,i)=>decide (0≤i∧i≤s.size∧s.size≤9223372036854775807∧0≤n∧n≤i)
 fin:=fun(s,c,n,i) Z=>Z (.exit 0) [S s,C8 c,I (n+cntZ ((bz s).drop i.toNat) c),I s.size] []
def iw(c d:Bool)(a:Y)(g:Exit→J→Ya→Prop)(b:Int)(l:Ya)(k:J)(h:Nat)(e f:Prop)(i j:Value):Prop:=bif ep a b then bif c then av d e f else False else g (.exit h) (i::j::k) l
def ct(a b:Int):J:=[ak a,az b]
def bp(a b:Int):J:=[ak a,ak b]
theorem r75_0(s:Y)(c:Int)(n:Int)(i:Int)(jk:Tmps)(R:Exit→J→Ya→Prop):(jbn Tryz.prog G0 noL Tryz.f201.ntmps (ja2 Tryz.f201 0) (tl S75_0.live (V75_0 (s,c,n,i)) jk) (ml S75_0.mid (B75_0 (s,c,n,i))) S75_0.n fun e t' m' _=>R e (List.map t' S75_0.live) (List.map m' S75_0.mid))=(iw (bk s i) (aw s i c) s R i [] (bp n i) 0 (R .normal [S s,am c,az n,az i] []) (R .normal (S s::am c::ct n i) []) (S s) (am c)):=by kernel_rfl
theorem l75_0:LOKf Tryz.prog (oneL 0 S75_0.h) Tryz.f201:=by
 refine jbb (h:=S75_0.h) (by kernel_rfl) (ja6 ok_G0 hmix (by kernel_rfl) (ja0 _) S75_0 V75_0 B75_0 (fun(s,c,n,i)=>(s.size-i).toNat) ?_ ?_ ?_)
 ·intro vs bs s h;simp only[S75_0]at h;split at h
  all_goals first | (cases h;exact⟨rfl,rfl⟩) | cases h
 ·exact fun _ _ _ h=>h
 ·intro⟨s,c,n,i⟩ jk Z hp hf;rw[r75_0];delta av al ep iw am ax az ak ct bp au aw bk;simp only[S75_0]at hp hf;simp only[jae]at hp;apply Ka<;>intro h
  ·have h:=jab h;rw[jca hp.1 h]at hf;refine c_t (jaa (by omega)) ?_;simp only[cntZ,List.filter_cons]at hf;apply Ka<;>intro hb
   ·rw[hb]at hf;rw[w64 (n:=n+1) (by omega),w64 (by omega)];refine⟨(s,c,n+1,i+1),rfl,rfl,by simp only[S75_0,jae];omega,by simp only;omega,?_⟩;simp only[S75_0,cntZ];simp only[if_true,List.length_cons]at hf;rw[show n+1+((List.filter (fun x=>x==c) (List.drop (Int.toNat (i+1)) (bz s))).length:Int)=n+((List.filter (fun x=>x==c) (List.drop (Int.toNat (i+1)) (bz s))).length+1:Nat)by omega];exact hf
   ·rw[hb]at hf;rw[w64 (by omega)];exact⟨(s,c,n,i+1),rfl,rfl,by simp only[S75_0,jae];omega,by simp only;omega,hf⟩
  ·have h:=jac h;rw[jck (by omega)]at hf;obtain rfl:i=s.size:=by omega
   simp only[cntZ,List.filter_nil,List.length_nil]at hf;rw[show n+((0:Nat):Int)=n by omega]at hf;exact hf
def s75(s:Y)(c:U8):Bool×Value:=(decide (s.size≤9223372036854775807),.int .i64 (cntZ (bz s) c.n))
def gy(a:Bool)(c:Value)(b:Value→Prop):Prop:=bif a then Tmps→b c else False
theorem v75(s:Y)(c:U8)(R:Value→Prop):jax Tryz.prog G0 (oneL 0 S75_0.h) Tryz.f201 [Enc.enc s,Enc.enc c] (fun _=>none) 0 (fun v _ _=>R v)=(gy (S75_0.pre (s,(U8.n c,((0:Int),(0:Int))))) (I (0+(cntZ (bu s 0) (U8.n c):Int))) R):=by kernel_rfl
theorem ok75:jan Tryz.prog 201 (sp2 s75):=by
 refine jcz ok_G0 hmix (.m Tryz.func201) l75_0 jag fun s c hc=> ?_
 rw[ja4,v75];delta gy bu;have hc:(s.size≤9223372036854775807):=jab hc;dsimp only[s75];refine c_t (by simp only[S75_0,jae];omega) ?_;rw[show List.drop (Int.toNat 0) (bz s)=bz s from rfl,Int.zero_add];exact fun _=>rfl
def rep1(c:Int)(n:Nat):O:=List.replicate n c
theorem jh6(c:Int)(n:Nat):[c]++rep1 c n=rep1 c (n+1):=rfl
def V57_0:Int×Int×J×Nat×Nat×Int→J:=fun(c,n,d,m,cap,i)=> [C8 c,I n,.slice (some ⟨200,0,some 1⟩) m cap,I i]
def B57_0:Int×Int×J×Nat×Nat×Int→Ya:=fun(c,n,d,m,cap,i)=> [some ⟨d,5,true⟩]
def S57_0:LSpecA (Int×Int×J×Nat×Nat×Int) where
 live:=[0,1,5,6]
 mid:=[200]
 n:=210
 ap:=[(.tmp 5,200)]
 dec vs bs:=match vs,bs with | [.int .u8 c,.int .i64 n,.slice (some ⟨200,0,some 1⟩) m cap,.int .i64 i],[some ⟨d,5,true⟩]=>some (c,n,d,m,cap,i) | _,_=>none
 pre:=fun(c,n,d,m,cap,i)=>jcp d m cap&&decide (0≤i∧i≤n∧n≤1000∧i=m)
 fin:=fun(c,n,d,m,cap,i) Z=>∀d' cap',jcp d' n.toNat cap'=true→zc d' n.toNat=zc d m++rep1 c (n-i).toNat→Z (.exit 0) [C8 c,I n,.slice (some ⟨200,0,some 1⟩) n.toNat cap',I n] [some ⟨d',5,true⟩]
def e7(a:Bool)(b:Prop):Prop:=bif a then b else False
def dy(a b d:Bool)(c e:Prop):Prop:=bif a then e7 b c else e7 d e
def gn(a:J):Option Blk:=some (.mk (rlbL [(200,200)] a) 5 true)
def cq(a b c d:Nat):Value:= .slice (some (.mk a b (some 1))) c d
def bm(a:Bool)(b:Exit→J→Ya→Prop)(d:Ya)(c:J):Prop:=bif a then b .normal c d else False
def iq(a:List (Prod Nat Nat))(b:J):Option Blk:=some (.mk (rlbL a b) 5 true)
def lh(c:Exit→J→Ya→Prop)(e:Int)(d:IntKind)(b g:J)(a:Nat)(f:Value):Prop:=bm (jas [(a,200)] b&&true&&true) c [iq [(a,200)] b] (.int d e::f::g)
def g9(b:J)(a:Nat):J:=b.take (a*1)
def gz(d:Int)(c:IntKind)(b e:J)(a:Nat):J:=g9 b a++ [.int c d]++e
def fu(a:J)(b c:Nat):Prop:=jbd a b c 1=true
def f0(c:J)(a b:Nat):Bool:=jas [(a,b)] c&&true&&true
def e8(a:J)(b c d:Nat):Bool:=a.length.beq (b*1) &&c.ble b&&b.ble 9223372036854775807&&true&&jb2 (c+1) d
def bw(a b:Int):Bool:=decide (a<b)
theorem r57_0(c:Int)(n:Int)(d:J)(m:Nat)(cap:Nat)(i:Int)(jk:Tmps)(R:Exit→J→Ya→Prop):(jbn Tryz.prog G0 noL Tryz.f209.ntmps (ja2 Tryz.f209 0) (tl S57_0.live (V57_0 (c,n,d,m,cap,i)) jk) (ml S57_0.mid (B57_0 (c,n,d,m,cap,i))) S57_0.n fun e t' m' _=>S57_0.out R e t' m')=(dy (bw i n) (e8 d cap m 1) (f0 d 200 200) (∀a:Nat,∀b:J,fu b a (m+1)→lh R c .u8 (gz c .u8 d b m) [cq 200 0 (m+1) a,az i] 216 (ak n)) (R (.exit 0) [am c,ak n,cq 200 0 m cap,ak i] [gn d])):=by kernel_rfl
theorem l57_0:LOKf Tryz.prog (oneL 0 S57_0.hA) Tryz.f209:=by
 refine jbb (h:=S57_0.hA) (by kernel_rfl) (jbo ok_G0 hmix (by kernel_rfl) (ja0 _) S57_0 V57_0 B57_0 (fun(c,n,d,m,cap,i)=>(n-i).toNat) ?_ ?_ ?_)
 ·intro vs bs s h;simp only[S57_0]at h;split at h
  all_goals first | (cases h;exact⟨rfl,rfl⟩) | cases h
 ·exact fun⟨c,n,d,m,cap,i⟩ hp=>by
   simp only[S57_0,jaf]at hp;simp[V57_0,B57_0,S57_0,jaw,jbs,idsL,ids,jao (jap.1 hp.1).plain]
 ·intro⟨c,n,d,m,cap,i⟩ jk Z hp hf;rw[r57_0];delta e7 dy gn ak cq am bm iq lh ax az g9 gz fu f0 e8 bw;simp only[S57_0]at hp hf;simp only[jaf,jae]at hp;obtain⟨hr,hp⟩:=hp;have hr:=jap.1 hr;apply Ka<;>intro h
  ·have h:=jab h;refine c_t (hr.ask (by omega)) (fun cap1 tail ht=> ?_);obtain⟨h1,h2⟩:=hr.app1 c ht;refine c_t (by rw[h1.good];rfl) ?_;rw[h1.rlb,w64 (by omega)];refine⟨(c,n,_,m+1,cap1,i+1),rfl,rfl,by simp only[S57_0,jaf,jae];exact⟨jap.2 h1,by omega⟩,by simp only;omega,?_⟩;intro d' cap' g1 g2;refine hf d' cap' g1 ?_;rw[g2,h2,show(n-i).toNat=(n-(i+1)).toNat+1 by omega,←jh6,Kz]
  ·have h:=jac h;refine c_t (by rw[hr.good];rfl) ?_;rw[hr.rlb];obtain rfl:i=n:=by omega
   have e:i.toNat=m:=by omega
   have:=hf d cap (by rw[e];exact jap.2 hr) (by rw[e];simp[rep1]);rw[e]at this;exact this
def s57(c:U8)(n:Int):Bool×Value:=(decide (0≤n∧n≤1000),.string (sz (rep1 c.n n.toNat)))
def br(a:Bool)(c:Value)(b:Value→Prop):Prop:=bif a then b c else False
def ko(c d:Bool)(b:J)(a:Nat)(f:Value)(e:Value→Prop):Prop:=bif jaw a b&&c then Tmps→br d f e else False
def li(a:J)(b:Nat)(c:Value→Prop):Prop:=ko true (ja8 a 0 b) a 210 (.string (ja5 a 0 b)) c
theorem v57(c:U8)(n:Int)(R:Value→Prop):jax Tryz.prog G0 (oneL 0 S57_0.hA) Tryz.f209 [Enc.enc c,Enc.enc n] (fun _=>none) 0 (fun v _ _=>R v)=(bif S57_0.toLSpec.pre (U8.n c,(n,(([]:J),(0,(0,(0:Int))))))then∀a:J,∀b:Nat,jcp a n.toNat b=true→zc a n.toNat=zc [] 0++rep1 (U8.n c) (Int.toNat (n-0))→li a n.toNat R else False):=by kernel_rfl
theorem ok57:jan Tryz.prog 209 (sp2 s57):=by
 refine jcz ok_G0 hmix (.m Tryz.func209) l57_0 jag fun c n hc=> ?_
 rw[ja4,v57];delta br ko li;have hc:(0≤n∧n≤1000):=jab hc;dsimp only[s57];refine c_t ?_ (fun d' cap' h1 h2=> ?_)
 ·simp only[S57_0,jaf,jae];exact⟨rfl,by omega⟩
 have h1:=jap.1 h1;refine c_t (by rw[jba h1.plain];rfl) (fun _=>c_t h1.str.1 ?_);rw[h1.str.2,h2,show(n-0).toNat=n.toNat by omega];rfl
def tenZ(n:Nat):Int:=10^n
theorem tenZ_succ(n:Nat):tenZ (n+1)=tenZ n*10:=Int.pow_succ ..
theorem tenZ_le{n:Nat}(h:n≤18):1≤tenZ n∧tenZ n≤1000000000000000000:=by
 have:n=0∨n=1∨n=2∨n=3∨n=4∨n=5∨n=6∨n=7∨n=8∨n=9∨n=10∨n=11∨n=12∨n=13∨n=14∨n=15∨n=16∨n=17∨n=18:=by omega
 rcases this with rfl | rfl | rfl | rfl | rfl | rfl | rfl | rfl | rfl | rfl | rfl | rfl | rfl | rfl | rfl | rfl | rfl | rfl | rfl<;>decide
def unK(c:Int):Bool:=hasZ punchedZ c
def unD(c:Int):Int:=if unK c then(idxZ punchedZ c)%10 else 0
def unM(c:Int):Bool:=if unK c then decide (10≤idxZ punchedZ c)else false
def puZ(d:Int)(m:Bool):Int:=if 0≤d∧d≤9 then punchedZ.getD (if m then d+10 else d).toNat 0 else 0
def sgZ(c:Int)(m:Bool):Int:=if c=36 then 36 else if m then(if c=43 then 32 else 45)else if c=45 then 32 else 43
def fmZ(c d:Int)(m:Bool):Int:=if c=89∧d=48 then 32 else if c=84∨(c=73∧m=false)∨(c=82∧m=true)then puZ (d-48) m else d
def letZ(b:Int):Bool:=decide (65≤b∧b≤90∨97≤b∧b≤122)
def oneZ(c b:Int):Bool:=if c=88∨b=32 then true else if c=57 then jf6 b else letZ b
theorem dig_cases{d:Int}(h:0≤d∧d≤9):d=0∨d=1∨d=2∨d=3∨d=4∨d=5∨d=6∨d=7∨d=8∨d=9:=by omega
def s29(c:U8):Bool×Value:=(true,.tuple ⟨[.int .i64 (unD c.n),.bool (unM c.n),.bool (unK c.n)]⟩)
def aq(b:J)(a:Value):Value:= .tuple ⟨a::b⟩
def d8:J:=[.bool false]
def fv:J:=[.bool true]
def k7(b:Int)(a:Value→Prop):Prop:=a (aq (B true::fv) (ak b))
def dv(a:Int)(b:Px.U8):Bool:=a==U8.n b
def k8(b:Int)(a:Value→Prop):Prop:=a (aq (B false::fv) (ak b))
theorem v29(c:U8)(R:Value→Prop):jax Tryz.prog G0 noL Tryz.f134 [Enc.enc c] (fun _=>none) 0 (fun v _ _=>R v)=(bif dv 123 c then k8 0 R else bif dv 125 c then k7 0 R else bif dv 65 c then k8 1 R else bif dv 74 c then k7 1 R else bif dv 66 c then k8 2 R else bif dv 75 c then k7 2 R else bif dv 67 c then k8 3 R else bif dv 76 c then k7 3 R else bif dv 68 c then k8 4 R else bif dv 77 c then k7 4 R else bif dv 69 c then k8 5 R else bif dv 78 c then k7 5 R else bif dv 70 c then k8 6 R else bif dv 79 c then k7 6 R else bif dv 71 c then k8 7 R else bif dv 80 c then k7 7 R else bif dv 72 c then k8 8 R else bif dv 81 c then k7 8 R else bif dv 73 c then k8 9 R else bif dv 82 c then k7 9 R else R (aq (B false::d8) (ak 0))):=by kernel_rfl
theorem ok29:jan Tryz.prog 134 (sp1 s29):=by
 refine jb6 ok_G0 hmix (.m Tryz.func134) jal jag fun c hc=> ?_
 rw[ja4,v29];delta aq ak d8 fv k7 dv k8;dsimp only[s29];obtain⟨c⟩:=c;dsimp only
 repeat' (refine Ka (fun h=> ?_) (fun h=> ?_))
 all_goals first
  | (have h:=eq_of_beq h;subst h;rfl)
  | (have hk : unK c = false := by simp_all [unK, hasZ, punchedZ]
     simp[unD,unM,hk])
def s28(c:U8):Bool×Value:=(true,.tuple ⟨[.int .i64 (unD c.n),.bool (unM c.n),.bool (unK c.n)]⟩)
def ip(b:Int)(c:Nat)(a:Value→Prop):Prop:=a (aq (.bool (decide (c≥10))::fv) (ak b))
theorem v28(c:U8)(R:Value→Prop):jax Tryz.prog G0 noL Tryz.f243 [Enc.enc c] (fun _=>none) 0 (fun v _ _=>R v)=(bif dv 123 c then ip 0 0 R else bif dv 65 c then ip 1 1 R else bif dv 66 c then ip 2 2 R else bif dv 67 c then ip 3 3 R else bif dv 68 c then ip 4 4 R else bif dv 69 c then ip 5 5 R else bif dv 70 c then ip 6 6 R else bif dv 71 c then ip 7 7 R else bif dv 72 c then ip 8 8 R else bif dv 73 c then ip 9 9 R else bif dv 125 c then ip 0 10 R else bif dv 74 c then ip 1 11 R else bif dv 75 c then ip 2 12 R else bif dv 76 c then ip 3 13 R else bif dv 77 c then ip 4 14 R else bif dv 78 c then ip 5 15 R else bif dv 79 c then ip 6 16 R else bif dv 80 c then ip 7 17 R else bif dv 81 c then ip 8 18 R else bif dv 82 c then ip 9 19 R else R (aq (B false::d8) (ak 0))):=by kernel_rfl
theorem ok28:jan Tryz.prog 243 (sp1 s28):=by
 refine jb6 ok_G0 hmix (.m Tryz.func243) jal jag fun c hc=> ?_
 rw[ja4,v28];delta aq ak d8 fv ip dv;dsimp only[s28];obtain⟨c⟩:=c;dsimp only
 repeat' (refine Ka (fun h=> ?_) (fun h=> ?_))
 all_goals first
  | (have h:=eq_of_beq h;subst h;rfl)
  | (have hk : unK c = false := by simp_all [unK, hasZ, punchedZ]
     simp[unD,unM,hk])
def s27(d:Int)(m:Bool):Bool×Value:=(true,.tuple ⟨[.int .u8 (puZ d m),.bool (decide (0≤d∧d≤9))]⟩)
def cl(a b:Int):Bool:=decide (0≤a∧a<b)
def dw(a:Int):Bool:=decide (a<0)
theorem v27(d:Int)(m:Bool)(R:Value→Prop):jax Tryz.prog G0 noL Tryz.f268 [Enc.enc d,Enc.enc m] (fun _=>none) 0 (fun v _ _=>R v)=(bq (dw d) true (dw d || decide (d>9)) (R (aq d8 (am 0))) (bif m then br (cl d 10) (aq fv (.int .u8 (jai ⟨#[125,74,75,76,77,78,79,80,81,82]⟩ d.toNat))) R else br (cl d 10) (aq fv (.int .u8 (jai ⟨#[123,65,66,67,68,69,70,71,72,73]⟩ d.toNat))) R)):=by kernel_rfl
theorem ok27:jan Tryz.prog 268 (sp2 s27):=by
 refine jcz ok_G0 hmix (.m Tryz.func268) jal jag fun d m hc=> ?_
 rw[ja4,v27];delta av bq br aq fv cl am d8 dw;dsimp only[s27];refine c_t (by simp) ?_;apply Ka<;>intro h
 ·have h:¬(0≤d∧d≤9):=by
   simp only[Ko,jae]at h;omega
  simp[puZ,h]
 ·have h:0≤d∧d≤9:=by
   simp only[Kr,decide_eq_false_iff_not]at h;omega
  rcases dig_cases h with rfl | rfl | rfl | rfl | rfl | rfl | rfl | rfl | rfl | rfl<;>cases m<;>exact rfl
def s26(d:Int)(m:Bool):Bool×Value:=(true,.tuple ⟨[.int .u8 (puZ d m),.bool (decide (0≤d∧d≤9))]⟩)
def sd:J:=[am 123,am 65,am 66,am 67,am 68,am 69,am 70,am 71,am 72,am 73,am 125,am 74,am 75,am 76,am 77,am 78,am 79,am 80,am 81,am 82]
def qr(a:Int)(b:Nat)(c:Value→Prop):Prop:=bif cl a 20 then br (jbg .u8 sd b) (aq fv (.int .u8 (jar sd b))) c else False
def ew(a:Int):Nat:=0+a.toNat*1
def fx(a:Int):Nat:=(IntKind.i64.wrap a).toNat
def fp(a b:Int):Int:=IntKind.i64.wrap (a+b)
theorem v26(d:Int)(m:Bool)(R:Value→Prop):jax Tryz.prog G0 noL Tryz.f297 [Enc.enc d,Enc.enc m] (fun _=>none) 0 (fun v _ _=>R v)=(bq (dw d) true (dw d || decide (d>9)) (R (aq d8 (am 0))) (bif m then qr (fp d 10) (0+fx (d+10)*1) R else qr d (ew d) R)):=by kernel_rfl
theorem ok26:jan Tryz.prog 297 (sp2 s26):=by
 refine jcz ok_G0 hmix (.m Tryz.func297) jal jag fun d m hc=> ?_
 rw[ja4,v26];delta av bq br aq am sd fv cl qr ew fx fp d8 dw;dsimp only[s26];refine c_t (by simp) ?_;apply Ka<;>intro h
 ·have h:¬(0≤d∧d≤9):=by
   simp only[Ko,jae]at h;omega
  simp[puZ,h]
 ·have h:0≤d∧d≤9:=by
   simp only[Kr,decide_eq_false_iff_not]at h;omega
  rcases dig_cases h with rfl | rfl | rfl | rfl | rfl | rfl | rfl | rfl | rfl | rfl<;>cases m<;>exact rfl
def G1:Env:=(Env.nil.add 203 (sp2 s40)).add 268 (sp2 s27)
theorem ok_G1:ja3 Tryz.prog G1:=jaj (jaj jav ok40) ok27
def s77(n:Int):Bool×Value:=(decide (-9223372036854775808≤n∧n≤9223372036854775807),.int .u64 n.natAbs)
def cm(a b:Int):Int:=IntKind.i64.wrap (a-b)
theorem v77(n:Int)(R:Value→Prop):jax Tryz.prog G1 noL Tryz.f267 [Enc.enc n] (fun _=>none) 0 (fun v _ _=>R v)=(bif dw n then R (.int .u64 (IntKind.u64.wrap (IntKind.u64.wrap (cm 0 (ax n))+1)))else R (.int .u64 (IntKind.u64.wrap n))):=by kernel_rfl
theorem ok77:jan Tryz.prog 267 (sp1 s77):=by
 refine jb6 ok_G1 hmix (.m Tryz.func267) jal jag fun n hc=> ?_
 rw[ja4,v77];delta cm ax dw;have hc:(-9223372036854775808≤n∧n≤9223372036854775807):=jab hc;dsimp only[s77];apply Ka<;>intro h
 ·have h:=jab h;rw[w64 (n:=n+1) (by omega),w64 (by omega),wu64 (n:=0-(n+1)) (by omega),wu64 (by omega)];congr 1;omega
 ·have h:=jac h;rw[wu64 (by omega)];congr 1;omega
def s58(s:Y):Bool×Value:=(decide (s.size≤9223372036854775807),.int .u8 (if hasZ (bz s) 42 then 42 else 32))
def co(a:Y):Bool:=decide (a.size≤9223372036854775807)
def fq(b:Bool)(a:Y)(c d:Prop):Prop:=bif co a then av b c d else False
theorem v58(s:Y)(R:Value→Prop):jax Tryz.prog G1 noL Tryz.f208 [Enc.enc s] (fun _=>none) 0 (fun v _ _=>R v)=(fq (hasZ (bz s) 42) s (R (am 42)) (R (am 32))):=by kernel_rfl
theorem ok58:jan Tryz.prog 208 (sp1 s58):=by
 refine jb6 ok_G1 hmix (.m Tryz.func208) jal jag fun s hc=> ?_
 rw[ja4,v58];delta av co fq am;have hc:(s.size≤9223372036854775807):=jab hc;dsimp only[s58];exact c_t (jaa hc) (by cases hasZ (bz s) 42<;>rfl)
def s85(c:U8)(m:Bool):Bool×Value:=(true,.int .u8 (sgZ c.n m))
theorem v85(c:U8)(m:Bool)(R:Value→Prop):jax Tryz.prog G1 noL Tryz.f212 [Enc.enc c,Enc.enc m] (fun _=>none) 0 (fun v _ _=>R v)=(bif U8.n c==36 then R (am 36)else bif m then bif U8.n c==43 then R (am 32)else R (am 45)else bif U8.n c==45 then R (am 32)else R (am 43)):=by kernel_rfl
theorem ok85:jan Tryz.prog 212 (sp2 s85):=by
 refine jcz ok_G1 hmix (.m Tryz.func212) jal jag fun c m hc=> ?_
 rw[ja4,v85];delta am;dsimp only[s85];obtain⟨c⟩:=c;dsimp only;simp only[sgZ];cases m<;>by_cases h1:c=36<;>by_cases h2:c=43<;>by_cases h3:c=45<;>simp[h1,h2,h3]
def s97(c:U8)(d:U8)(m:Bool):Bool×Value:=(decide (48≤d.n∧d.n≤57),.int .u8 (fmZ c.n d.n m))
theorem fn97:Fn1 Tryz.prog 210 Tryz.f210:= .m Tryz.func210
def ij(a b c:Bool)(d e:Prop):Prop:=bif a || b then av c d e else False
def kg(b:Int)(a:IntKind):Int:=IntKind.i64.wrap (a.wrap (b-48))
def bv(a b c:Bool):Bool:=bif a then b else c
theorem v97(c:U8)(d:U8)(m:Bool)(R:Value→Prop):jax Tryz.prog G1 noL Tryz.f210 [Enc.enc c,Enc.enc d,Enc.enc m] (fun _=>none) 0 (fun v _ _=>R v)=(bq (U8.n c==89) true (U8.n c==89&&U8.n d==48) (R (am 32)) (ij (U8.n c==84) (bv (U8.n c==73) (!m || (U8.n c==82 || true)) (U8.n c==82 || true)) (U8.n c==84 || bv (U8.n c==73) (!m || U8.n c==82&&m) (U8.n c==82&&m)) (R (.int .u8 (puZ (kg (U8.n d) .u8) m))) (R (.int .u8 (U8.n d))))):=by kernel_rfl
theorem ok97:jan Tryz.prog 210 (sp3 s97):=by
 refine jh7 ok_G1 hmix fn97 jal jag fun c d m hc=> ?_
 rw[ja4,v97];delta av bq ij kg bv am;have hc:(48≤d.n∧d.n≤57):=jab hc;dsimp only[s97];obtain⟨c⟩:=c;obtain⟨d⟩:=d;dsimp only at*;rw[w8 (n:=d-48) (by omega),w64 (by omega)];simp only[fmZ];cases m<;>by_cases h1:c=89<;>by_cases h2:c=84<;>by_cases h3:c=73<;>by_cases h4:c=82<;>by_cases h5:d=48<;>simp[h1,h2,h3,h4,h5]
def G2:Env:=(Env.nil.add 203 (sp2 s40)).add 201 (sp2 s75)
theorem ok_G2:ja3 Tryz.prog G2:=jaj (jaj jav ok40) ok75
def drGo(s:O):O→Int
 | []=>0
 | c::r=>if hasZ [36,83,43,45] c=true∧2≤cntZ s c then c else drGo s r
def drZ(s:O):Int:=drGo s s
def jfd(s:O):Bool:=s.all (fun c=>hasZ [65,88,57] c) && (hasZ s 65 || hasZ s 88)
def crZ(s:O):Bool:=decide (2≤s.length) && (decide (s.drop (s.length-2)=[67,82]) || decide (s.drop (s.length-2)=[68,66]))
theorem has_dr{c:Int}:hasZ [36,83,43,45] c=true↔c=36∨c=83∨c=43∨c=45:=by simp[jbj]
theorem jeb(l:O):List.drop (Int.toNat 0) l=l:=rfl
def V96_0:Y×Int×Int→J:=fun(s,b,i)=> [S s,C8 b,I i]
def B96_0:Y×Int×Int→Ya:=fun _=> []
def S96_0:LSpec (Y×Int×Int) where
 live:=[0,2,3]
 mid:=[]
 n:=60
 dec vs bs:=match vs,bs with | [.string s,.int .u8 b,.int .i64 i],[]=>some (s,b,i) | _,_=>none
 pre:=fun(s,b,i)=>decide (0≤i∧i≤s.size∧s.size≤9223372036854775807)
 fin:=fun(s,b,i) Z=>(bif drGo (bz s) ((bz s).drop i.toNat)==0 then Z (.exit 0) [S s,C8 b,I s.size] []else(∀i',Z .ret [S s,C8 (drGo (bz s) ((bz s).drop i.toNat)),I i'] []))
def lx(a:Y)(b:Int):Bool:=hasZ (bz ⟨#[36,83,43,45]⟩) (au a b)
def j6(c f:Bool)(a d:Y)(b e:Int):Bool:=bk a b&&bv c (bk d e&&f) true
theorem r96_0(s:Y)(b:Int)(i:Int)(jk:Tmps)(R:Exit→J→Ya→Prop):(jbn Tryz.prog G2 noL Tryz.f205.ntmps (ja2 Tryz.f205 0) (tl S96_0.live (V96_0 (s,b,i)) jk) (ml S96_0.mid (B96_0 (s,b,i))) S96_0.n fun e t' m' _=>R e (List.map t' S96_0.live) (List.map m' S96_0.mid))=(iw (j6 (lx s i) (co s&&true) s s i i) (lx s i&&decide ((cntZ (bz s) (au s i):Int)≥2)) s R i [] [ak i] 0 (bif bk s i then R .ret [S s,.int .u8 (au s i),ak i] []else False) (R .normal [S s,am b,az i] []) (S s) (am b)):=by kernel_rfl
theorem l96_0:LOKf Tryz.prog (oneL 0 S96_0.h) Tryz.f205:=by
 refine jbb (h:=S96_0.h) (by kernel_rfl) (ja6 ok_G2 hmix (by kernel_rfl) (ja0 _) S96_0 V96_0 B96_0 (fun(s,b,i)=>(s.size-i).toNat) ?_ ?_ ?_)
 ·intro vs bs s h;simp only[S96_0]at h;split at h
  all_goals first | (cases h;exact⟨rfl,rfl⟩) | cases h
 ·exact fun _ _ _ h=>h
 ·intro⟨s,b,i⟩ jk Z hp hf;rw[r96_0];delta av al ep iw am ax az ak au bk lx bv j6 co;simp only[S96_0]at hp hf;simp only[jae]at hp;apply Ka<;>intro h
  ·have h:=jab h;rw[jca hp.1 h]at hf;have h1:decide (0≤i∧i<(s.size:Int))=true:=jaa (by omega);have h2:decide (s.size≤9223372036854775807)=true:=jaa (by omega);have k:bz ⟨#[36,83,43,45]⟩=[36,83,43,45]:=rfl;rw[k];refine c_t (by rw[h1,h2];cases hasZ [36,83,43,45] (jai s i.toNat) <;>rfl) ?_;rw[drGo]at hf;refine Ka (fun hd=>c_t h1 ?_) (fun hd=> ?_)
   ·simp only[jaf,jae]at hd
    have hne:(jai s i.toNat==0)=false:=by
     have:=has_dr.1 hd.1;simp only[beq_eq_false_iff_ne];omega
    rw[Kd ⟨hd.1,by omega⟩,hne]at hf;exact hf i
   ·have hd':¬(hasZ [36,83,43,45] (jai s i.toNat)=true∧2≤cntZ (bz s) (jai s i.toNat)):=by
     rintro ⟨q1,q2⟩;rw[q1,Bool.true_and,decide_eq_false_iff_not]at hd;omega
    rw[Kc hd']at hf;rw[w64 (by omega)];exact⟨(s,b,i+1),rfl,rfl,by simp only[S96_0,jae];omega,by simp only;omega,hf⟩
  ·have h:=jac h;rw[jck (by omega)]at hf;obtain rfl:i=s.size:=by omega
   exact hf
def s96(s:Y):Bool×Value:=(decide (s.size≤9223372036854775807),.int .u8 (drZ (bz s)))
def mb(a b:Bool)(d e:Value)(c:Value→Prop):Prop:=bif a then bif b then Tmps→c d else gm e c else False
theorem v96(s:Y)(R:Value→Prop):jax Tryz.prog G2 (oneL 0 S96_0.h) Tryz.f205 [Enc.enc s] (fun _=>none) 0 (fun v _ _=>R v)=(mb (S96_0.pre (s,((0:Int),(0:Int)))) (drGo (bz s) (bu s 0)==0) (am 0) (.int .u8 (drGo (bz s) (bu s 0))) R):=by kernel_rfl
theorem ok96:jan Tryz.prog 205 (sp1 s96):=by
 refine jb6 ok_G2 hmix (.m Tryz.func205) l96_0 jag fun s hc=> ?_
 rw[ja4,v96];delta gm mb bu am;have hc:(s.size≤9223372036854775807):=jab hc;dsimp only[s96];refine c_t (by simp only[S96_0,jae];omega) ?_;rw[jeb];refine Ka (fun h _=> ?_) (fun h _ _=>rfl);rw[drZ,eq_of_beq h]
def V73_0:Y×Bool×Int→J:=fun(s,b,i)=> [S s,B b,I i]
def B73_0:Y×Bool×Int→Ya:=fun _=> []
def S73_0:LSpec (Y×Bool×Int) where
 live:=[0,2,3]
 mid:=[]
 n:=60
 dec vs bs:=match vs,bs with | [.string s,.bool b,.int .i64 i],[]=>some (s,b,i) | _,_=>none
 pre:=fun(s,b,i)=>decide (0≤i∧i≤s.size∧s.size≤9223372036854775807)
 fin:=fun(s,b,i) Z=>(bif ((bz s).drop i.toNat).all (fun c=>hasZ [65,88,57] c)then Z (.exit 0) [S s,B b,I s.size] []else(∀i',Z .ret [S s,B false,I i'] []))
theorem r73_0(s:Y)(b:Bool)(i:Int)(jk:Tmps)(R:Exit→J→Ya→Prop):(jbn Tryz.prog G2 noL Tryz.f199.ntmps (ja2 Tryz.f199 0) (tl S73_0.live (V73_0 (s,b,i)) jk) (ml S73_0.mid (B73_0 (s,b,i))) S73_0.n fun e t' m' _=>R e (List.map t' S73_0.live) (List.map m' S73_0.mid))=(km (bk s i) (!hasZ (bz ⟨#[65,88,57]⟩) (au s i)) s s R i [ak i] [az i] [ak i] (B false) (B b)):=by kernel_rfl
theorem l73_0:LOKf Tryz.prog (oneL 0 S73_0.h) Tryz.f199:=by
 refine jbb (h:=S73_0.h) (by kernel_rfl) (ja6 ok_G2 hmix (by kernel_rfl) (ja0 _) S73_0 V73_0 B73_0 (fun(s,b,i)=>(s.size-i).toNat) ?_ ?_ ?_)
 ·intro vs bs s h;simp only[S73_0]at h;split at h
  all_goals first | (cases h;exact⟨rfl,rfl⟩) | cases h
 ·exact fun _ _ _ h=>h
 ·intro⟨s,b,i⟩ jk Z hp hf;rw[r73_0];delta al ep km ak ax az au bk;simp only[S73_0]at hp hf;simp only[jae]at hp;apply Ka<;>intro h
  ·have h:=jab h;rw[jca hp.1 h,List.all_cons]at hf;have k:bz ⟨#[65,88,57]⟩=[65,88,57]:=rfl;rw[k];refine c_t (jaa (by omega)) ?_;apply Ka<;>intro hd
   ·simp only[Ks]at hd;rw[hd]at hf;exact hf i
   ·simp only[Bool.not_eq_false']at hd;rw[hd,Bool.true_and]at hf;rw[w64 (by omega)];exact⟨(s,b,i+1),rfl,rfl,by simp only[S73_0,jae];omega,by simp only;omega,hf⟩
  ·have h:=jac h;rw[jck (by omega)]at hf;obtain rfl:i=s.size:=by omega
   exact hf
def s73(s:Y):Bool×Value:=(decide (s.size≤9223372036854775807),.bool (jfd (bz s)))
theorem v73(s:Y)(R:Value→Prop):jax Tryz.prog G2 (oneL 0 S73_0.h) Tryz.f199 [Enc.enc s] (fun _=>none) 0 (fun v _ _=>R v)=(io (S73_0.pre (s,(false,(0:Int)))) ((bu s 0).all (fun a:Int=>hasZ [65,88,57] a)) (Tmps→br (co s&& (hasZ (bz s) 65 || co s&&true)) (B (hasZ (bz s) 65 || hasZ (bz s) 88)) R) (gm (B false) R)):=by kernel_rfl
theorem ok73:jan Tryz.prog 199 (sp1 s73):=by
 refine jb6 ok_G2 hmix (.m Tryz.func199) l73_0 jag fun s hc=> ?_
 rw[ja4,v73];delta av io gm br co bu;have hc:(s.size≤9223372036854775807):=jab hc;dsimp only[s73];refine c_t (by simp only[S73_0,jae];omega) ?_;rw[jeb];refine Ka (fun h _=>c_t (by rw[jaa hc];cases hasZ (bz s) 65<;>rfl) ?_) (fun h _ _=> ?_)
 ·simp only[jfd,h,Bool.true_and]
 ·simp only[jfd,h,Bool.false_and]
def s101(s:Y):Bool×Value:=(decide (s.size≤9223372036854775807),.bool (crZ (bz s)))
theorem fn101:Fn1 Tryz.prog 204 Tryz.f204:= .m Tryz.func204
def np(a b c e:Bool)(d:Value→Prop):Prop:=bif bv a (b&&c) true then d (.bool (a&&e))else False
def ez(a b:Y):Bool:=a.toList==b.toList
def g0(a:Y)(b:Int):Y:=a.extract b.toNat a.size
def d9(a:Y)(b:Int):Int:=IntKind.i64.wrap (al a-b)
def c7(a b c d e:Int):Bool:=decide (a≤b∧b≤c∧d≤e)
theorem v101(s:Y)(R:Value→Prop):jax Tryz.prog G2 noL Tryz.f204 [Enc.enc s] (fun _=>none) 0 (fun v _ _=>R v)=(np (decide (al s≥2)) (c7 0 (d9 s 2) (al s) (al s) (al s)) (ez (g0 s (d9 s 2)) ⟨#[67,82]⟩ || c7 0 (d9 s 2) (al s) (al s) (al s) &&true) (ez (g0 s (d9 s 2)) ⟨#[67,82]⟩ || ez (g0 s (d9 s 2)) ⟨#[68,66]⟩) R):=by kernel_rfl
theorem ok101:jan Tryz.prog 204 (sp1 s101):=by
 refine jb6 ok_G2 hmix fn101 jal jag fun s hc=> ?_
 rw[ja4,v101];delta bv np ez g0 al d9 c7;have hc:(s.size≤9223372036854775807):=jab hc;dsimp only[s101];have e:((s.size:Int)-2).toNat=s.size-2:=by omega
 have ex:bz (s.extract (s.size-2) s.size)=(bz s).drop (s.size-2):=by rw[jb5,Kw (by rw[jak];omega)]
 have k1:bz ⟨#[67,82]⟩=[67,82]:=rfl;have k2:bz ⟨#[68,66]⟩=[68,66]:=rfl;rw[w64 (by omega),e,jcv,jcv,ex,k1,k2];by_cases h2:2≤s.size
 ·have d1:decide ((s.size:Int)≥2)=true:=jaa (by omega);have d2:decide (0≤(s.size:Int)-2∧(s.size:Int)-2≤s.size∧(s.size:Int)≤s.size)=true:=jaa (by omega);rw[d1,d2];refine c_t (by simp) ?_;simp[crZ,h2]
 ·have d1:decide ((s.size:Int)≥2)=false:=jad (by omega);rw[d1];refine c_t rfl ?_;simp[crZ,h2]
def cdGo:O→Int→Int→Bool×Int×Int
 | [],n,i=>(true,n,i)
 | c::r,n,i=>if jf6 c=true then(if 1≤n*10+(c-48)∧n*10+(c-48)≤32 then cdGo r (n*10+(c-48)) (i+1)else(false,0,0))else(true,n,i)
def ctP(l:O)(i:Int):Prop:=(cdGo (l.drop i.toNat) 0 i).1=true∧1≤(cdGo (l.drop i.toNat) 0 i).2.1∧(cdGo (l.drop i.toNat) 0 i).2.2<l.length∧l.getD (cdGo (l.drop i.toNat) 0 i).2.2.toNat 0=41
instance (l:List Int)(i:Int):Decidable (ctP l i):=by unfold ctP;infer_instance
def ctZ(l:O)(i:Int):Int×Int:=if ctP l i then((cdGo (l.drop i.toNat) 0 i).2.1,(cdGo (l.drop i.toNat) 0 i).2.2+1)else(0,0)
theorem jhy:∀(l:O)(n i:Int),0≤n∧n≤32→(cdGo l n i).1=true→0≤(cdGo l n i).2.1∧(cdGo l n i).2.1≤32∧i≤(cdGo l n i).2.2∧(cdGo l n i).2.2≤i+l.length
 | [],n,i,h,_=>by simp only[cdGo,List.length_nil];omega
 | c::r,n,i,h,hok=>by
  simp only[cdGo]at hok ⊢;split
  ·rename_i hd;rw[Kd hd]at hok;split
   ·rename_i hq;rw[Kd hq]at hok;have:=jhy r _ _ (by omega) hok;simp only[List.length_cons];omega
   ·rename_i hq;rw[Kc hq]at hok;cases hok
  ·simp only[List.length_cons];omega
def V81_0:Y×Int×Int×Int×Int→J:=fun(s,r1,r2,n,i)=> [S s,I r1,I r2,I n,I i]
def B81_0:Y×Int×Int×Int×Int→Ya:=fun _=> []
def S81_0:LSpec (Y×Int×Int×Int×Int) where
 live:=[0,4,5,6,7]
 mid:=[]
 n:=80
 dec vs bs:=match vs,bs with | [.string s,.int .i64 r1,.int .i64 r2,.int .i64 n,.int .i64 i],[]=>some (s,r1,r2,n,i) | _,_=>none
 pre:=fun(s,r1,r2,n,i)=>decide (0≤i∧i≤s.size∧s.size≤9223372036854775807∧0≤n∧n≤32)
 fin:=fun(s,r1,r2,n,i) Z=>(bif (cdGo ((bz s).drop i.toNat) n i).1 then Z (.exit 0) [S s,I r1,I r2,I (cdGo ((bz s).drop i.toNat) n i).2.1,I (cdGo ((bz s).drop i.toNat) n i).2.2] []else(∀n' i',Z .ret [S s,I 0,I 0,I n',I i'] []))
def go(a b c d:Bool)(e f:Prop):Prop:=bif bif a then b else c then av d e f else False
def jl(a b:Int):Int:=IntKind.i64.wrap (a*b)
def j7(a b d:Int)(c:IntKind):Int:=IntKind.i64.wrap (jl a b+kg d c)
def k9(c:Y)(a b d:Int):Value:= .int .i64 (j7 a b (au c d) .u8)
theorem r81_0(s:Y)(r1:Int)(r2:Int)(n:Int)(i:Int)(jk:Tmps)(R:Exit→J→Ya→Prop):(jbn Tryz.prog G2 noL Tryz.f262.ntmps (ja2 Tryz.f262 0) (tl S81_0.live (V81_0 (s,r1,r2,n,i)) jk) (ml S81_0.mid (B81_0 (s,r1,r2,n,i))) S81_0.n fun e t' m' _=>R e (List.map t' S81_0.live) (List.map m' S81_0.mid))=(go (ep s i) (j6 (decide (au s i≥48)) true s s i i) true (ep s i&&gx (au s i) 48 57) (bif bk s i then bq (decide (j7 n 10 (au s i) .u8<1)) true (decide (j7 n 10 (au s i) .u8<1) || decide (j7 n 10 (au s i) .u8>32)) (R .ret [S s,ak 0,ak 0,k9 s n 10 i,ak i] []) (R .normal [S s,ak r1,ak r2,k9 s n 10 i,az i] [])else False) (R (.exit 0) (S s::ak r1::ak r2::bp n i) [])):=by kernel_rfl
theorem l81_0:LOKf Tryz.prog (oneL 0 S81_0.h) Tryz.f262:=by
 refine jbb (h:=S81_0.h) (by kernel_rfl) (ja6 ok_G2 hmix (by kernel_rfl) (ja0 _) S81_0 V81_0 B81_0 (fun(s,r1,r2,n,i)=>(s.size-i).toNat) ?_ ?_ ?_)
 ·intro vs bs s h;simp only[S81_0]at h;split at h
  all_goals first | (cases h;exact⟨rfl,rfl⟩) | cases h
 ·exact fun _ _ _ h=>h
 ·intro⟨s,r1,r2,n,i⟩ jk Z hp hf;rw[r81_0];delta av go ak bp bq ax az kg jl j7 au k9 al bk gx ep bv j6;simp only[S81_0]at hp hf;simp only[jae]at hp;have h1:i<(s.size:Int)→decide (0≤i∧i<(s.size:Int))=true:=fun h=>jaa (by omega)
  refine c_t ?_ ?_
  ·by_cases hi:i<(s.size:Int)
   ·rw[jaa hi,h1 hi];cases decide (jai s i.toNat≥48) <;>rfl
   ·rw[jad hi];rfl
  apply Ka<;>intro h
  ·simp only[jaf,jae]at h;obtain⟨hi,hd1,hd2⟩:=h;rw[jca hp.1 hi]at hf;refine c_t (h1 hi) (c_t (by simp) ?_);have hdig:jf6 (jai s i.toNat)=true:=jaa (by omega);rw[cdGo,Kd hdig]at hf;rw[w8 (n:=jai s i.toNat-48) (by omega),w64 (n:=jai s i.toNat-48) (by omega),w64 (n:=n*10) (by omega),w64 (n:=n*10+(jai s i.toNat-48)) (by omega)];apply Ka<;>intro hd
   ·simp only[Ko,jae]at hd;rw[Kc (by omega)]at hf;exact hf _ i
   ·simp only[Kr,decide_eq_false_iff_not]at hd;rw[Kd (by omega)]at hf;rw[w64 (by omega)];exact⟨(s,r1,r2,_,i+1),rfl,rfl,by simp only[S81_0,jae];omega,by simp only;omega,hf⟩
  ·by_cases hi:i<(s.size:Int)
   ·rw[jaa hi,Bool.true_and]at h
    have hdig:¬jf6 (jai s i.toNat)=true:=by
     intro hq;have:=jab hq;rw[jaa (by omega),jaa (by omega)]at h;cases h
    rw[jca hp.1 hi,cdGo,Kc hdig]at hf;exact hf
   ·rw[jck (by omega)]at hf;exact hf
def s81(s:Y)(i:Int):Bool×Value:=(decide (0≤i∧i≤s.size∧s.size≤9223372036854775807),.tuple ⟨[.int .i64 (ctZ (bz s) i).1,.int .i64 (ctZ (bz s) i).2]⟩)
def la(a:Int):Value:= .tuple ⟨bp 0 a⟩
def ly(a:Y)(b:Int):Prod Int Int:=(cdGo (bu a b) 0 b).snd
theorem v81(s:Y)(i:Int)(R:Value→Prop):jax Tryz.prog G2 (oneL 0 S81_0.h) Tryz.f262 [Enc.enc s,Enc.enc i] (fun _=>none) 0 (fun v _ _=>R v)=(io (Px.S81_0.pre (s,((0:Int),((0:Int),((0:Int),i))))) (cdGo (bu s i) 0 i).fst (Tmps→bq (decide ((ly s i).fst<1)) (decide ((ly s i).snd≥al s) || cl (ly s i).snd (al s) &&true) (decide ((ly s i).fst<1) || (decide ((ly s i).snd≥al s) || jai s (ly s i).snd.toNat !=41)) (R (la 0)) (R (aq [I (fp (ly s i).snd 1)] (I (ly s i).fst)))) (Int→gm (la 0) R)):=by kernel_rfl
theorem ok81:jan Tryz.prog 262 (sp2 s81):=by
 refine jcz ok_G2 hmix (.m Tryz.func262) l81_0 jag fun s i hc=> ?_
 rw[ja4,v81];delta av io gm ak bp la bq aq bu ly fp al cl;have hc:(0≤i∧i≤s.size∧s.size≤9223372036854775807):=jab hc;dsimp only[s81];refine c_t (by simp only[S81_0,jae];omega) ?_;refine Ka (fun h _=> ?_) (fun h _ _ _=> ?_)
 ·have hr:=jhy ((bz s).drop i.toNat) 0 i (by omega) h;rw[KE,jak]at hr
  have hP:ctP (bz s) i↔1≤(cdGo ((bz s).drop i.toNat) 0 i).2.1∧(cdGo ((bz s).drop i.toNat) 0 i).2.2<s.size∧jai s (cdGo ((bz s).drop i.toNat) 0 i).2.2.toNat=41:=by
   simp only[ctP,h,true_and,jak,jed]
  have hz:ctZ (bz s) i=if ctP (bz s) i then((cdGo ((bz s).drop i.toNat) 0 i).2.1,(cdGo ((bz s).drop i.toNat) 0 i).2.2+1)else(0,0):=rfl
  rw[hz];generalize cdGo ((bz s).drop i.toNat) 0 i=q at*;refine c_t ?_ (Ka (fun hd=> ?_) (fun hd=> ?_))
  ·by_cases h1:q.2.2<s.size
   ·rw[jaa (p:=0≤q.2.2∧q.2.2<(s.size:Int)) (by omega)];simp
   ·rw[jaa (p:=q.2.2≥(s.size:Int)) (by omega)];simp
  ·have hn:¬ctP (bz s) i:=by
    rw[hP];simp only[Ko,jae,KM,ne_eq]at hd;omega
   rw[Kc hn]
  ·have hn:ctP (bz s) i:=by
    rw[hP];simp only[Kr,decide_eq_false_iff_not,bne_eq_false_iff_eq]at hd;omega
   have:=hP.1 hn;rw[Kd hn,w64 (by omega)]
 ·have hn:¬ctP (bz s) i:=fun hq=>by rw[hq.1]at h;cases h
  rw[ctZ,Kc hn]
def kL:O:=[57,86,90,42,89,84,73,82,83,43,45,36,44,46,47,66,67,68,65,88]
def xpGo:O→Int→Int→O→O×Bool
 | [],st,_,out=>(out,decide (st=0))
 | c::r,st,n,out=>
  if st=1 then
   (if c=41 then(if 0<n then xpGo r 2 n out else([],false))
   else if jf6 c=true∧ ¬(n=0∧c=48)∧10*n+(c-48)≤32 then xpGo r 1 (10*n+(c-48)) out else([],false))
  else if c=41∨st=2∧c=40 then([],false)
  else if c=40 then xpGo r 1 0 out
  else if hasZ kL (upZ c)=true∧(out.length:Int)+(if st=2 then n else 1)≤32 then xpGo r 0 0 (out++rep1 (upZ c) (if st=2 then n else 1).toNat)else([],false)
theorem xp_put{c:Int}{r:O}{st n:Int}{out:O}(hs:st=2∨st=0∧c≠40):
  xpGo (c::r) st n out=if hasZ kL (upZ c)=true∧(out.length:Int)+(if st=2 then n else 1)≤32 then xpGo r 0 0 (out++rep1 (upZ c) (if st=2 then n else 1).toNat)else([],false):=by
 rw[xpGo,Kc (by omega)];by_cases h1:c=41
 ·subst h1;rw[Kd (.inl rfl),Kc (by intro h;exact absurd h.1 (by decide))]
 ·by_cases h2:c=40
  ·subst h2;have:st=2:=by omega
   subst this;rw[Kd (.inr ⟨rfl,rfl⟩),Kc (by intro h;exact absurd h.1 (by decide))]
  ·rw[Kc (by omega),Kc h2]
theorem xp_num:∀(l:O)(n i:Int)(out:O),0≤n∧n≤32→
  if(cdGo l n i).1=true∧1≤(cdGo l n i).2.1∧(l.drop ((cdGo l n i).2.2-i).toNat).head?=some 41 then xpGo l 1 n out=xpGo (l.drop ((cdGo l n i).2.2-i+1).toNat) 2 (cdGo l n i).2.1 out
  else(xpGo l 1 n out).2=false
 | [],n,i,out,_=>by
  rw[Kc (by simp[cdGo])];rfl
 | c::r,n,i,out,h=>by
  by_cases hd:jf6 c=true
  ·have hd':=jab hd;by_cases hq:1≤n*10+(c-48)∧n*10+(c-48)≤32
   ·have e:cdGo (c::r) n i=cdGo r (n*10+(c-48)) (i+1):=by rw[cdGo,Kd hd,Kd hq]
    have e2:xpGo (c::r) 1 n out=xpGo r 1 (n*10+(c-48)) out:=by
     rw[xpGo,Kd rfl,Kc (by omega),Kd ⟨hd,by omega,by omega⟩,show 10*n+(c-48)=n*10+(c-48)by omega]
    have ih:=xp_num r (n*10+(c-48)) (i+1) out (by omega);rw[e,e2];by_cases hk:(cdGo r (n*10+(c-48)) (i+1)).1=true
    ·have hr:=jhy r _ (i+1) (by omega) hk;have e3:((cdGo r (n*10+(c-48)) (i+1)).2.2-i).toNat=((cdGo r (n*10+(c-48)) (i+1)).2.2-(i+1)).toNat+1:=by omega
     have e4:((cdGo r (n*10+(c-48)) (i+1)).2.2-i+1).toNat=((cdGo r (n*10+(c-48)) (i+1)).2.2-(i+1)+1).toNat+1:=by omega
     rw[e3,e4,List.drop_succ_cons,List.drop_succ_cons];exact ih
    ·rw[Kc (fun q=>hk q.1)]at ih ⊢;exact ih
   ·have e:cdGo (c::r) n i=(false,0,0):=by rw[cdGo,Kd hd,Kc hq]
    rw[e,Kc (by simp)];rw[xpGo,Kd rfl,Kc (by omega),Kc (by omega)]
  ·have e:cdGo (c::r) n i=(true,n,i):=by rw[cdGo,Kc hd]
   rw[e];simp only[Int.sub_self,Int.toNat_zero,List.drop_zero,List.head?_cons,Kb,true_and,Int.zero_add,Int.toNat_one,List.drop_succ_cons];rw[xpGo,Kd rfl];by_cases h41:c=41
   ·rw[Kd h41];by_cases hn:0<n
    ·rw[Kd hn,Kd ⟨by omega,h41⟩]
    ·rw[Kc hn,Kc (by omega)]
   ·rw[Kc h41,Kc (show¬(jf6 c=true∧ ¬(n=0∧c=48)∧10*n+(c-48)≤32)from fun q=>hd q.1),Kc (show¬(1≤n∧c=41)from fun q=>h41 q.2)]
theorem xp_ct(l:O)(i:Int)(out:O)(hi:0≤i)(hl:i≤l.length):
  if ctP l i then xpGo (l.drop i.toNat) 1 0 out=xpGo (l.drop (ctZ l i).2.toNat) 2 (ctZ l i).1 out∧1≤(ctZ l i).1∧(ctZ l i).1≤32∧i<(ctZ l i).2∧(ctZ l i).2≤l.length
  else(xpGo (l.drop i.toNat) 1 0 out).2=false∧ctZ l i=(0,0):=by
 have N:=xp_num (l.drop i.toNat) 0 i out (by omega);by_cases hk:(cdGo (l.drop i.toNat) 0 i).1=true
 ·have hr:=jhy _ 0 i (by omega) hk;rw[KE]at hr;have e1:i.toNat+((cdGo (l.drop i.toNat) 0 i).2.2-i).toNat=(cdGo (l.drop i.toNat) 0 i).2.2.toNat:=by omega
  have e2:i.toNat+((cdGo (l.drop i.toNat) 0 i).2.2-i+1).toNat=((cdGo (l.drop i.toNat) 0 i).2.2+1).toNat:=by omega
  have hh:((l.drop i.toNat).drop ((cdGo (l.drop i.toNat) 0 i).2.2-i).toNat).head?=some 41↔(cdGo (l.drop i.toNat) 0 i).2.2<l.length∧l.getD (cdGo (l.drop i.toNat) 0 i).2.2.toNat 0=41:=by
   rw[List.drop_drop,e1,List.head?_drop,List.getD_eq_getElem?_getD];constructor
   ·intro h;have:=(List.getElem?_eq_some_iff.1 h).1;exact⟨by omega,by rw[h];rfl⟩
   ·rintro ⟨h1,h2⟩;rw[Kx (by omega)]at h2 ⊢;simpa using h2
  by_cases hP:ctP l i
  ·rw[Kd hP];rw[Kd ⟨hk,hP.2.1,hh.2 ⟨hP.2.2.1,hP.2.2.2⟩⟩,List.drop_drop,e2]at N;have hz:ctZ l i=((cdGo (l.drop i.toNat) 0 i).2.1,(cdGo (l.drop i.toNat) 0 i).2.2+1):=Kd hP;have:=hP.2.1;have:=hP.2.2.1;rw[hz];exact⟨N,by simp only;omega,by simp only;omega,by simp only;omega,by simp only;omega⟩
  ·rw[Kc hP];rw[Kc (fun q=>hP ⟨hk,q.2.1,(hh.1 q.2.2).1,(hh.1 q.2.2).2⟩)]at N;exact⟨N,Kc hP⟩
 ·have hP:¬ctP l i:=fun q=>hk q.1
  rw[Kc hP];rw[Kc (fun q=>hk q.1)]at N;exact⟨N,Kc hP⟩
def G3:Env:=(((((Env.nil.add 263 (sp1 s82)).add 203 (sp2 s40)).add 209 (sp2 s57)).add 205 (sp1 s96)).add 204 (sp1 s101)).add 262 (sp2 s81)
theorem ok_G3:ja3 Tryz.prog G3:=jaj (jaj (jaj (jaj (jaj (jaj jav ok82) ok40) ok57) ok96) ok101) ok81
def V45_0:Y×Y×Int×Y×Int→J:=fun(s,r,e,o,i)=> [S s,S r,I e,S o,I i]
def B45_0:Y×Y×Int×Y×Int→Ya:=fun _=> []
def S45_0:LSpec (Y×Y×Int×Y×Int) where
 live:=[0,2,3,4,5]
 mid:=[]
 n:=80
 dec vs bs:=match vs,bs with | [.string s,.string r,.int .i64 e,.string o,.int .i64 i],[]=>some (s,r,e,o,i) | _,_=>none
 pre:=fun(s,r,e,o,i)=>decide (0≤i∧i≤s.size∧s.size≤9223372036854775807∧o.size≤32)
 fin:=fun(s,r,e,o,i) Z=>(bif (xpGo ((bz s).drop i.toNat) 0 0 (bz o)).2 then Z (.exit 0) [S s,S r,I e,S (sz (xpGo ((bz s).drop i.toNat) 0 0 (bz o)).1),I s.size] []else(∀o' i',Z .ret [S s,S e0,I 30,S o',I i'] []))
def gk(c:Bool)(a:Y)(b:Int)(d e:Prop):Prop:=bif bk a b then av c d e else False
def ox(a e:Bool)(b c:Int)(d f:Prop):Prop:=bif !a || true then bif !a || decide (b>c)then d else e7 e f else False
def e9(a b:Y)(d:J)(c:Value):J:= .string a:: .string b::c::d
def ay:Y:=⟨#[]⟩
def cv:Value:= .string ay
def f8(a b:Y):Bool:=jbf (a.size+b.size)
def my:O:=bz ⟨#[57,86,90,42,89,84,73,82,83,43,45,36,44,46,47,66,67,68,65,88]⟩
def ja(c:Bool)(a b:Int)(d e:Prop):Prop:=bif cl a b then bif c then d else e else False
def jr(a:Y)(b:Int):Prod Int Int:=ctZ (bz a) (ax b)
def ia(a b c:Int):Bool:=decide (a≤b∧b≤c)
def ig(c:Y)(a b:Int)(d:Nat):Bool:=decide (0≤a∧a≤b∧c.size≤d)
theorem r45_0(s:Y)(r:Y)(e:Int)(o:Y)(i:Int)(jk:Tmps)(R:Exit→J→Ya→Prop):(jbn Tryz.prog G3 noL Tryz.f198.ntmps (ja2 Tryz.f198 0) (tl S45_0.live (V45_0 (s,r,e,o,i)) jk) (ml S45_0.mid (B45_0 (s,r,e,o,i))) S45_0.n fun e t' m' _=>R e (List.map t' S45_0.live) (List.map m' S45_0.mid))=(iw (bk s i) (aw s i 40) s R i [] [ak e,S o,ak i] 0 (bif ig s (ax i) (al s) 9223372036854775807 then bq (decide ((jr s i).fst<1)) true (decide ((jr s i).fst<1) || decide ((jr s i).snd≥al s)) (R .ret [S s,cv,ak 30,S o,I (jr s i).snd] []) (ja (cl (jai s (jr s i).snd.toNat) 256) (jr s i).snd (al s) (ox (hasZ my (upZ (jai s (jr s i).snd.toNat))) (ia 0 (jr s i).fst 1000) (fp (al o) (jr s i).fst) 32 (R .ret [S s,cv,ak 30,S o,I (jr s i).snd] []) (bm (f8 o (sz (rep1 (upZ (jai s (jr s i).snd.toNat)) (jr s i).fst.toNat))) R [] (e9 s r [S (o++sz (rep1 (upZ (jai s (jr s i).snd.toNat)) (jr s i).fst.toNat)),I (fp (jr s i).snd 1)] (ak e)))) False)else False) (gk (cl (au s i) 256) s i (ox (hasZ my (upZ (au s i))) (f8 o (sz (rep1 (upZ (au s i)) (Int.toNat 1)))) (fp (al o) 1) 32 (R .ret [S s,cv,ak 30,S o,ak i] []) (R .normal (e9 s r [S (o++sz (rep1 (upZ (au s i)) (Int.toNat 1))),az i] (ak e)) [])) False) (S s) (S r)):=by kernel_rfl
theorem l45_0:LOKf Tryz.prog (oneL 0 S45_0.h) Tryz.f198:=by
 refine jbb (h:=S45_0.h) (by kernel_rfl) (ja6 ok_G3 hmix (by kernel_rfl) (ja0 _) S45_0 V45_0 B45_0 (fun(s,r,e,o,i)=>(s.size-i).toNat) ?_ ?_ ?_)
 ·intro vs bs s h;simp only[S45_0]at h;split at h
  all_goals first | (cases h;exact⟨rfl,rfl⟩) | cases h
 ·exact fun _ _ _ h=>h
 ·intro⟨s,r,e,o,i⟩ jk Z hp hf;rw[r45_0];delta av al ep iw bk gk e7 ox e9 ak ax az au ay cv fp f8 my cl bq ja bm jr ia ig aw;simp only[S45_0]at hp hf;simp only[jae]at hp;apply Ka<;>intro h
  ·have h:=jab h;have hc:=jf2 s i.toNat;rw[jca hp.1 h]at hf;have k:bz ⟨#[57,86,90,42,89,84,73,82,83,43,45,36,44,46,47,66,67,68,65,88]⟩=kL:=rfl
   have put:∀(c:Int)(q:Nat),0≤c∧c<256→bz (o++sz (rep1 (upZ c) q))=bz o++rep1 (upZ c) q∧(o++sz (rep1 (upZ c) q)).size=o.size+q:=fun c q hc=>by
    have hb:IsB (rep1 (upZ c) q):=fun x hx=>by
     rw[Ky hx];unfold upZ;split<;>omega
    have e:bz (o++sz (rep1 (upZ c) q))=bz o++rep1 (upZ c) q:=by rw[jb0,jc7 hb]
    exact⟨e,by rw[←jak,e,Kk,jak];simp[rep1]⟩
   refine c_t (jaa (by omega)) (Ka (fun h40=> ?_) (fun h40=> ?_))
   ·have h40:=eq_of_beq h40;rw[h40]at hf
    have e1:xpGo (40::(bz s).drop (i+1).toNat) 0 0 (bz o)=xpGo ((bz s).drop (i+1).toNat) 1 0 (bz o):=by
     rw[xpGo,Kc (by decide),Kc (by decide),Kd rfl]
    rw[e1]at hf;rw[w64 (n:=i+1) (by omega),k];have N:=xp_ct (bz s) (i+1) (bz o) (by omega) (by rw[jak];omega);refine c_t (jaa (by omega)) (c_t (by simp) ?_);by_cases hP:ctP (bz s) (i+1)
    ·rw[Kd hP]at N;obtain⟨n1,n2,n3,n4,n5⟩:=N;rw[n1]at hf;rw[jak]at n5;generalize (ctZ (bz s) (i+1)).1=n' at*;generalize (ctZ (bz s) (i+1)).2=a' at*;apply Ka<;>intro hd
     ·simp only[Ko,jae]at hd;rw[jck (by omega)]at hf;exact hf o a'
     ·simp only[Kr,decide_eq_false_iff_not]at hd;have hc2:=jf2 s a'.toNat;obtain⟨u1,u2⟩:=put (jai s a'.toNat) n'.toNat hc2;rw[jca (by omega) (show a'<s.size by omega),xp_put (.inl rfl),jak,Kd rfl]at hf;rw[w64 (n:=(o.size:Int)+n') (by omega)];refine c_t (jaa (by omega)) (c_t (jaa hc2) (c_t (by simp) (Ka (fun hq=> ?_) (fun hq=> ?_))))
      ·rw[Kc (by
        intro hz;rw[hz.1]at hq;simp only[Bool.not_true,Bool.false_or,jae]at hq;omega)]at hf
       exact hf o a'
      ·simp only[Kr,Bool.not_eq_false',decide_eq_false_iff_not]at hq;rw[Kd ⟨hq.1,by omega⟩]at hf;refine c_t (jaa (by omega)) (c_t ?_ ?_)
       ·rw[jco];simp only[jbf,Nat.ble_eq,rep1,Km];omega
       ·rw[w64 (by omega)];refine⟨(s,r,e,_,a'+1),rfl,rfl,by simp only[S45_0,jae];omega,by simp only;omega,?_⟩;simp only[S45_0,u1];exact hf
    ·rw[Kc hP]at N;rw[N.1]at hf;rw[N.2];exact hf o 0
   ·have h40:jai s i.toNat≠40:=by simpa using h40
    obtain⟨u1,u2⟩:=put (jai s i.toNat) (Int.toNat 1) hc;rw[xp_put (.inr ⟨rfl,h40⟩),jak,Kc (show¬((0:Int)=2)by decide)]at hf;rw[k,w64 (n:=(o.size:Int)+1) (by omega)];refine c_t (jaa (by omega)) (c_t (jaa hc) (c_t (by simp) (Ka (fun hq=> ?_) (fun hq=> ?_))))
    ·rw[Kc (by
      intro hz;rw[hz.1]at hq;simp only[Bool.not_true,Bool.false_or,jae]at hq;omega)]at hf
     exact hf o i
    ·simp only[Kr,Bool.not_eq_false',decide_eq_false_iff_not]at hq;rw[Kd ⟨hq.1,by omega⟩]at hf;refine c_t ?_ ?_
     ·rw[jco];simp only[jbf,Nat.ble_eq,rep1,Km];omega
     ·rw[w64 (by omega)];refine⟨(s,r,e,_,i+1),rfl,rfl,by simp only[S45_0,jae];refine⟨by omega,by omega,by omega,?_⟩;rw[u2];omega,by simp only;omega,?_⟩;simp only[S45_0];rw[u1];exact hf
  ·have h:=jac h;rw[jck (by omega)]at hf;obtain rfl:i=s.size:=by omega
   have:sz (bz o)=o:=jh2 o;simp only[xpGo,this]at hf;exact hf
def exOK(l:O):Bool:=(xpGo l 0 0 []).2&& !(xpGo l 0 0 []).1.isEmpty
def eE(l:O):Int:=if exOK l=true then 0 else 30
def exZ(l:O):O:=if exOK l=true then(xpGo l 0 0 []).1 else []
theorem sz_empty(l:O):decide (bz (sz l)=bz ⟨#[]⟩)=l.isEmpty:=by
 cases l with
 | nil=>rfl
 | cons c r=>
  have:bz (sz (c::r))≠ []:=fun h=>by
   have:=congrArg List.length h;rw[jak,jco]at this;simp at this
  exact jad this
def s45(s:Y):Bool×Value:=(decide (s.size≤9223372036854775807),.tuple ⟨[.string (sz (exZ (bz s))),.int .i64 (eE (bz s))]⟩)
def ib(a:Bool)(b c:Prop):Prop:=Tmps→av a b c
theorem v45(s:Y)(R:Value→Prop):jax Tryz.prog G3 (oneL 0 S45_0.h) Tryz.f198 [Enc.enc s] (fun _=>none) 0 (fun v _ _=>R v)=(io (S45_0.pre (s,(ay,((0:Int),(ay,(0:Int)))))) (xpGo (bu s 0) 0 0 (bz ay)).snd (ib (ez (sz (xpGo (bu s 0) 0 0 (bz ay)).fst) ay) (R (aq [ak 30] cv)) (R (aq [ak 0] (S (sz (xpGo (bu s 0) 0 0 (bz ay)).fst))))) (Y→gm (aq [ak 30] (S Px.e0)) R)):=by kernel_rfl
theorem ok45:jan Tryz.prog 198 (sp1 s45):=by
 refine jb6 ok_G3 hmix (.m Tryz.func198) l45_0 jag fun s hc=> ?_
 rw[ja4,v45];delta av io gm aq ak ib ay bu cv ez;have hc:(s.size≤9223372036854775807):=jab hc;dsimp only[s45];refine c_t (by simp only[S45_0,jae];exact⟨by omega,by omega,by omega,by decide⟩) ?_;rw[jeb,show bz ⟨#[]⟩=[]from rfl];refine Ka (fun h x=> ?_) (fun h _ _ _=> ?_)
 ·rw[jcv,sz_empty];apply Ka<;>intro he
  ·have:exOK (bz s)=false:=by simp[exOK,he]
   simp only[exZ,eE,this];rfl
  ·have:exOK (bz s)=true:=by simp[exOK,he,h]
   simp only[exZ,eE,this,if_true]
 ·have:exOK (bz s)=false:=by simp[exOK,h]
  simp only[exZ,eE,this];rfl
def mk1(dr:Int)(seen:Bool)(c:Int):Int:=bif hasZ [57,89,84,73,82] c then 100 else bif hasZ [90,42] c || (dr !=0&& (c==dr&&seen))then 99
 else bif c==86 then 118 else bif c==36 then 109 else bif hasZ [83,43,45] c then 115 else 105
def mkGo(dr:Int):Bool→O→O
 | _,[]=> []
 | seen,c::r=>mk1 dr seen c::mkGo dr (seen || (dr !=0&&c==dr)) r
def jam(s:O):O:=if crZ s=true then s.take (s.length-2)else s
def jaq(s:O):O:=mkGo (drZ (jam s)) false (jam s)++(if crZ s=true then [115,115]else [])
def V69_0:Y×Y×Y×Int×J×Nat×Nat×Bool×Int→J:=fun(s,r,b,dr,d,m,cap,seen,i)=> [S s,S r,S b,C8 dr,.slice (some ⟨200,0,some 1⟩) m cap,B seen,I i]
def B69_0:Y×Y×Y×Int×J×Nat×Nat×Bool×Int→Ya:=fun(s,r,b,dr,d,m,cap,seen,i)=> [some ⟨d,5,true⟩]
def S69_0:LSpecA (Y×Y×Y×Int×J×Nat×Nat×Bool×Int) where
 live:=[0,2,3,4,5,6,7]
 mid:=[200]
 n:=260
 ap:=[(.tmp 5,200)]
 dec vs bs:=match vs,bs with | [.string s,.string r,.string b,.int .u8 dr,.slice (some ⟨200,0,some 1⟩) m cap,.bool seen,.int .i64 i],[some ⟨d,5,true⟩]=>some (s,r,b,dr,d,m,cap,seen,i) | _,_=>none
 pre:=fun(s,r,b,dr,d,m,cap,seen,i)=>jcp d m cap&&decide (0≤i∧i≤b.size∧b.size≤1000∧i=m)
 fin:=fun(s,r,b,dr,d,m,cap,seen,i) Z=>∀d' cap' seen',jcp d' b.size cap'=true→zc d' b.size=zc d m++mkGo dr seen ((bz b).drop i.toNat)→Z (.exit 0) [S s,S r,S b,C8 dr,.slice (some ⟨200,0,some 1⟩) b.size cap',B seen',I b.size] [some ⟨d',5,true⟩]
def qs(l:Bool)(h i j:Y)(g:Exit→J→Ya→Prop)(f k m:Int)(e:J)(b d:Nat):Prop:=∀a:Nat,∀c:J,fu c a (b+1)→bm (jas [(d,200)] (gz f .u8 e c b) &&true&&true) g [iq [(d,200)] (gz f .u8 e c b)] [.string h,.string i,.string j,am k,cq 200 0 (b+1) a,.bool (l || k !=0&&aw j m k),az m]
def nq(a:Bool)(f g h:Y)(i:Exit→J→Ya→Prop)(b j k:Int)(c:J)(d e l:Nat):Prop:=bif a || (b !=0 || true)then bif e8 c d e 1 then qs a f g h i j b k c e l else False else False
theorem r69_0(s:Y)(r:Y)(b:Y)(dr:Int)(d:J)(m:Nat)(cap:Nat)(seen:Bool)(i:Int)(jk:Tmps)(R:Exit→J→Ya→Prop):(jbn Tryz.prog G3 noL Tryz.f133.ntmps (ja2 Tryz.f133 0) (tl S69_0.live (V69_0 (s,r,b,dr,d,m,cap,seen,i)) jk) (ml S69_0.mid (B69_0 (s,r,b,dr,d,m,cap,seen,i))) S69_0.n fun e t' m' _=>S69_0.out R e t' m')=(bif ep b i then gk (hasZ (bz ⟨#[57,89,84,73,82]⟩) (au b i)) b i (bq seen (dr !=0 || true) (e8 d cap m 1) (qs seen s r b R 100 dr i d m 286) False) (bq (hasZ (bz ⟨#[90,42]⟩) (au b i)) (bv (dr !=0) (aw b i dr || true) true) (hasZ (bz ⟨#[90,42]⟩) (au b i) || dr !=0&& (aw b i dr&&seen)) (nq seen s r b R dr 99 i d cap m 300) (bif aw b i 86 then nq seen s r b R dr 118 i d cap m 302 else bif aw b i 36 then nq seen s r b R dr 109 i d cap m 304 else bif hasZ (bz ⟨#[83,43,45]⟩) (au b i)then nq seen s r b R dr 115 i d cap m 306 else nq seen s r b R dr 105 i d cap m 305))else bif f0 d 200 200 then R (.exit 0) (e9 s r [am dr,cq 200 0 m cap,B seen,ak i] (S b)) [gn d]else False):=by kernel_rfl
theorem l69_0:LOKf Tryz.prog (oneL 0 S69_0.hA) Tryz.f133:=by
 refine jbb (h:=S69_0.hA) (by kernel_rfl) (jbo ok_G3 hmix (by kernel_rfl) (ja0 _) S69_0 V69_0 B69_0 (fun(s,r,b,dr,d,m,cap,seen,i)=>(b.size-i).toNat) ?_ ?_ ?_)
 ·intro vs bs s h;simp only[S69_0]at h;split at h
  all_goals first | (cases h;exact⟨rfl,rfl⟩) | cases h
 ·exact fun⟨s,r,b,dr,d,m,cap,seen,i⟩ hp=>by
   simp only[S69_0,jaf]at hp;simp[V69_0,B69_0,S69_0,jaw,jbs,idsL,ids,jao (jap.1 hp.1).plain]
 ·intro⟨s,r,b,dr,d,m,cap,seen,i⟩ jk Z hp hf;rw[r69_0];delta gn e9 ak cq am f0 av al bk gk bq bm ax az au aw iq g9 gz fu qs e8 nq bv ep;simp only[S69_0]at hp hf;simp only[jaf,jae]at hp;obtain⟨hr,hp⟩:=hp;have hr:=jap.1 hr;apply Ka<;>intro h
  ·have h:=jab h;have k1:bz ⟨#[57,89,84,73,82]⟩=[57,89,84,73,82]:=rfl;have k2:bz ⟨#[90,42]⟩=[90,42]:=rfl;have k3:bz ⟨#[83,43,45]⟩=[83,43,45]:=rfl;rw[k1,k2,k3];rw[jca hp.1 h]at hf;refine c_t (jaa (by omega)) ?_
   have fin:∀(cap':Nat)(d':J)(x:Int),mk1 dr seen (jai b i.toNat)=x→RowP d' (m+1) cap'→zc d' (m+1)=zc d m++ [x]→
     S69_0.step V69_0 B69_0 (fun(s,r,b,dr,d,m,cap,seen,i)=>(b.size-i).toNat) (s,r,b,dr,d,m,cap,seen,i) Z Exit.normal [S s,S r,S b,C8 dr,.slice (some ⟨200,0,some 1⟩) (m+1) cap',B (seen || dr !=0&&jai b i.toNat==dr),I (IntKind.wrap .i64 (i+1))] [some ⟨d',5,true⟩]:=by
    intro cap' d' x hx g1 g2;rw[w64 (by omega)];refine⟨(s,r,b,dr,d',m+1,cap',_,i+1),rfl,rfl,by simp only[S69_0,jaf,jae];exact⟨jap.2 g1,by omega⟩,by simp only;omega,?_⟩;intro d'' cap'' seen'' h1 h2;refine hf d'' cap'' seen'' h1 ?_;rw[h2,g2,mkGo,hx,Kz];rfl
   have sn:(seen || (dr !=0 || true))=true:=by simp
   have K:Nat→Nat→J→Prop:=fun _ _ _=>True
   apply Ka<;>intro h1
   ·exact c_t sn (jf4 hr (by omega) 100 _ (fun cap' d'=>S69_0.step V69_0 B69_0 _ (s,r,b,dr,d,m,cap,seen,i) Z Exit.normal [S s,S r,S b,C8 dr,.slice (some ⟨200,0,some 1⟩) (m+1) cap',B (seen || dr !=0&&jai b i.toNat==dr),I (IntKind.wrap .i64 (i+1))] [some ⟨d',5,true⟩]) (fun cap' d' g1 g2=>fin cap' d' 100 (by simp only[mk1,h1,cond_true]) g1 g2))
   ·refine c_t (by cases hasZ [90,42] (jai b i.toNat) <;>cases(dr !=0) <;>simp) (Ka (fun h2=> ?_) (fun h2=> ?_))
    ·exact c_t sn (jf4 hr (by omega) 99 _ (fun cap' d'=>S69_0.step V69_0 B69_0 _ (s,r,b,dr,d,m,cap,seen,i) Z Exit.normal [S s,S r,S b,C8 dr,.slice (some ⟨200,0,some 1⟩) (m+1) cap',B (seen || dr !=0&&jai b i.toNat==dr),I (IntKind.wrap .i64 (i+1))] [some ⟨d',5,true⟩]) (fun cap' d' g1 g2=>fin cap' d' 99 (by simp only[mk1,h1,h2,cond_true,cond_false]) g1 g2))
    ·apply Ka<;>intro h3
     ·exact c_t sn (jf4 hr (by omega) 118 _ (fun cap' d'=>S69_0.step V69_0 B69_0 _ (s,r,b,dr,d,m,cap,seen,i) Z Exit.normal [S s,S r,S b,C8 dr,.slice (some ⟨200,0,some 1⟩) (m+1) cap',B (seen || dr !=0&&jai b i.toNat==dr),I (IntKind.wrap .i64 (i+1))] [some ⟨d',5,true⟩]) (fun cap' d' g1 g2=>fin cap' d' 118 (by simp only[mk1,h1,h2,h3,cond_true,cond_false]) g1 g2))
     ·apply Ka<;>intro h4
      ·exact c_t sn (jf4 hr (by omega) 109 _ (fun cap' d'=>S69_0.step V69_0 B69_0 _ (s,r,b,dr,d,m,cap,seen,i) Z Exit.normal [S s,S r,S b,C8 dr,.slice (some ⟨200,0,some 1⟩) (m+1) cap',B (seen || dr !=0&&jai b i.toNat==dr),I (IntKind.wrap .i64 (i+1))] [some ⟨d',5,true⟩]) (fun cap' d' g1 g2=>fin cap' d' 109 (by simp only[mk1,h1,h2,h3,h4,cond_true,cond_false]) g1 g2))
      ·apply Ka<;>intro h5
       ·exact c_t sn (jf4 hr (by omega) 115 _ (fun cap' d'=>S69_0.step V69_0 B69_0 _ (s,r,b,dr,d,m,cap,seen,i) Z Exit.normal [S s,S r,S b,C8 dr,.slice (some ⟨200,0,some 1⟩) (m+1) cap',B (seen || dr !=0&&jai b i.toNat==dr),I (IntKind.wrap .i64 (i+1))] [some ⟨d',5,true⟩]) (fun cap' d' g1 g2=>fin cap' d' 115 (by simp only[mk1,h1,h2,h3,h4,h5,cond_true,cond_false]) g1 g2))
       ·exact c_t sn (jf4 hr (by omega) 105 _ (fun cap' d'=>S69_0.step V69_0 B69_0 _ (s,r,b,dr,d,m,cap,seen,i) Z Exit.normal [S s,S r,S b,C8 dr,.slice (some ⟨200,0,some 1⟩) (m+1) cap',B (seen || dr !=0&&jai b i.toNat==dr),I (IntKind.wrap .i64 (i+1))] [some ⟨d',5,true⟩]) (fun cap' d' g1 g2=>fin cap' d' 105 (by simp only[mk1,h1,h2,h3,h4,h5,cond_true,cond_false]) g1 g2))
  ·have h:=jac h;refine c_t (by rw[hr.good];rfl) ?_;rw[hr.rlb];obtain rfl:i=b.size:=by omega
   have e:b.size=m:=by omega
   have:=hf d cap seen (by rw[e];exact jap.2 hr) (by rw[jck (KH _),e];simp[mkGo]);rw[e]at this ⊢;exact this
def s69(s:Y):Bool×Value:=(decide (s.size≤1000),.string (sz (jaq (bz s))))
def dx(b:J)(a:Nat):Bool:=jaw a b&&true
def jh(a:J)(b:Nat)(c:Prop):Prop:=bif dx a b then Tmps→c else False
def jb(a b:Bool)(c:Value)(d:Value→Prop):Prop:=bif a then br b c d else False
def qt(c d:Y)(e:O)(f:Value→Prop):Prop:=bif co c then bif S69_0.toLSpec.pre (d,(ay,(c,(drZ (bz c),(([]:J),(0,(0,(false,(0:Int)))))))))then∀a:J,∀b:Nat,Bool→jcp a c.size b=true→zc a c.size=zc [] 0++mkGo (drZ (bz c)) false e→jh a 260 (fq (crZ (bz d)) d (jb (ja8 a 0 c.size) (f8 (ja5 a 0 c.size) ⟨#[115,115]⟩) (.string (ja5 a 0 c.size++⟨#[115,115]⟩)) f) (br (ja8 a 0 c.size) (.string (ja5 a 0 c.size)) f))else False else False
def fw(a:Int)(b:O):O:=b.drop a.toNat
def j8(a:Y):Y:=a.extract 0 (d9 a 2).toNat
def kh(a:Y)(b:Int):Bool:=c7 0 0 (d9 a b) (d9 a b) (al a)
theorem v69(s:Y)(R:Value→Prop):jax Tryz.prog G3 (oneL 0 S69_0.hA) Tryz.f133 [Enc.enc s] (fun _=>none) 0 (fun v _ _=>R v)=(fq (crZ (bz s)) s (bif kh s 2 then qt (j8 s) s (fw 0 (bz (j8 s))) R else False) (qt s s (bu s 0) R)):=by kernel_rfl
theorem ok69:jan Tryz.prog 133 (sp1 s69):=by
 refine jb6 ok_G3 hmix (.m Tryz.func133) l69_0 jag fun s hc=> ?_
 rw[ja4,v69];delta av co fq dx jh br jb f8 ay qt bu fw al d9 j8 c7 kh;have hc:(s.size≤1000):=jab hc;dsimp only[s69];have hz0:zc [] 0=[]:=rfl;have kss:(⟨#[115,115]⟩:Y)=sz [115,115]:=rfl;refine c_t (jaa (by omega)) (Ka (fun hcr=> ?_) (fun hcr=> ?_))
 ·have h2:2≤s.size:=by
   simp only[crZ,jaf,jae,jak]at hcr;exact hcr.1
  have e:((s.size:Int)-2).toNat=s.size-2:=by omega
  rw[w64 (by omega),e];have eb:bz (s.extract 0 (s.size-2))=(bz s).take (s.size-2):=by rw[jb5];simp
  have hbs:(s.extract 0 (s.size-2)).size=s.size-2:=by rw[←jak,eb,Kp,jak];omega
  generalize s.extract 0 (s.size-2)=b at*;refine c_t (jaa (by omega)) (c_t (jaa (by omega)) (c_t ?_ (fun d' cap' seen' h1 h3=> ?_)))
  ·simp only[S69_0,jaf,jae];exact⟨rfl,by omega⟩
  have h1:=jap.1 h1;have hsz:(ja5 d' 0 b.size).size=b.size:=by rw[h1.str.2,jco,jbe h1]
  refine c_t (by rw[jba h1.plain];rfl) (fun _=>c_t (jaa (by omega)) (c_t hcr (c_t h1.str.1 (c_t ?_ ?_))))
  ·rw[hsz];simp only[jbf,Nat.ble_eq];show b.size+2≤_;omega
  ·rw[h1.str.2,h3,hz0,jeb,kss,←sz_append];simp only[jaq,jam,hcr,if_true,jak,eb,List.nil_append]
 ·refine c_t (jaa (by omega)) (c_t ?_ (fun d' cap' seen' h1 h3=> ?_))
  ·simp only[S69_0,jaf,jae];exact⟨rfl,by omega⟩
  have h1:=jap.1 h1;refine c_t (by rw[jba h1.plain];rfl) (fun _=>c_t (jaa (by omega)) (c_f hcr (c_t h1.str.1 ?_)));rw[h1.str.2,h3,hz0,jeb];simp[jaq,jam,hcr]
def G4:Env:=(((Env.nil.add 203 (sp2 s40)).add 201 (sp2 s75)).add 205 (sp1 s96)).add 204 (sp1 s101)
theorem ok_G4:ja3 Tryz.prog G4:=jaj (jaj (jaj (jaj jav ok40) ok75) ok96) ok101
def df1(s:O)(dr:Int):O→Int→Int→Int→Bool×Int×Int
 | [],_,f,l=>(true,f,l)
 | c::r,i,f,l=>bif c==dr then df1 s dr r (i+1) (if f<0 then i else f) i
  else bif hasZ [36,83,43,45] c&&decide (2≤cntZ s c)then(false,0,0)else df1 s dr r (i+1) f l
def d2Go(dr f:Int):O→Int→Bool
 | [],_=>true
 | c::r,i=> !(decide (i<f) &&c==86) && (!(decide (i>f) && (c !=dr&& !hasZ [44,46,47,66,86] c)) &&d2Go dr f r (i+1))
def jct(s:O):Bool:=drZ s==0 || ((df1 s (drZ s) s 0 (-1) (-1)).1&&d2Go (drZ s) (df1 s (drZ s) s 0 (-1) (-1)).2.1 (s.take (df1 s (drZ s) s 0 (-1) (-1)).2.2.toNat) 0)
theorem jlk(s:O)(dr:Int):∀(r:O)(i f l:Int),0≤i→ -1≤f→f≤i→ -1≤l→l≤i→(df1 s dr r i f l).1=true→ -1≤(df1 s dr r i f l).2.1∧(df1 s dr r i f l).2.1≤i+r.length∧ -1≤(df1 s dr r i f l).2.2∧(df1 s dr r i f l).2.2≤i+r.length
 | [],i,f,l,h0,h1,h2,h3,h4,_=>by simp only[df1,List.length_nil];omega
 | c::r,i,f,l,h0,h1,h2,h3,h4,hk=>by
  simp only[df1,List.length_cons]at hk ⊢;cases hc:(c==dr)with
  | true=>
   rw[hc]at hk;simp only[cond_true]at hk ⊢;have:=jlk s dr r (i+1) _ i (by omega) (by split<;>omega) (by split<;>omega) (by omega) (by omega) hk;omega
  | false=>
   rw[hc]at hk;simp only[cond_false]at hk ⊢;cases hq:(hasZ [36,83,43,45] c&&decide (2≤cntZ s c))with
   | true=>rw[hq]at hk;cases hk
   | false=>
    rw[hq]at hk;simp only[cond_false]at hk ⊢;have:=jlk s dr r (i+1) f l (by omega) h1 (by omega) h3 (by omega) hk;omega
def V104_0:Y×Bool×Int×Int×Int×Int→J:=fun(s,b,dr,f,l,i)=> [S s,B b,C8 dr,I f,I l,I i]
def B104_0:Y×Bool×Int×Int×Int×Int→Ya:=fun _=> []
def S104_0:LSpec (Y×Bool×Int×Int×Int×Int) where
 live:=[0,2,3,4,5,6]
 mid:=[]
 n:=60
 dec vs bs:=match vs,bs with | [.string s,.bool b,.int .u8 dr,.int .i64 f,.int .i64 l,.int .i64 i],[]=>some (s,b,dr,f,l,i) | _,_=>none
 pre:=fun(s,b,dr,f,l,i)=>decide (0≤i∧i≤s.size∧s.size≤9223372036854775807∧ -1≤f∧f≤i∧ -1≤l∧l≤i)
 fin:=fun(s,b,dr,f,l,i) Z=>(bif (df1 (bz s) dr ((bz s).drop i.toNat) i f l).1 then Z (.exit 0) [S s,B b,C8 dr,I (df1 (bz s) dr ((bz s).drop i.toNat) i f l).2.1,I (df1 (bz s) dr ((bz s).drop i.toNat) i f l).2.2,I s.size] []else(∀f' l' i',Z .ret [S s,B false,C8 dr,I f',I l',I i'] []))
def j9(b:Bool)(a:Y)(d:Int)(e:J)(c:Value):J:= .string a:: .bool b::c::ak d::e
theorem r104_0(s:Y)(b:Bool)(dr:Int)(f:Int)(l:Int)(i:Int)(jk:Tmps)(R:Exit→J→Ya→Prop):(jbn Tryz.prog G4 noL Tryz.f264.ntmps (ja2 Tryz.f264 0) (tl S104_0.live (V104_0 (s,b,dr,f,l,i)) jk) (ml S104_0.mid (B104_0 (s,b,dr,f,l,i))) S104_0.n fun e t' m' _=>R e (List.map t' S104_0.live) (List.map m' S104_0.mid))=(iw (bk s i) (aw s i dr) s R i [] (am dr::ak f::bp l i) 0 (bif dw f then R .normal (j9 b s i (ct i i) (am dr)) []else R .normal (j9 b s f (ct i i) (am dr)) []) (bif j6 (lx s i) (co s&&true) s s i i then bif lx s i&&decide ((cntZ (bz s) (au s i):Int)≥2)then R .ret (j9 false s f (bp l i) (am dr)) []else R .normal (j9 b s f (ct l i) (am dr)) []else False) (S s) (B b)):=by kernel_rfl
theorem l104_0:∀t m n K,S104_0.h t m n K→Ab.Sem Tryz.prog Tryz.f264.ntmps (.loop (ja2 Tryz.f264 0)) t m n K:=by
 refine ja6 ok_G4 hmix (by kernel_rfl) (ja0 _) S104_0 V104_0 B104_0 (fun(s,b,dr,f,l,i)=>(s.size-i).toNat) ?_ ?_ ?_
 ·intro vs bs s h;simp only[S104_0]at h;split at h
  all_goals first | (cases h;exact⟨rfl,rfl⟩) | cases h
 ·exact fun _ _ _ h=>h
 ·intro⟨s,b,dr,f,l,i⟩ jk Z hp hf;rw[r104_0];delta av al ep iw ak j9 am ax az ct bp au lx bv bk j6 co dw aw;simp only[S104_0]at hp hf;simp only[jae]at hp;apply Ka<;>intro h
  ·have h:=jab h;rw[jca hp.1 h,df1]at hf;have h1:decide (0≤i∧i<(s.size:Int))=true:=jaa (by omega);have k:bz ⟨#[36,83,43,45]⟩=[36,83,43,45]:=rfl;rw[k];refine c_t h1 (Ka (fun hc=> ?_) (fun hc=> ?_))
   ·rw[hc,cond_true]at hf;rw[w64 (n:=i+1) (by omega)];apply Ka<;>intro hd
    ·rw[Kd (jab hd)]at hf;exact⟨(s,b,dr,i,i,i+1),rfl,rfl,by simp only[S104_0,jae];omega,by simp only;omega,hf⟩
    ·rw[Kc (jac hd)]at hf;exact⟨(s,b,dr,f,i,i+1),rfl,rfl,by simp only[S104_0,jae];omega,by simp only;omega,hf⟩
   ·rw[hc,cond_false]at hf;refine c_t (by rw[h1,jaa hp.2.2.1];cases hasZ [36,83,43,45] (jai s i.toNat) <;>rfl) (Ka (fun hd=> ?_) (fun hd=> ?_))
    ·have hd':(hasZ [36,83,43,45] (jai s i.toNat) &&decide (2≤cntZ (bz s) (jai s i.toNat)))=true:=by
      simp only[jaf,jae]at hd ⊢;exact⟨hd.1,by omega⟩
     rw[hd',cond_true]at hf;exact hf f l i
    ·have hd':(hasZ [36,83,43,45] (jai s i.toNat) &&decide (2≤cntZ (bz s) (jai s i.toNat)))=false:=by
      cases q:hasZ [36,83,43,45] (jai s i.toNat)with
      | false=>rfl
      | true=>
       rw[q,Bool.true_and,decide_eq_false_iff_not]at hd;rw[Bool.true_and];exact jad (by omega)
     rw[hd',cond_false]at hf;rw[w64 (by omega)];exact⟨(s,b,dr,f,l,i+1),rfl,rfl,by simp only[S104_0,jae];omega,by simp only;omega,hf⟩
  ·have h:=jac h;rw[jck (by omega)]at hf;obtain rfl:i=s.size:=by omega
   exact hf
def V104_2:Y×Bool×Int×Int×Int×Int→J:=fun(s,b,dr,f,l,i)=> [S s,B b,C8 dr,I f,I l,I i]
def B104_2:Y×Bool×Int×Int×Int×Int→Ya:=fun _=> []
def S104_2:LSpec (Y×Bool×Int×Int×Int×Int) where
 live:=[0,2,3,4,5,7]
 mid:=[]
 n:=90
 dec vs bs:=match vs,bs with | [.string s,.bool b,.int .u8 dr,.int .i64 f,.int .i64 l,.int .i64 i],[]=>some (s,b,dr,f,l,i) | _,_=>none
 pre:=fun(s,b,dr,f,l,i)=>decide (0≤i∧s.size≤9223372036854775807∧l≤s.size)
 fin:=fun(s,b,dr,f,l,i) Z=>(bif d2Go dr f (((bz s).take l.toNat).drop i.toNat) i then(∀i',Z (.exit 2) [S s,B b,C8 dr,I f,I l,I i'] [])else(∀i',Z .ret [S s,B false,C8 dr,I f,I l,I i'] []))
theorem r104_2(s:Y)(b:Bool)(dr:Int)(f:Int)(l:Int)(i:Int)(jk:Tmps)(R:Exit→J→Ya→Prop):(jbn Tryz.prog G4 noL Tryz.f264.ntmps (ja2 Tryz.f264 2) (tl S104_2.live (V104_2 (s,b,dr,f,l,i)) jk) (ml S104_2.mid (B104_2 (s,b,dr,f,l,i))) S104_2.n fun e t' m' _=>R e (List.map t' S104_2.live) (List.map m' S104_2.mid))=(bif bw i l then go (bw i f) (bk s i&&true) true (bw i f&&aw s i 86) (R .ret (j9 false s f (bp l i) (am dr)) []) (bif bv (decide (i>f)) (j6 (au s i !=dr) true s s i i) true then bif decide (i>f) && (au s i !=dr&& !hasZ (bz ⟨#[44,46,47,66,86]⟩) (au s i))then R .ret (j9 false s f (bp l i) (am dr)) []else R .normal (j9 b s f (ct l i) (am dr)) []else False)else R (.exit 2) (j9 b s f (bp l i) (am dr)) []):=by kernel_rfl
theorem l104_2:∀t m n K,S104_2.h t m n K→Ab.Sem Tryz.prog Tryz.f264.ntmps (.loop (ja2 Tryz.f264 2)) t m n K:=by
 refine ja6 ok_G4 hmix (by kernel_rfl) (ja0 _) S104_2 V104_2 B104_2 (fun(s,b,dr,f,l,i)=>(l-i).toNat) ?_ ?_ ?_
 ·intro vs bs s h;simp only[S104_2]at h;split at h
  all_goals first | (cases h;exact⟨rfl,rfl⟩) | cases h
 ·exact fun _ _ _ h=>h
 ·intro⟨s,b,dr,f,l,i⟩ jk Z hp hf;rw[r104_2];delta ak j9 am bp av go ax az ct au bv al bk j6 aw bw;simp only[S104_2]at hp hf;simp only[jae]at hp;have k:bz ⟨#[44,46,47,66,86]⟩=[44,46,47,66,86]:=rfl;rw[k];apply Ka<;>intro h
  ·have h:=jab h;rw[bz_take_at hp.1 h hp.2.2,d2Go]at hf;have h1:decide (0≤i∧i<(s.size:Int))=true:=jaa (by omega);refine c_t (by rw[h1];cases decide (i<f) <;>rfl) (Ka (fun ha=> ?_) (fun ha=> ?_))
   ·rw[ha]at hf;exact hf i
   ·rw[ha,Bool.not_false,Bool.true_and]at hf;refine c_t (by rw[h1];cases decide (i>f) <;>cases(jai s i.toNat !=dr) <;>rfl) (Ka (fun hb=> ?_) (fun hb=> ?_))
    ·rw[hb]at hf;exact hf i
    ·rw[hb,Bool.not_false,Bool.true_and]at hf;rw[w64 (by omega)];exact⟨(s,b,dr,f,l,i+1),rfl,rfl,by simp only[S104_2,jae];omega,by simp only;omega,hf⟩
  ·have h:=jac h;rw[KD (by rw[Kp];omega)]at hf;exact hf i
theorem lok104:LOKf Tryz.prog (twoL 0 S104_0.h 2 S104_2.h) Tryz.f264:=je2 (by kernel_rfl) (by kernel_rfl) l104_0 l104_2
def s104(s:Y):Bool×Value:=(decide (s.size≤1000),.bool (jct (bz s)))
def nr(a:Y):Prod Bool (Prod Int Int):=df1 (bz a) (drZ (bz a)) (bu a 0) 0 (-1) (-1)
theorem v104(s:Y)(R:Value→Prop):jax Tryz.prog G4 (twoL 0 S104_0.h 2 S104_2.h) Tryz.f264 [Enc.enc s] (fun _=>none) 0 (fun v _ _=>R v)=(fq (drZ (bz s)==0) s (R (B true)) (io (S104_0.pre (s,(false,(drZ (bz s),(-(1:Int),(-(1:Int),(0:Int))))))) (nr s).fst (ib (S104_2.pre (s,(false,(drZ (bz s),((nr s).snd.fst,((nr s).snd.snd,(0:Int))))))) (bif d2Go (drZ (bz s)) (nr s).snd.fst (fw 0 ((bz s).take (nr s).snd.snd.toNat)) 0 then gm (B true) R else gm (B false) R) False) (Int→Int→gm (B false) R))):=by kernel_rfl
theorem ok104:jan Tryz.prog 264 (sp1 s104):=by
 refine jb6 ok_G4 hmix (.m Tryz.func264) lok104 jag fun s hc=> ?_
 rw[ja4,v104];delta av co fq io gm ib fw bu nr;have hc:(s.size≤1000):=jab hc;dsimp only[s104];refine c_t (jaa (by omega)) (Ka (fun h=>by simp only[jct,h,Bool.true_or]) (fun h=>c_t (by simp only[S104_0,jae];omega) ?_));rw[jeb];have hr:=jlk (bz s) (drZ (bz s)) (bz s) 0 (-1) (-1) (by omega) (by omega) (by omega) (by omega) (by omega);rw[jak]at hr;simp only[jct,h,Bool.false_or];generalize df1 (bz s) (drZ (bz s)) (bz s) 0 (-1) (-1)=q at*;refine Ka (fun h1 x=>c_t ?_ ?_) (fun h1 _ _ _ _=>by rw[h1];rfl)
 ·have:=hr h1;simp only[S104_2,jae];omega
 ·rw[jeb];exact Ka (fun h2 _ _=>by rw[h1,h2];rfl) (fun h2 _ _=>by rw[h1,h2];rfl)
def ldGo:O→Bool→Bool→Bool→Int→Bool×Bool×Bool×Int
 | [],fm,bh,_,dg=>(true,fm,bh,dg)
 | m::r,fm,bh,pt,dg=>bif m==118 then ldGo r fm bh true dg else bif m==100 then ldGo r true bh pt (dg+1)
  else bif m==99 then(bif fm then(false,false,false,0)else ldGo r fm (bh || pt) pt (dg+1))else ldGo r fm bh pt dg
def jdw(b ms:O):Bool:=bif hasZ b 90&&hasZ b 42 then false else bif (hasZ b 90 || hasZ b 42) &&drZ b !=0 then false
 else(ldGo ms false false false 0).1&& (decide (1≤(ldGo ms false false false 0).2.2.2) && (decide ((ldGo ms false false false 0).2.2.2≤9) && !((ldGo ms false false false 0).2.2.1&& (ldGo ms false false false 0).2.1)))
def V105_0:Y×Y×Bool×Bool×Bool×Bool×Int×Int→J:=fun(s,ms,b,fm,bh,pt,dg,i)=> [S s,S ms,B b,B fm,B bh,B pt,I dg,I i]
def B105_0:Y×Y×Bool×Bool×Bool×Bool×Int×Int→Ya:=fun _=> []
def S105_0:LSpec (Y×Y×Bool×Bool×Bool×Bool×Int×Int) where
 live:=[0,1,4,5,6,7,8,9]
 mid:=[]
 n:=60
 dec vs bs:=match vs,bs with | [.string s,.string ms,.bool b,.bool fm,.bool bh,.bool pt,.int .i64 dg,.int .i64 i],[]=>some (s,ms,b,fm,bh,pt,dg,i) | _,_=>none
 pre:=fun(s,ms,b,fm,bh,pt,dg,i)=>decide (0≤i∧i≤s.size∧s.size=ms.size∧s.size≤1000∧0≤dg∧dg≤i)
 fin:=fun(s,ms,b,fm,bh,pt,dg,i) Z=>(bif (ldGo ((bz ms).drop i.toNat) fm bh pt dg).1 then(∀pt',Z (.exit 0) [S s,S ms,B b,B (ldGo ((bz ms).drop i.toNat) fm bh pt dg).2.1,B (ldGo ((bz ms).drop i.toNat) fm bh pt dg).2.2.1,B pt',I (ldGo ((bz ms).drop i.toNat) fm bh pt dg).2.2.2,I s.size] [])else(∀fm' bh' pt' dg' i',Z .ret [S s,S ms,B false,B fm',B bh',B pt',I dg',I i'] []))
theorem r105_0(s:Y)(ms:Y)(b:Bool)(fm:Bool)(bh:Bool)(pt:Bool)(dg:Int)(i:Int)(jk:Tmps)(R:Exit→J→Ya→Prop):(jbn Tryz.prog G4 noL Tryz.f265.ntmps (ja2 Tryz.f265 0) (tl S105_0.live (V105_0 (s,ms,b,fm,bh,pt,dg,i)) jk) (ml S105_0.mid (B105_0 (s,ms,b,fm,bh,pt,dg,i))) S105_0.n fun e t' m' _=>R e (List.map t' S105_0.live) (List.map m' S105_0.mid))=(iw (bk ms i) (aw ms i 118) s R i [] (B b::B fm::B bh::B pt::bp dg i) 0 (R .normal (e9 s ms (B fm::B bh::B true::ct dg i) (B b)) []) (gk (aw ms i 100) ms i (R .normal (e9 s ms [B true,B bh,B pt,az dg,az i] (B b)) []) (bif bk ms i then bif aw ms i 99 then bif fm then R .ret (e9 s ms (B fm::B bh::B pt::bp dg i) (B false)) []else bm (bh || true) R [] (e9 s ms [B fm,B (bh || pt),B pt,az dg,az i] (B b))else R .normal (e9 s ms (B fm::B bh::B pt::ct dg i) (B b)) []else False)) (S s) (S ms)):=by kernel_rfl
theorem l105_0:LOKf Tryz.prog (oneL 0 S105_0.h) Tryz.f265:=by
 refine jbb (h:=S105_0.h) (by kernel_rfl) (ja6 ok_G4 hmix (by kernel_rfl) (ja0 _) S105_0 V105_0 B105_0 (fun(s,ms,b,fm,bh,pt,dg,i)=>(s.size-i).toNat) ?_ ?_ ?_)
 ·intro vs bs s h;simp only[S105_0]at h;split at h
  all_goals first | (cases h;exact⟨rfl,rfl⟩) | cases h
 ·exact fun _ _ _ h=>h
 ·intro⟨s,ms,b,fm,bh,pt,dg,i⟩ jk Z hp hf;rw[r105_0];delta av al ep iw bk gk e9 ax az ak ct bm bp au aw;simp only[S105_0]at hp hf;simp only[jae]at hp;apply Ka<;>intro h
  ·have h:=jab h;rw[jca (s:=ms) hp.1 (by omega),ldGo]at hf;have h1:decide (0≤i∧i<(ms.size:Int))=true:=jaa (by omega);refine c_t h1 (Ka (fun q1=> ?_) (fun q1=>c_t h1 (Ka (fun q2=> ?_) (fun q2=>c_t h1 (Ka (fun q3=>Ka (fun q4=> ?_) (fun q4=>c_t (by simp) ?_)) (fun q3=> ?_))))))
   ·rw[q1,cond_true]at hf;rw[w64 (by omega)];exact⟨(s,ms,b,fm,bh,true,dg,i+1),rfl,rfl,by simp only[S105_0,jae];omega,by simp only;omega,hf⟩
   ·rw[q1,q2,cond_false,cond_true]at hf;rw[w64 (n:=dg+1) (by omega),w64 (by omega)];exact⟨(s,ms,b,true,bh,pt,dg+1,i+1),rfl,rfl,by simp only[S105_0,jae];omega,by simp only;omega,hf⟩
   ·rw[q1,q2,q3,cond_false,cond_false,cond_true,q4,cond_true]at hf;exact hf fm bh pt dg i
   ·rw[q1,q2,q3,cond_false,cond_false,cond_true,q4,cond_false]at hf;rw[w64 (n:=dg+1) (by omega),w64 (by omega),q4];exact⟨(s,ms,b,false,bh || pt,pt,dg+1,i+1),rfl,rfl,by simp only[S105_0,jae];omega,by simp only;omega,hf⟩
   ·rw[q1,q2,q3,cond_false,cond_false,cond_false]at hf;rw[w64 (by omega)];exact⟨(s,ms,b,fm,bh,pt,dg,i+1),rfl,rfl,by simp only[S105_0,jae];omega,by simp only;omega,hf⟩
  ·have h:=jac h;rw[jck (by omega)]at hf;obtain rfl:i=s.size:=by omega
   exact hf pt
def s105(s:Y)(ms:Y):Bool×Value:=(decide (s.size=ms.size∧s.size≤1000),.bool (jdw (bz s) (bz ms)))
def i6(a b c:Bool)(d e:Prop):Prop:=bif a&&b then bif c then d else e else False
def oy(b c:Bool)(a:Int):Bool:=decide (a≥1) && (decide (a≤9) &&bv b (!c) (!false))
def mz(a:Y):Prod Bool (Prod Bool (Prod Bool Int)):=ldGo (bu a 0) false false false 0
def oz(b:Bool)(a:Int):Bool:=bif decide (a≥1)then bv (decide (a≤9)) (b || true) true else true
theorem v105(s:Y)(ms:Y)(R:Value→Prop):jax Tryz.prog G4 (oneL 0 S105_0.h) Tryz.f265 [Enc.enc s,Enc.enc ms] (fun _=>none) 0 (fun v _ _=>R v)=(i6 (co s) (bv (hasZ (bz s) 90) (co s&&true) true) (hasZ (bz s) 90&&hasZ (bz s) 42) (R (B false)) (bif co s&&bv (hasZ (bz s) 90) (co s&&true) (co s&& (bif hasZ (bz s) 42 then co s&&true else true))then bif bv (hasZ (bz s) 90) (drZ (bz s) !=0) (hasZ (bz s) 42&&drZ (bz s) !=0)then R (B false)else io (S105_0.pre (s,(ms,(false,(false,(false,(false,((0:Int),(0:Int))))))))) (mz ms).fst (Bool→Tmps→br (oz (mz ms).snd.snd.fst (mz ms).snd.snd.snd) (B (oy (mz ms).snd.snd.fst (mz ms).snd.fst (mz ms).snd.snd.snd)) R) (Bool→Bool→Bool→Int→gm (B false) R)else False)):=by kernel_rfl
theorem ok105:jan Tryz.prog 265 (sp2 s105):=by
 refine jcz ok_G4 hmix (.m Tryz.func265) l105_0 jag fun s ms hc=> ?_
 rw[ja4,v105];delta i6 av io gm br bv oy bu mz oz co;have hc:(s.size=ms.size∧s.size≤1000):=jab hc;dsimp only[s105];have d:decide (s.size≤9223372036854775807)=true:=jaa (by omega);rw[d];refine c_t (by cases hasZ (bz s) 90<;>rfl) (Ka (fun a=> ?_) (fun a=> ?_))
 ·simp only[jdw,a,cond_true]
 ·refine c_t (by cases hasZ (bz s) 90<;>cases hasZ (bz s) 42<;>rfl) ?_;have e:(bif hasZ (bz s) 90 then drZ (bz s) !=0 else hasZ (bz s) 42&&drZ (bz s) !=0)=((hasZ (bz s) 90 || hasZ (bz s) 42) &&drZ (bz s) !=0):=by cases hasZ (bz s) 90<;>cases hasZ (bz s) 42<;>rfl
  rw[e];apply Ka<;>intro q
  ·simp only[jdw,a,q,cond_true,cond_false]
  ·refine c_t (by simp only[S105_0,jae];omega) ?_;rw[jeb];simp only[jdw,a,q,cond_false];generalize ldGo (bz ms) false false false 0=w;obtain⟨w1,fm,bh,dg⟩:=w;refine Ka (fun r pt' x=>c_t ?_ ?_) (fun r _ _ _ _ _ _=> ?_)
   ·simp only;cases decide (dg≥1) <;>cases decide (dg≤9) <;>cases bh<;>rfl
   ·simp only at r ⊢;rw[r];cases fm<;>cases bh<;>rfl
   ·simp only at r ⊢;rw[r];rfl
def b2i(b:Bool):Int:=if b then 1 else 0
def jdq(s:O):Int:=b2i (crZ s)+b2i (hasZ (jam s) 83)+b2i (hasZ (jam s) 43)+b2i (hasZ (jam s) 45)+cntZ (jam s) 84+cntZ (jam s) 73+cntZ (jam s) 82
def s76(s:Y):Bool×Value:=(decide (s.size≤1000),.int .i64 (jdq (bz s)))
theorem lokf_jvP{fn:Func}{l:List Nat}(h:(match fn.body with | some c=>blks (jV l) c | none=> [])=[]):LOKf Tryz.prog (jV l) fn:=by
 unfold LOKf;split
 ·rename_i c hc;simp only[hc]at h;exact jhh c fun p hp=>by rw[h]at hp;cases hp
 ·trivial
def bo76(s:Y):Y:=bif crZ (bz s)then s.extract 0 (IntKind.wrap .i64 ((s.size:Int)-2)).toNat else s
def sg76(b:Y)(x c:Int):Int:=bif hasZ (bz b) c then IntKind.wrap .i64 (x+1)else x
def k76(b:Y)(x:Int)(R:Value→Prop):Prop:=bif co b then bq (hasZ (bz b) 83) true (co b) (ij (hasZ (bz b) 43) true (co b) (bif hasZ (bz b) 45 || true then fq (co b) b (br (co b) (I (fp (IntKind.i64.wrap (IntKind.i64.wrap (sg76 b (sg76 b (sg76 b x 83) 43) 45+(cntZ (bz b) 84:Int))+(cntZ (bz b) 73:Int))) (cntZ (bz b) 82:Int))) R) False else False) False) False else False
theorem v76(s:Y)(R:Value→Prop):jax Tryz.prog G4 (jV [4]) Tryz.f202 [Enc.enc s] (fun _=>none) 0 (fun v _ _=>R v)=(fq (bv (crZ (bz s)) (kh s 2&&true&&true) true) s (Px.k76 (bo76 s) (bif crZ (bz s)then 1 else 0) R) False):=by kernel_rfl
theorem b2i_r{q:Bool}:0≤b2i q∧b2i q≤1:=by cases q<;>decide
theorem sg_v{b:Y}{x c:Int}(h:0≤x∧x≤1000):sg76 b x c=x+b2i (hasZ (bz b) c):=by
 unfold sg76;cases hasZ (bz b) c
 ·simp[b2i]
 ·rw[cond_true,w64 (by omega)];rfl
theorem ok76:jan Tryz.prog 202 (sp1 s76):=by
 refine jb6 ok_G4 hmix (.m Tryz.func202) (lokf_jvP (l:=[4]) (by kernel_rfl)) jag fun s hc=> ?_
 rw[ja4,v76];delta av co fq bv c7 al d9 kh;have hc:(s.size≤1000):=jab hc;dsimp only[s76]
 have key:(bz (bo76 s)=jam (bz s)∧(bo76 s).size≤1000)∧(crZ (bz s)=true→2≤s.size):=by
  unfold bo76 jam;cases hcr:crZ (bz s)
  ·exact⟨⟨by simp,hc⟩,by simp⟩
  ·have h2:2≤s.size:=by
    simp only[crZ,jaf,jae,jak]at hcr;exact hcr.1
   have e:((s.size:Int)-2).toNat=s.size-2:=by omega
   rw[cond_true,w64 (n:=(s.size:Int)-2) (by omega),e];have eb:bz (s.extract 0 (s.size-2))=(bz s).take (s.size-2):=by rw[jb5];simp
   have hbs:(s.extract 0 (s.size-2)).size=s.size-2:=by rw[←jak,eb,Kp,jak];omega
   exact⟨⟨by rw[eb];simp,by omega⟩,fun _=>h2⟩
 obtain⟨⟨hB,hb⟩,h2⟩:=key;refine c_t (jaa (by omega)) (c_t ?_ ?_)
 ·cases hcr:crZ (bz s)
  ·rfl
  ·have h2:=h2 hcr;rw[w64 (n:=(s.size:Int)-2) (by omega)];simp;omega
 generalize bo76 s=b at*;have n1:=jjb (bz b) 84;have n2:=jjb (bz b) 73;have n3:=jjb (bz b) 82;rw[jak]at n1 n2 n3;unfold k76;delta av bq ij co fq br fp;simp only[jaa (show b.size≤9223372036854775807 by omega),Bool.or_true,cond_true,jdq,←hB];have hx:(bif crZ (bz s)then(1:Int)else 0)=b2i (crZ (bz s)):=by cases crZ (bz s) <;>rfl
 have r:=fun q=>b2i_r (q:=q)
 have r0:=r (crZ (bz s));have r1:=r (hasZ (bz b) 83);have r2:=r (hasZ (bz b) 43);have r3:=r (hasZ (bz b) 45);rw[hx,sg_v (x:=b2i (crZ (bz s))) (by omega),sg_v (x:=b2i (crZ (bz s))+b2i (hasZ (bz b) 83)) (by omega),sg_v (by omega),w3 (by omega) (by omega) (by omega) (by omega)]
def G5:Env:=(Env.nil.add 203 (sp2 s40)).add 205 (sp1 s96)
theorem ok_G5:ja3 Tryz.prog G5:=jaj (jaj jav ok40) ok96
def stIn(dr i:Int):O→O→Int→Bool→Bool→Bool×Bool
 | c::cs,m::ms,j,a,b=>bif m==100 || (m==99 || c==dr)then stIn dr i cs ms (j+1) (a || decide (j<i)) (b || decide (j>i))else stIn dr i cs ms (j+1) a b
 | _,_,_,a,b=>(a,b)
def stGo(dr:Int)(body ms:O):O→Int→Bool
 | [],_=>true
 | c::r,i=>(bif !hasZ [36,83,43,45] c || c==dr then true else !((stIn dr i body ms 0 false false).1&& (stIn dr i body ms 0 false false).2)) &&stGo dr body ms r (i+1)
def jf7(body ms:O):Bool:=stGo (drZ body) body ms body 0
def V106_2:Y×Y×Bool×Int×Int×Bool×Bool×Int→J:=fun(s,ms,b,dr,i,a,bh,j)=> [S s,S ms,B b,C8 dr,I i,B a,B bh,I j]
def B106_2:Y×Y×Bool×Int×Int×Bool×Bool×Int→Ya:=fun _=> []
def S106_2:LSpec (Y×Y×Bool×Int×Int×Bool×Bool×Int) where
 live:=[0,1,4,5,6,7,8,9]
 mid:=[]
 n:=200
 dec vs bs:=match vs,bs with | [.string s,.string ms,.bool b,.int .u8 dr,.int .i64 i,.bool a,.bool bh,.int .i64 j],[]=>some (s,ms,b,dr,i,a,bh,j) | _,_=>none
 pre:=fun(s,ms,b,dr,i,a,bh,j)=>decide (0≤j∧j≤s.size∧s.size=ms.size∧s.size≤1000)
 fin:=fun(s,ms,b,dr,i,a,bh,j) Z=>Z (.exit 2) [S s,S ms,B b,C8 dr,I i,B (stIn dr i ((bz s).drop j.toNat) ((bz ms).drop j.toNat) j a bh).1,B (stIn dr i ((bz s).drop j.toNat) ((bz ms).drop j.toNat) j a bh).2,I s.size] []
theorem r106_2(s:Y)(ms:Y)(b:Bool)(dr:Int)(i:Int)(a:Bool)(bh:Bool)(j:Int)(jk:Tmps)(R:Exit→J→Ya→Prop):(jbn Tryz.prog G5 noL Tryz.f266.ntmps (ja2 Tryz.f266 2) (tl S106_2.live (V106_2 (s,ms,b,dr,i,a,bh,j)) jk) (ml S106_2.mid (B106_2 (s,ms,b,dr,i,a,bh,j))) S106_2.n fun e t' m' _=>R e (List.map t' S106_2.live) (List.map m' S106_2.mid))=(iw (bk ms j&& (aw ms j 100 || bk ms j&& (aw ms j 99 || bk s j&&true))) (aw ms j 100 || (aw ms j 99 || aw s j dr)) s R j [] [B b,am dr,ak i,B a,B bh,ak j] 2 (bif a || true then bm (bh || true) R [] (e9 s ms [am dr,ak i,B (a || bw j i),B (bh || decide (j>i)),az j] (B b))else False) (R .normal (e9 s ms [am dr,ak i,B a,B bh,az j] (B b)) []) (S s) (S ms)):=by kernel_rfl
theorem l106_2:∀t m n K,S106_2.h t m n K→Ab.Sem Tryz.prog Tryz.f266.ntmps (.loop (ja2 Tryz.f266 2)) t m n K:=by
 refine ja6 ok_G5 hmix (by kernel_rfl) (ja0 _) S106_2 V106_2 B106_2 (fun(s,ms,b,dr,i,a,bh,j)=>(s.size-j).toNat) ?_ ?_ ?_
 ·intro vs bs s h;simp only[S106_2]at h;split at h
  all_goals first | (cases h;exact⟨rfl,rfl⟩) | cases h
 ·exact fun _ _ _ h=>h
 ·intro⟨s,ms,b,dr,i,a,bh,j⟩ jk Z hp hf;rw[r106_2];delta av al ep iw e9 ax az ak am bm bw au aw bk;simp only[S106_2]at hp hf;simp only[jae]at hp;apply Ka<;>intro h
  ·have h:=jab h;rw[jca hp.1 h,jca (s:=ms) hp.1 (by omega),stIn]at hf;have h1:decide (0≤j∧j<(ms.size:Int))=true:=jaa (by omega);have h2:decide (0≤j∧j<(s.size:Int))=true:=jaa (by omega);rw[w64 (n:=j+1) (by omega)];refine c_t (by rw[h1,h2];simp) (Ka (fun q=> ?_) (fun q=> ?_))
   ·rw[q,cond_true]at hf;exact c_t (by simp) (c_t (by simp) ⟨(s,ms,b,dr,i,_,_,j+1),rfl,rfl,by simp only[S106_2,jae];omega,by simp only;omega,hf⟩)
   ·rw[q,cond_false]at hf;exact⟨(s,ms,b,dr,i,a,bh,j+1),rfl,rfl,by simp only[S106_2,jae];omega,by simp only;omega,hf⟩
  ·have h:=jac h;rw[jck (s:=s) (by omega)]at hf;obtain rfl:j=s.size:=by omega
   exact hf
theorem lk106:LOK Tryz.prog (oneL 2 S106_2.h) Tryz.f266.ntmps (ja2 Tryz.f266 0):=lok_one (by kernel_rfl) l106_2
def V106_0:Y×Y×Bool×Int×Int→J:=fun(s,ms,b,dr,i)=> [S s,S ms,B b,C8 dr,I i]
def B106_0:Y×Y×Bool×Int×Int→Ya:=fun _=> []
def S106_0:LSpec (Y×Y×Bool×Int×Int) where
 live:=[0,1,4,5,6]
 mid:=[]
 n:=100
 dec vs bs:=match vs,bs with | [.string s,.string ms,.bool b,.int .u8 dr,.int .i64 i],[]=>some (s,ms,b,dr,i) | _,_=>none
 pre:=fun(s,ms,b,dr,i)=>decide (0≤i∧i≤s.size∧s.size=ms.size∧s.size≤1000)
 fin:=fun(s,ms,b,dr,i) Z=>(bif stGo dr (bz s) (bz ms) ((bz s).drop i.toNat) i then Z (.exit 0) [S s,S ms,B b,C8 dr,I s.size] []else(∀i',Z .ret [S s,S ms,B false,C8 dr,I i'] []))
theorem r106_0(s:Y)(ms:Y)(b:Bool)(dr:Int)(i:Int)(jk:Tmps)(R:Exit→J→Ya→Prop):(jbn Tryz.prog G5 (oneL 2 S106_2.h) Tryz.f266.ntmps (ja2 Tryz.f266 0) (tl S106_0.live (V106_0 (s,ms,b,dr,i)) jk) (ml S106_0.mid (B106_0 (s,ms,b,dr,i))) S106_0.n fun e t' m' _=>R e (List.map t' S106_0.live) (List.map m' S106_0.mid))=(iw (bk s i&& (!lx s i || bk s i&&true)) (!lx s i || aw s i dr) s R i [] [B b,am dr,ak i] 0 (R .normal (e9 s ms [am dr,az i] (B b)) []) (bif S106_2.pre (s,(ms,(b,(dr,(i,(false,(false,(0:Int))))))))then Tmps→bq (stIn dr i (bu s 0) (bu ms 0) 0 false false).fst true ((stIn dr i (bu s 0) (bu ms 0) 0 false false).fst&& (stIn dr i (bu s 0) (bu ms 0) 0 false false).snd) (R .ret (e9 s ms [am dr,ak i] (B false)) []) (R .normal (e9 s ms [am dr,az i] (B b)) [])else False) (S s) (S ms)):=by kernel_rfl
theorem l106_0:∀t m n K,S106_0.h t m n K→Ab.Sem Tryz.prog Tryz.f266.ntmps (.loop (ja2 Tryz.f266 0)) t m n K:=by
 refine ja6 ok_G5 hmix (by kernel_rfl) lk106 S106_0 V106_0 B106_0 (fun(s,ms,b,dr,i)=>(s.size-i).toNat) ?_ ?_ ?_
 ·intro vs bs s h;simp only[S106_0]at h;split at h
  all_goals first | (cases h;exact⟨rfl,rfl⟩) | cases h
 ·exact fun _ _ _ h=>h
 ·intro⟨s,ms,b,dr,i⟩ jk Z hp hf;rw[r106_0];delta av al ep iw bq e9 ax az am ak bu au aw lx bk;simp only[S106_0]at hp hf;simp only[jae]at hp;apply Ka<;>intro h
  ·have h:=jab h;rw[jca hp.1 h,stGo]at hf;have h1:decide (0≤i∧i<(s.size:Int))=true:=jaa (by omega);have k:bz ⟨#[36,83,43,45]⟩=[36,83,43,45]:=rfl;rw[k];refine c_t (by rw[h1];simp) (Ka (fun q=> ?_) (fun q=>c_t ?_ (fun x=>c_t (by simp) ?_)))
   ·rw[q,cond_true,Bool.true_and]at hf;rw[w64 (by omega)];exact⟨(s,ms,b,dr,i+1),rfl,rfl,by simp only[S106_0,jae];omega,by simp only;omega,hf⟩
   ·simp only[S106_2,jae];omega
   ·rw[q,cond_false]at hf;rw[jeb,jeb];apply Ka<;>intro w
    ·rw[w]at hf;exact hf i
    ·rw[w,Bool.not_false,Bool.true_and]at hf;rw[w64 (by omega)];exact⟨(s,ms,b,dr,i+1),rfl,rfl,by simp only[S106_0,jae];omega,by simp only;omega,hf⟩
  ·have h:=jac h;rw[jck (by omega)]at hf;obtain rfl:i=s.size:=by omega
   exact hf
theorem lok106:LOKf Tryz.prog (oneL 0 S106_0.h) Tryz.f266:=jbb (by kernel_rfl) l106_0
def s106(s:Y)(ms:Y):Bool×Value:=(decide (s.size=ms.size∧s.size≤1000),.bool (jf7 (bz s) (bz ms)))
theorem v106(s:Y)(ms:Y)(R:Value→Prop):jax Tryz.prog G5 (oneL 0 S106_0.h) Tryz.f266 [Enc.enc s,Enc.enc ms] (fun _=>none) 0 (fun v _ _=>R v)=(bif co s then mb (S106_0.pre (s,(ms,(false,(drZ (bz s),(0:Int)))))) (stGo (drZ (bz s)) (bz s) (bz ms) (bu s 0) 0) (B true) (B false) R else False):=by kernel_rfl
theorem ok106:jan Tryz.prog 266 (sp2 s106):=by
 refine jcz ok_G5 hmix (.m Tryz.func266) lok106 jag fun s ms hc=> ?_
 rw[ja4,v106];delta gm mb bu co;have hc:(s.size=ms.size∧s.size≤1000):=jab hc;dsimp only[s106];refine c_t (jaa (by omega)) (c_t (by simp only[S106_0,jae];omega) ?_);rw[jeb];exact Ka (fun h _=>by simp only[jf7,h]) (fun h _ _=>by simp only[jf7,h])
theorem jmy(dr:Int):∀(l:O)(b:Bool),(mkGo dr b l).length=l.length
 | [],_=>rfl
 | c::r,b=>by simp only[mkGo,List.length_cons,jmy dr r]
theorem jer(l:O):(jaq l).length=l.length:=by
 unfold jaq jam;cases h:crZ l with
 | false=>simp[jmy]
 | true=>
  have:2≤l.length:=by
   simp only[crZ,jaf,jae]at h;exact h.1
  simp[jmy];omega
theorem mk1_rng(dr:Int)(b:Bool)(c:Int):0≤mk1 dr b c∧mk1 dr b c<256:=by
 unfold mk1;cases hasZ [57,89,84,73,82] c<;>cases(hasZ [90,42] c || (dr !=0&& (c==dr&&b))) <;>cases(c==86) <;>cases(c==36) <;>cases hasZ [83,43,45] c<;>decide
theorem mk_isB(dr:Int):∀(l:O)(b:Bool),IsB (mkGo dr b l)
 | [],_=>IsB.nil
 | c::r,b=>IsB.cons (mk1_rng dr b c) (mk_isB dr r _)
theorem jfh(l:O):IsB (jaq l):=by
 unfold jaq;refine(mk_isB _ _ _).append ?_;split
 ·intro c hc;simp at hc;omega
 ·exact IsB.nil
def numV(s:O):Bool:= !jfd s&& (!(jam s).any (hasZ [65,88,67,68]) && (decide ((cntZ (jam s) 86:Int)≤1) && (jct (jam s) && (jdw (jam s) (jaq (jam s)) && (decide (jdq s≤1) &&jf7 (jam s) (jaq (jam s)))))))
def G6:Env:=((((((((Env.nil.add 203 (sp2 s40)).add 201 (sp2 s75)).add 199 (sp1 s73)).add 204 (sp1 s101)).add 133 (sp1 s69)).add 264 (sp1 s104)).add 265 (sp2 s105)).add 202 (sp1 s76)).add 266 (sp2 s106)
theorem ok_G6:ja3 Tryz.prog G6:=jaj (jaj (jaj (jaj (jaj (jaj (jaj (jaj (jaj jav ok40) ok75) ok73) ok101) ok69) ok104) ok105) ok76) ok106
def V74_0:Y×Bool×Y×Int→J:=fun(s,b,d,i)=> [S s,B b,S d,I i]
def B74_0:Y×Bool×Y×Int→Ya:=fun _=> []
def S74_0:LSpec (Y×Bool×Y×Int) where
 live:=[0,2,3,4]
 mid:=[]
 n:=80
 dec vs bs:=match vs,bs with | [.string s,.bool b,.string d,.int .i64 i],[]=>some (s,b,d,i) | _,_=>none
 pre:=fun(s,b,d,i)=>decide (0≤i∧i≤d.size∧d.size≤1000)
 fin:=fun(s,b,d,i) Z=>(bif ((bz d).drop i.toNat).any (hasZ [65,88,67,68])then(∀i',Z .ret [S s,B false,S d,I i'] [])else Z (.exit 0) [S s,B b,S d,I d.size] [])
def ns:Y:=⟨#[65,88,67,68]⟩
theorem r74_0(s:Y)(b:Bool)(d:Y)(i:Int)(jk:Tmps)(R:Exit→J→Ya→Prop):(jbn Tryz.prog G6 noL Tryz.f200.ntmps (ja2 Tryz.f200 0) (tl S74_0.live (V74_0 (s,b,d,i)) jk) (ml S74_0.mid (B74_0 (s,b,d,i))) S74_0.n fun e t' m' _=>R e (List.map t' S74_0.live) (List.map m' S74_0.mid))=(km (bk d i) (hasZ (bz ns) (au d i)) d s R i [S d,ak i] [S d,az i] [S d,ak i] (B false) (B b)):=by kernel_rfl
theorem l74_0:LOKf Tryz.prog (oneL 0 S74_0.h) Tryz.f200:=by
 refine jbb (h:=S74_0.h) (by kernel_rfl) (ja6 ok_G6 hmix (by kernel_rfl) (ja0 _) S74_0 V74_0 B74_0 (fun(s,b,d,i)=>(d.size-i).toNat) ?_ ?_ ?_)
 ·intro vs bs s h;simp only[S74_0]at h;split at h
  all_goals first | (cases h;exact⟨rfl,rfl⟩) | cases h
 ·exact fun _ _ _ h=>h
 ·intro⟨s,b,d,i⟩ jk Z hp hf;rw[r74_0];delta al ep km ak ax az au ns bk;simp only[S74_0]at hp hf;simp only[jae]at hp;apply Ka<;>intro h
  ·have h:=jab h;rw[jca hp.1 h,List.any_cons]at hf;have k:bz ⟨#[65,88,67,68]⟩=[65,88,67,68]:=rfl;rw[k];refine c_t (jaa (by omega)) (Ka (fun q=> ?_) (fun q=> ?_))
   ·rw[q]at hf;exact hf i
   ·rw[q,Bool.false_or]at hf;rw[w64 (by omega)];exact⟨(s,b,d,i+1),rfl,rfl,by simp only[S74_0,jae];omega,by simp only;omega,hf⟩
  ·have h:=jac h;rw[jck (by omega)]at hf;obtain rfl:i=d.size:=by omega
   exact hf
def s74(s:Y):Bool×Value:=(decide (s.size≤1000),.bool (numV (bz s)))
def fy(a:Y):Bool:=decide (a.size≤1000)
def qu(a b:Y)(c:O)(d:Value→Prop):Prop:=bif Px.S74_0.pre (a,(false,(b,(0:Int))))then bif c.any (hasZ [65,88,67,68])then gm (.bool false) d else ib (fy b) (br (co b&&bv (decide ((cntZ (bz b) 86:Int)≤1)) (fy b&& (bif jct (bz b)then decide (b.size=(sz (jaq (bz b))).size∧b.size≤1000) && (bif jdw (bz b) (bz (sz (jaq (bz b))))then fy a&& (bif decide (jdq (bz a)≤1)then decide (b.size=(sz (jaq (bz b))).size∧b.size≤1000) &&true else true)else true)else true)) true) (.bool (decide ((cntZ (bz b) 86:Int)≤1) && (jct (bz b) && (jdw (bz b) (bz (sz (jaq (bz b)))) && (decide (jdq (bz a)≤1) &&jf7 (bz b) (bz (sz (jaq (bz b))))))))) d) False else False
theorem v74(s:Y)(R:Value→Prop):jax Tryz.prog G6 (oneL 0 S74_0.h) Tryz.f200 [Enc.enc s] (fun _=>none) 0 (fun v _ _=>R v)=(fq (jfd (bz s)) s (R (B false)) (bif co s then bif crZ (bz s)then bif kh s 2 then qu s (j8 s) (fw 0 (bz (j8 s))) R else False else qu s s (bu s 0) R else False)):=by kernel_rfl
theorem ok74:jan Tryz.prog 200 (sp1 s74):=by
 refine jb6 ok_G6 hmix (.m Tryz.func200) l74_0 jag fun s hc=> ?_
 rw[ja4,v74];delta av co fq ib br bv fy gm qu bu fw al d9 j8 c7 kh;have hc:(s.size≤1000):=jab hc;dsimp only[s74];have hm:∀b:Y,bz (sz (jaq (bz b)))=jaq (bz b)∧(sz (jaq (bz b))).size=b.size:=fun b=>⟨jc7 (jfh _),by rw[jco,jer,jak]⟩
 have d0:decide (s.size≤9223372036854775807)=true:=jaa (by omega);have e4:decide (s.size≤1000)=true:=jaa hc;rw[d0];refine c_t rfl (Ka (fun hch=>by simp only[numV,hch,Bool.not_true,Bool.false_and]) (fun hch=>c_t rfl (Ka (fun hcr=> ?_) (fun hcr=> ?_))))
 ·have h2:2≤s.size:=by
   simp only[crZ,jaf,jae,jak]at hcr;exact hcr.1
  have e:((s.size:Int)-2).toNat=s.size-2:=by omega
  rw[w64 (n:=(s.size:Int)-2) (by omega),e];have eb:bz (s.extract 0 (s.size-2))=(bz s).take (s.size-2):=by rw[jb5];simp
  have hbs:(s.extract 0 (s.size-2)).size=s.size-2:=by rw[←jak,eb,Kp,jak];omega
  have hB:jam (bz s)=bz (s.extract 0 (s.size-2)):=by simp[jam,hcr,eb]
  clear eb;generalize s.extract 0 (s.size-2)=b at*;have e1:decide (b.size≤1000)=true:=jaa (by omega);have e2:decide (b.size≤9223372036854775807)=true:=jaa (by omega);refine c_t (jaa (by omega)) (c_t (by simp only[S74_0,jae];omega) ?_);rw[jeb];refine Ka (fun ha _ _=> ?_) (fun ha _=> ?_)
  ·simp only[numV,hB,ha,Bool.not_true,Bool.false_and,Bool.and_false]
  ·simp only[(hm b).1,(hm b).2,e1,e2,e4,eq_self,true_and,Bool.true_and,cond_true,Bool.and_true];refine c_t (by simp) ?_;simp only[numV,hch,hB,ha,Bool.not_false,Bool.true_and]
 ·have hB:jam (bz s)=bz s:=by simp[jam,hcr]
  refine c_t (by simp only[S74_0,jae];omega) ?_;rw[jeb];refine Ka (fun ha _ _=> ?_) (fun ha _=> ?_)
  ·simp only[numV,hB,ha,Bool.not_true,Bool.false_and,Bool.and_false]
  ·simp only[(hm s).1,(hm s).2,e4,eq_self,true_and,Bool.true_and,cond_true,Bool.and_true];refine c_t (by simp) ?_;simp only[numV,hch,hB,ha,Bool.not_false,Bool.true_and]
def G7:Env:=((((((Env.nil.add 203 (sp2 s40)).add 201 (sp2 s75)).add 199 (sp1 s73)).add 133 (sp1 s69)).add 198 (sp1 s45)).add 202 (sp1 s76)).add 200 (sp1 s74)
theorem ok_G7:ja3 Tryz.prog G7:=jaj (jaj (jaj (jaj (jaj (jaj (jaj jav ok40) ok75) ok73) ok69) ok45) ok76) ok74
def vOK(l:O):Bool:=exOK l&& (jfd (exZ l) || numV (exZ l))
def pN(l:O):Bool:=exOK l&&numV (exZ l)
def pS(l:O):O:=if vOK l=true then exZ l else []
def pW(l:O):Int:=if vOK l=true then(if jfd (exZ l)=true then((exZ l).length:Int)else(exZ l).length-cntZ (exZ l) 86)else 0
def isP(m:Int):Bool:=m==100 || m==99
def pdGo:O→Int
 | []=>0
 | m::r=>(bif isP m then 1 else 0)+pdGo r
def pqGo(s:O):O→Int→Int
 | [],_=>0
 | m::r,i=>(bif isP m&&hasZ (s.take i.toNat) 86 then 1 else 0)+pqGo s r (i+1)
def pD(l:O):Int:=if pN l=true then pdGo (jaq (exZ l))else 0
def pQ(l:O):Int:=if pN l=true then pqGo (exZ l) (jaq (exZ l)) 0 else 0
def pG(l:O):Bool:=pN l&&jdq (exZ l)==1
def pE(l:O):Int:=if vOK l=true then 0 else 30
def picV(l:O):Value:= .agg ⟨[.string (sz (pS l)),.bool (pN l),.int .i64 (pW l),.int .i64 (pD l),.int .i64 (pQ l),.bool (pG l)]⟩
def V30_0:Int×Y×Y×Y×Bool×Int×Int×Int×Bool×Y×Int×Int×Int×Bool×Bool×Int→J:=fun(e,s,ms,z,zb,z1,z2,z3,zg,p,w,d,q,n,g,i)=> [.pointer (some ⟨0,0,some 0⟩),I e,S s,.pointer (some ⟨26,0,some 0⟩),S ms,I i]
def B30_0:Int×Y×Y×Y×Bool×Int×Int×Int×Bool×Y×Int×Int×Int×Bool×Bool×Int→Ya:=fun(e,s,ms,z,zb,z1,z2,z3,zg,p,w,d,q,n,g,i)=> [some ⟨[S z,B zb,I z1,I z2,I z3,B zg],55,true⟩,some ⟨[S p,B n,I w,I d,I q,B g],55,true⟩]
def S30_0:LSpec (Int×Y×Y×Y×Bool×Int×Int×Int×Bool×Y×Int×Int×Int×Bool×Bool×Int) where
 live:=[2,3,4,6,7,8]
 mid:=[0,26]
 n:=120
 dec vs bs:=match vs,bs with | [.pointer (some ⟨0,0,some 0⟩),.int .i64 e,.string s,.pointer (some ⟨26,0,some 0⟩),.string ms,.int .i64 i],[some ⟨[.string z,.bool zb,.int .i64 z1,.int .i64 z2,.int .i64 z3,.bool zg],55,true⟩,some ⟨[.string p,.bool n,.int .i64 w,.int .i64 d,.int .i64 q,.bool g],55,true⟩]=>some (e,s,ms,z,zb,z1,z2,z3,zg,p,w,d,q,n,g,i) | _,_=>none
 pre:=fun(e,s,ms,z,zb,z1,z2,z3,zg,p,w,d,q,n,g,i)=>decide (0≤i∧i≤ms.size∧ms.size=s.size∧s.size≤1000∧0≤d∧d≤i∧0≤q∧q≤i)
 fin:=fun(e,s,ms,z,zb,z1,z2,z3,zg,p,w,d,q,n,g,i) Z=>Z (.exit 0) [.pointer (some ⟨0,0,some 0⟩),I e,S s,.pointer (some ⟨26,0,some 0⟩),S ms,I ms.size] [some ⟨[S z,B zb,I z1,I z2,I z3,B zg],55,true⟩,some ⟨[S p,B n,I w,I (d+pdGo ((bz ms).drop i.toNat)),I (q+pqGo (bz s) ((bz ms).drop i.toNat) i),B g],55,true⟩]
def ar(a:Nat):Value:= .pointer (some (.mk a 0 (some 0)))
def g8(b f:Bool)(a:Y)(c d e:Int):Option Blk:=some (.mk [.string a,.bool b,ak c,ak d,ak e,.bool f] 55 true)
def iy(a:Y)(b:Int):Y:=a.extract 0 b.toNat
theorem r30_0(e:Int)(s:Y)(ms:Y)(z:Y)(zb:Bool)(z1:Int)(z2:Int)(z3:Int)(zg:Bool)(p:Y)(w:Int)(d:Int)(q:Int)(n:Bool)(g:Bool)(i:Int)(jk:Tmps)(R:Exit→J→Ya→Prop):(jbn Tryz.prog G7 noL Tryz.f132.ntmps (ja2 Tryz.f132 0) (tl S30_0.live (V30_0 (e,s,ms,z,zb,z1,z2,z3,zg,p,w,d,q,n,g,i)) jk) (ml S30_0.mid (B30_0 (e,s,ms,z,zb,z1,z2,z3,zg,p,w,d,q,n,g,i))) S30_0.n fun e t' m' _=>R e (List.map t' S30_0.live) (List.map m' S30_0.mid))=(iw (bk ms i&& (aw ms i 100 || bk ms i&&true)) (aw ms i 100 || aw ms i 99) ms R i [g8 zb zg z z1 z2 z3,g8 n g p w d q] [S s,ar 26,S ms,ak i] 0 (bif c7 0 0 i i (al s)then fq (hasZ (bz (iy s i)) 86) (iy s i) (R .normal [ar 0,ak e,S s,ar 26,S ms,az i] [g8 zb zg z z1 z2 z3,g8 n g p w (ax d) (ax q)]) (R .normal [ar 0,ak e,S s,ar 26,S ms,az i] [g8 zb zg z z1 z2 z3,g8 n g p w (ax d) q])else False) (R .normal [ar 0,ak e,S s,ar 26,S ms,az i] [g8 zb zg z z1 z2 z3,g8 n g p w d q]) (ar 0) (ak e)):=by kernel_rfl
theorem l30_0:LOKf Tryz.prog (oneL 0 S30_0.h) Tryz.f132:=by
 refine jbb (h:=S30_0.h) (by kernel_rfl) (ja6 ok_G7 hmix (by kernel_rfl) (ja0 _) S30_0 V30_0 B30_0 (fun(e,s,ms,z,zb,z1,z2,z3,zg,p,w,d,q,n,g,i)=>(ms.size-i).toNat) ?_ ?_ ?_)
 ·intro vs bs s h;simp only[S30_0]at h;split at h
  all_goals first | (cases h;exact⟨rfl,rfl⟩) | cases h
 ·exact fun _ _ _ h=>h
 ·intro⟨e,s,ms,z,zb,z1,z2,z3,zg,p,w,d,q,n,g,i⟩ jk Z hp hf;rw[r30_0];delta av al ep iw ak ar g8 ax az co fq iy c7 au aw bk;simp only[S30_0]at hp hf;simp only[jae]at hp;apply Ka<;>intro h
  ·have h:=jab h;rw[jca (s:=ms) hp.1 h,pdGo,pqGo]at hf;have h1:decide (0≤i∧i<(ms.size:Int))=true:=jaa (by omega);have ex:bz (s.extract 0 i.toNat)=(bz s).take i.toNat:=by rw[jb5];simp
   have exs:(s.extract 0 i.toNat).size≤1000:=by rw[←jak,ex,Kp,jak];omega
   refine c_t (by rw[h1];simp) (Ka (fun a=>c_t (jaa (by omega)) (c_t (jaa (by omega)) ?_)) (fun a=> ?_))
   ·have a':isP (jai ms i.toNat)=true:=a;rw[a',cond_true,Bool.true_and]at hf;rw[ex,w64 (n:=d+1) (by omega),w64 (n:=i+1) (by omega)];apply Ka<;>intro b
    ·rw[b,cond_true,←Int.add_assoc,←Int.add_assoc]at hf;rw[w64 (n:=q+1) (by omega)];exact⟨(e,s,ms,z,zb,z1,z2,z3,zg,p,w,d+1,q+1,n,g,i+1),rfl,rfl,by simp only[S30_0,jae];omega,by simp only;omega,hf⟩
    ·rw[b,cond_false,Int.zero_add,←Int.add_assoc]at hf;exact⟨(e,s,ms,z,zb,z1,z2,z3,zg,p,w,d+1,q,n,g,i+1),rfl,rfl,by simp only[S30_0,jae];omega,by simp only;omega,hf⟩
   ·have a':isP (jai ms i.toNat)=false:=a;rw[a',cond_false,Bool.false_and,cond_false,Int.zero_add,Int.zero_add]at hf;rw[w64 (by omega)];exact⟨(e,s,ms,z,zb,z1,z2,z3,zg,p,w,d,q,n,g,i+1),rfl,rfl,by simp only[S30_0,jae];omega,by simp only;omega,hf⟩
  ·have h:=jac h;rw[jck (s:=ms) (by omega),pdGo,pqGo,Int.add_zero,Int.add_zero]at hf;obtain rfl:i=ms.size:=by omega
   exact hf
theorem up_rng{c:Int}(h:0≤c∧c<256):0≤upZ c∧upZ c<256:=by unfold upZ;split<;>omega
theorem jkf:∀(l:O)(st n:Int)(out:O),IsB l→IsB out→out.length≤32→IsB (xpGo l st n out).1∧(xpGo l st n out).1.length≤32
 | [],st,n,out,_,h2,h3=>⟨h2,h3⟩
 | c::r,st,n,out,h1,h2,h3=>by
  have hc:=h1 c (Kh ..);have hr:IsB r:=fun x hx=>h1 x (Kj _ hx)
  have nil:IsB (([],false):O×Bool).1∧(([],false):O×Bool).1.length≤32:=⟨IsB.nil,Nat.zero_le _⟩
  rw[xpGo];by_cases e1:st=1
  ·rw[Kd e1];split
   all_goals
    split
    ·exact jkf r _ _ out hr h2 h3
    ·exact nil
  ·rw[Kc e1];by_cases e2:c=41∨st=2∧c=40
   ·rw[Kd e2];exact nil
   ·rw[Kc e2];by_cases e3:c=40
    ·rw[Kd e3];exact jkf r _ _ out hr h2 h3
    ·rw[Kc e3];by_cases hq:hasZ kL (upZ c)=true∧(out.length:Int)+(if st=2 then n else 1)≤32
     ·rw[Kd hq];refine jkf r _ _ _ hr (h2.append fun x hx=> ?_) ?_
      ·rw[Ky hx];exact up_rng hc
      ·rw[Kk];simp only[rep1,Km];have:=hq.2;omega
     ·rw[Kc hq];exact nil
theorem jl9(s:Y):IsB (exZ (bz s))∧(exZ (bz s)).length≤32:=by
 unfold exZ;split
 ·exact jkf _ _ _ _ (jdh s) IsB.nil (Nat.zero_le _)
 ·exact⟨IsB.nil,Nat.zero_le _⟩
theorem ji4:sz []=⟨#[]⟩:=rfl
def s30(s:Y):Bool×Value:=(decide (s.size≤9223372036854775807),.tuple ⟨[picV (bz s),.int .i64 (pE (bz s))]⟩)
def cu(a:J):Value:= .agg ⟨a⟩
def ii(a:Y):Y:=sz (exZ (bz a))
def fk(a:Y):Int:=(a.size:Int)
def o0:Value:= .agg ⟨cv:: .bool false::ak 0::ak 0::ak 0::d8⟩
theorem v30(s:Y)(R:Value→Prop):jax Tryz.prog G7 (oneL 0 S30_0.h) Tryz.f132 [Enc.enc s] (fun _=>none) 0 (fun v _ _=>R v)=(fq (eE (bz s) !=0) s (R (aq [I (eE (bz s))] o0)) (bif co (ii s)then bif jfd (bz (ii s))then R (aq [ak 0] (cu (S (ii s)::B false::I (fk (ii s))::ak 0::ak 0::d8)))else bif fy (ii s)then bif !Px.numV (bz (ii s))then R (aq [ak 30] o0)else bif co (ii s)then bif fy (ii s)then bif fy (ii s)then gy (S30_0.pre ((0:Int),(ii s,(sz (jaq (bz (ii s))),(ay,(false,((0:Int),((0:Int),((0:Int),(false,(ii s,(cm (fk (ii s)) (cntZ (bz (ii s)) 86:Int),((0:Int),((0:Int),(true,(jdq (bz (ii s))==1,(0:Int))))))))))))))))) (aq [ak 0] (cu [S (ii s),B true,I (cm (fk (ii s)) (cntZ (bz (ii s)) 86:Int)),I (0+pdGo (fw 0 (bz (sz (jaq (bz (ii s))))))),I (0+pqGo (bz (ii s)) (fw 0 (bz (sz (jaq (bz (ii s)))))) 0),B (jdq (bz (ii s))==1)])) R else False else False else False else False else False)):=by kernel_rfl
theorem ok30:jan Tryz.prog 132 (sp1 s30):=by
 refine jb6 ok_G7 hmix (.m Tryz.func132) l30_0 jag fun s hc=> ?_
 rw[ja4,v30];delta av co fq gy aq cu ii fw cm fk ak ay fy d8 cv o0;have hc:(s.size≤9223372036854775807):=jab hc
 try dsimp only[s30]
 obtain⟨hb,hl⟩:=jl9 s;have hmB:=jfh (exZ (bz s));have hml:=jer (exZ (bz s));have hcn:=jjb (exZ (bz s)) 86;rw[jc7 hb,jco];refine c_t (jaa hc) (Ka (fun he=> ?_) (fun he=> ?_))
 ·have ho:exOK (bz s)=false:=by
   cases h:exOK (bz s)with
   | false=>rfl
   | true=>rw[eE,h]at he;cases he
  simp[picV,pS,pN,pW,pD,pQ,pG,pE,eE,vOK,ho,ji4]
 ·have ho:exOK (bz s)=true:=by
   cases h:exOK (bz s)with
   | true=>rfl
   | false=>rw[eE,h]at he;cases he
  refine c_t (jaa (by omega)) (Ka (fun hch=> ?_) (fun hch=>c_t (jaa (by omega)) (Ka (fun hn=> ?_) (fun hn=>c_t (jaa (by omega)) (c_t (jaa (by omega)) (c_t (jaa (by omega)) (c_t ?_ (fun x=> ?_))))))))
  ·simp[picV,pS,pN,pW,pD,pQ,pG,pE,vOK,ho,hch,numV]
  ·have hn:numV (exZ (bz s))=false:=by simpa using hn
   simp[picV,pS,pN,pW,pD,pQ,pG,pE,vOK,ho,hch,hn,ji4]
  ·have e1:(sz (jaq (exZ (bz s)))).size=(exZ (bz s)).length:=by rw[jco,hml]
   have e2:(sz (exZ (bz s))).size=(exZ (bz s)).length:=jco _;simp only[S30_0,jae,e1];omega
  ·have hn:numV (exZ (bz s))=true:=by simpa using hn
   rw[jc7 hmB,jeb,w64 (by omega)];simp[picV,pS,pN,pW,pD,pQ,pG,pE,vOK,ho,hch,hn]
structure Pic where
 s:Y
 n:Bool
 w:Int
 d:Int
 q:Int
 g:Bool
instance:Enc Pic where
 enc p:= .agg ⟨[.string p.s,.bool p.n,.int .i64 p.w,.int .i64 p.d,.int .i64 p.q,.bool p.g]⟩
 dec | .agg ⟨[.string a,.bool b,.int .i64 c,.int .i64 d,.int .i64 e,.bool f]⟩=>some ⟨a,b,c,d,e,f⟩ | _=>none
 dec_some:=by
  intro v a h;split at h
  ·cases h;rfl
  ·cases h
 plain_enc _:=rfl
def G8:Env:=((Env.nil.add 203 (sp2 s40)).add 212 (sp2 s85)).add 132 (sp1 s30)
theorem ok_G8:ja3 Tryz.prog G8:=jaj (jaj (jaj jav ok40) ok85) ok30
def tyK(l:O):Int:=if vOK l=true then(if pN l=true then 1 else 3)else 0
def tyP(l:O):Int:=if vOK l=true then(if pN l=true then pD l else pW l)else 0
def tyV(l:O):Value:= .agg ⟨[.int .i64 (tyK l),.int .i64 (tyP l),.int .i64 (pQ l),.bool false,.string ⟨#[]⟩]⟩
def cuM(n q sc:Int):Int:=if q≥sc then(n.natAbs:Int)/tenZ (q-sc).toNat else n.natAbs*tenZ (sc-q).toNat
def cuV(n q sc d:Int):Int:=cuM n q sc%tenZ d.toNat
def cuN(n q sc d:Int)(g:Bool):Int:=if n<0∧g=true then 0-cuV n q sc d else cuV n q sc d
def cuF(n q sc d:Int)(g:Bool):Bool:=decide (cuM n q sc<tenZ d.toNat) && (decide (n≥0) || (g || cuV n q sc d==0))
def ssZ(c dr:Int)(m:Bool):Int:=bif dr !=0&&c==dr then 32 else bif hasZ [67,82,68,66] c then(bif m then c else 32)else sgZ c m
theorem jn1(l:O):(pE l !=0)= !vOK l:=by
 unfold pE;cases vOK l<;>rfl
theorem pE_eq(l:O):(pE l==0)=vOK l:=by
 unfold pE;cases vOK l<;>rfl
theorem jdg{l:O}(h:pN l=true):vOK l=true:=by
 simp only[pN,jaf]at h;simp[vOK,h.1,h.2]
theorem pN_and(l:O):(vOK l&&pN l)=pN l:=by
 cases h:pN l with
 | false=>simp
 | true=>simp[jdg h]
theorem pN_or(l:O):(!vOK l || !pN l)= !pN l:=by
 cases h:pN l with
 | false=>simp
 | true=>simp[jdg h]
theorem jjg{n:Nat}(h:n≤9):tenZ n≤1000000000:=by
 match n,h with
 | 0,_ | 1,_ | 2,_ | 3,_ | 4,_ | 5,_ | 6,_ | 7,_ | 8,_ | 9,_=>decide
theorem tenZ_add(a b:Nat):tenZ (a+b)=tenZ a*tenZ b:=Int.pow_add ..
theorem ji7:∀(ms:O)(fm bh pt:Bool)(dg:Int),(ldGo ms fm bh pt dg).1=true→(ldGo ms fm bh pt dg).2.2.2=dg+pdGo ms
 | [],fm,bh,pt,dg,_=>by simp[ldGo,pdGo]
 | m::r,fm,bh,pt,dg,h=>by
  rw[ldGo]at h ⊢;rw[pdGo];cases h1:(m==118)with
  | true=>
   rw[h1,cond_true]at h;have hm:=eq_of_beq h1;subst hm;simp only[cond_true,isP];rw[ji7 r _ _ _ _ h];simp
  | false=>
   rw[h1,cond_false]at h;cases h2:(m==100)with
   | true=>
    rw[h2,cond_true]at h;simp only[cond_true,cond_false,isP,h2,Bool.true_or];rw[ji7 r _ _ _ _ h];omega
   | false=>
    rw[h2,cond_false]at h;cases h3:(m==99)with
    | true=>
     rw[h3,cond_true]at h;cases fm with
     | true=>cases h
     | false=>
      rw[cond_false]at h;simp only[cond_true,cond_false,isP,h2,h3,Bool.false_or];rw[ji7 r _ _ _ _ h];omega
    | false=>
     rw[h3,cond_false]at h;simp only[cond_false,isP,h2,h3,Bool.false_or];rw[ji7 r _ _ _ _ h];omega
theorem jmx:∀a b:O,pdGo (a++b)=pdGo a+pdGo b
 | [],b=>by simp[pdGo]
 | m::r,b=>by simp only[List.cons_append,pdGo,jmx r b];omega
theorem jnp:∀a:O,0≤pdGo a
 | []=>by simp[pdGo]
 | m::r=>by have:=jnp r;simp only[pdGo];cases isP m<;>simp<;>omega
theorem pq_rng(s:O):∀(a:O)(i:Int),0≤pqGo s a i∧pqGo s a i≤pdGo a
 | [],i=>by simp[pqGo,pdGo]
 | m::r,i=>by
  have:=pq_rng s r (i+1);simp only[pqGo,pdGo];cases isP m<;>cases hasZ (s.take i.toNat) 86<;>simp<;>omega
theorem body_ncr{s:O}(h:(jam s).any (hasZ [65,88,67,68])=false):crZ (jam s)=false:=by
 cases hc:crZ (jam s)with
 | false=>rfl
 | true=>
  exfalso;simp only[crZ,jaf,Ko,jae]at hc;have:∀c∈jam s,hasZ [65,88,67,68] c=false:=by simpa using h
  rcases hc.2 with h1 | h1
  ·have hm:(67:Int)∈(jam s).drop ((jam s).length-2):=by rw[h1];simp
   exact absurd (this _ (List.mem_of_mem_drop hm)) (by decide)
  ·have hm:(68:Int)∈(jam s).drop ((jam s).length-2):=by rw[h1];simp
   exact absurd (this _ (List.mem_of_mem_drop hm)) (by decide)
theorem jg2{s:O}(h:(jam s).any (hasZ [65,88,67,68])=false):jaq (jam s)=mkGo (drZ (jam s)) false (jam s):=by
 have hc:=body_ncr h;have gen:∀l:O,crZ l=false→jam l=l:=fun l h=>by simp[jam,h]
 have hb:jam (jam s)=jam s:=gen _ hc;unfold jaq;rw[hb,hc];simp
structure NumP (s:O):Prop where
 nch:jfd s=false
 plain:(jam s).any (hasZ [65,88,67,68])=false
 one:(cntZ (jam s) 86:Int)≤1
 dr:jct (jam s)=true
 ld:jdw (jam s) (mkGo (drZ (jam s)) false (jam s))=true
 sg:jdq s≤1
 st:jf7 (jam s) (mkGo (drZ (jam s)) false (jam s))=true
theorem numV_iff{s:O}:numV s=true↔NumP s:=by
 constructor
 ·intro h;simp only[numV,jaf,Ks,jae]at h;obtain⟨h1,h2,h3,h4,h5,h6,h7⟩:=h;rw[jg2 h2]at h5 h7;exact⟨h1,h2,h3,h4,h5,h6,h7⟩
 ·rintro ⟨h1,h2,h3,h4,h5,h6,h7⟩;rw[←jg2 h2]at h5 h7;simp only[numV,jaf,Ks,jae];exact⟨h1,h2,h3,h4,h5,h6,h7⟩
theorem num_digits{s:O}(h:NumP s):1≤pdGo (jaq s)∧pdGo (jaq s)≤9:=by
 have hl:=h.ld
 have e:pdGo (jaq s)=pdGo (mkGo (drZ (jam s)) false (jam s)):=by
  unfold jaq;rw[jmx];split
  ·have:pdGo [115,115]=0:=by decide
   omega
  ·simp[pdGo]
 rw[e];unfold jdw at hl;cases h1:(hasZ (jam s) 90&&hasZ (jam s) 42)with
 | true=>rw[h1]at hl;cases hl
 | false=>
  rw[h1,cond_false]at hl;cases h2:((hasZ (jam s) 90 || hasZ (jam s) 42) &&drZ (jam s) !=0)with
  | true=>rw[h2]at hl;cases hl
  | false=>
   rw[h2,cond_false]at hl;simp only[jaf,jae]at hl;obtain⟨g1,g2,g3,_⟩:=hl;have:=ji7 _ _ _ _ _ g1;omega
theorem jh9{l:O}(h:pN l=true):NumP (exZ l):=by
 simp only[pN,jaf]at h;exact numV_iff.1 h.2
theorem jdv{l:O}(h:pN l=true):1≤pD l∧pD l≤9∧0≤pQ l∧pQ l≤pD l:=by
 have h1:=num_digits (jh9 h);have h2:=pq_rng (exZ l) (jaq (exZ l)) 0;simp only[pD,pQ,h,if_true];omega
theorem jhg(s:Y):IsB (pS (bz s))∧(pS (bz s)).length≤32:=by
 unfold pS;split
 ·exact jl9 s
 ·exact⟨IsB.nil,Nat.zero_le _⟩
def s49(s:Y):Bool×Value:=(decide (s.size≤9223372036854775807),.bool (pN (bz s)))
theorem v49(s:Y)(R:Value→Prop):jax Tryz.prog G8 noL Tryz.f86 [Enc.enc s] (fun _=>none) 0 (fun v _ _=>R v)=(jb (co s) (pE (bz s)==0 || true) (B (pE (bz s)==0&&pN (bz s))) R):=by kernel_rfl
theorem ok49:jan Tryz.prog 86 (sp1 s49):=by
 refine jb6 ok_G8 hmix (.m Tryz.func86) jal jag fun s hc=> ?_
 rw[ja4,v49];delta br jb co;have hc:(s.size≤9223372036854775807):=jab hc
 try dsimp only[s49]
 rw[pE_eq];exact c_t (jaa hc) (c_t (by simp) (by rw[pN_and]))
def s47(s:Y):Bool×Value:=(decide (s.size≤9223372036854775807),.tuple ⟨[tyV (bz s),.int .i64 (pE (bz s))]⟩)
def pb(a:Y)(b:Value→Prop):Prop:=bif co a then bif pE (bz a) !=0 then b (aq [.int .i64 (pE (bz a))] (cu [ak 0,ak 0,ak 0,.bool false,cv]))else bif pN (bz a)then b (aq [ak 0] (cu [ak 1,.int .i64 (pD (bz a)),.int .i64 (pQ (bz a)),.bool false,cv]))else b (aq [ak 0] (cu [ak 3,.int .i64 (pW (bz a)),ak 0,.bool false,cv]))else False
theorem v47(s:Y)(R:Value→Prop):jax Tryz.prog G8 noL Tryz.f88 [Enc.enc s] (fun _=>none) 0 (fun v _ _=>R v)=(pb s R):=by kernel_rfl
theorem ok47:jan Tryz.prog 88 (sp1 s47):=by
 refine jb6 ok_G8 hmix (.m Tryz.func88) jal jag fun s hc=> ?_
 rw[ja4,v47];delta aq cu ay cv ak co pb;have hc:(s.size≤9223372036854775807):=jab hc
 try dsimp only[s47]
 rw[jn1];refine c_t (jaa hc) (Ka (fun h=> ?_) (fun h=> ?_))
 ·have h:vOK (bz s)=false:=by simpa using h
  have hn:pN (bz s)=false:=by
   cases q:pN (bz s)with
   | false=>rfl
   | true=>rw[jdg q]at h;cases h
  simp[tyV,tyK,tyP,pQ,h,hn]
 ·have h:vOK (bz s)=true:=by simpa using h
  apply Ka<;>intro hn
  ·simp[tyV,tyK,tyP,pE,h,hn]
  ·simp[tyV,tyK,tyP,pE,pQ,h,hn]
def s98(c:U8)(dr:U8)(m:Bool):Bool×Value:=(true,.int .u8 (ssZ c.n dr.n m))
theorem v98(c:U8)(dr:U8)(m:Bool)(R:Value→Prop):jax Tryz.prog G8 noL Tryz.f211 [Enc.enc c,Enc.enc dr,Enc.enc m] (fun _=>none) 0 (fun v _ _=>R v)=(bq (U8.n dr !=0) true (U8.n dr !=0&&U8.n c==U8.n dr) (R (am 32)) (bif hasZ (bz ⟨#[67,82,68,66]⟩) (U8.n c)then bif m then R (.int .u8 (U8.n c))else R (am 32)else R (.int .u8 (sgZ (U8.n c) m)))):=by kernel_rfl
theorem ok98:jan Tryz.prog 211 (sp3 s98):=by
 refine jh7 ok_G8 hmix (.m Tryz.func211) jal jag fun c dr m hc=> ?_
 rw[ja4,v98];delta av bq am
 try dsimp only[s98]
 refine c_t (by simp) (Ka (fun h=> ?_) (fun h=>Ka (fun h2=>Ka (fun h3=> ?_) (fun h3=> ?_)) (fun h2=> ?_)))
 ·simp only[ssZ,h,cond_true]
 ·have h2':hasZ [67,82,68,66] c.n=true:=h2;simp only[ssZ,h,h2',h3,cond_true,cond_false]
 ·have h2':hasZ [67,82,68,66] c.n=true:=h2;simp only[ssZ,h,h2',h3,cond_true,cond_false]
 ·have h2':hasZ [67,82,68,66] c.n=false:=h2;simp only[ssZ,h,h2',cond_false]
def G9:Env:=Env.nil.add 267 (sp1 s77)
theorem ok_G9:ja3 Tryz.prog G9:=jaj jav ok77
def digZ:Int→Nat→O
 | _,0=> []
 | v,n+1=>digZ (v/10) n++ [48+v%10]
theorem isBytes_iff{l:J}:jbz l=true↔ ∀v∈l,∃n,v= .int .u8 n:=by
 induction l with
 | nil=>simp[jbz]
 | cons v r ih=>
  constructor
  ·intro h;unfold jbz at h;split at h
   ·rename_i heq;cases heq
   ·rename_i n r' heq;cases heq;intro u hu;rcases Kg.1 hu with rfl | hu
    ·exact⟨_,rfl⟩
    ·exact ih.1 h u hu
   ·cases h
  ·intro h;obtain⟨n,rfl⟩:=h v (Kh ..);exact ih.2 fun u hu=>h u (Kj _ hu)
theorem RowP.set{c:J}{n cap:Nat}(h:RowP c n cap)(x:Int){i:Nat}(hi:i<n):
  RowP (setL c (0+i*1) [.int .u8 x]) n cap∧zc (setL c (0+i*1) [.int .u8 x]) n=(zc c n).set i x∧Nat.ble (0+i*1+1) c.length=true:=by
 have e:setL c (0+i*1) [.int .u8 x]=c.set i (.int .u8 x):=by simp[setL]
 have h1:=h.len;have h2:=h.le;rw[e];refine⟨⟨?_,?_,by simp[h1],h2,h.cap⟩,?_,Nat.ble_eq_true_of_le (by omega)⟩
 ·rw[List.take_set];refine isBytes_iff.2 fun v hv=> ?_
  rcases List.mem_or_eq_of_mem_set hv with hv | rfl
  ·exact isBytes_iff.1 h.bytes v hv
  ·exact⟨_,rfl⟩
 ·refine ja7.2 fun v hv=> ?_
  rcases List.mem_or_eq_of_mem_set hv with hv | rfl
  ·exact ja7.1 h.plain v hv
  ·rfl
 ·simp only[zc,List.take_set,List.map_set,iv]
theorem zrow_u8(k:Nat):zrow (.int .u8 0) k=cz (List.replicate k 0)++ []:=by
 simp only[zrow,Builtin.zeroCells,cz,Value.cells,KA,List.map_replicate];apply List.ext_getElem?;intro i;simp only[Array.toList_map,Array.toList_range,List.getElem?_map,List.getElem?_replicate];by_cases h:i<k
 ·simp[h,Nat.mod_one]
 ·simp[h]
theorem row_zero{k:Nat}(hk:k≤9223372036854775807):RowP (zrow (.int .u8 0) k) k k:=by
 have:=(jki (List.replicate k 0) (tail:=[]) (cap:=k) rfl (by simp) hk).1;rw[zrow_u8];simpa using this
theorem w8u(v:Int)(h:0≤v):IntKind.wrap .u8 (IntKind.wrap .u64 (48+v.tmod 10))=48+v%10:=by
 rw[Int.tmod_eq_emod_of_nonneg h,wu64 (by omega),w8 (by omega)]
theorem rep_isB(c:Int)(n:Nat)(h:0≤c∧c<256):IsB (rep1 c n):=fun x hx=>by rw[Ky hx];exact h
theorem jd0:∀(n:Nat)(v:Int),(digZ v n).length=n
 | 0,_=>rfl
 | n+1,v=>by simp[digZ,jd0 n]
def V38_0:Int×J×Nat×Nat×Int→J:=fun(v,d,m,cap,i)=> [C64 v,.slice (some ⟨200,0,some 1⟩) m cap,I i]
def B38_0:Int×J×Nat×Nat×Int→Ya:=fun(v,d,m,cap,i)=> [some ⟨d,5,true⟩]
def S38_0:LSpecA (Int×J×Nat×Nat×Int) where
 live:=[5,6,7]
 mid:=[200]
 n:=210
 ap:=[(.tmp 6,200)]
 dec vs bs:=match vs,bs with | [.int .u64 v,.slice (some ⟨200,0,some 1⟩) m cap,.int .i64 i],[some ⟨d,5,true⟩]=>some (v,d,m,cap,i) | _,_=>none
 pre:=fun(v,d,m,cap,i)=>jcp d m cap&&decide (-1≤i∧i<m∧m≤1000∧0≤v∧v≤9223372036854775808)
 fin:=fun(v,d,m,cap,i) Z=>∀d' v',jcp d' m cap=true→zc d' m=digZ v (i+1).toNat++(zc d m).drop (i+1).toNat→Z (.exit 0) [.int .u64 v',.slice (some ⟨200,0,some 1⟩) m cap,I (-1)] [some ⟨d',5,true⟩]
def dt(a b:Int):Int:=IntKind.i64.wrap (a-b)
theorem r38_0(v:Int)(d:J)(m:Nat)(cap:Nat)(i:Int)(jk:Tmps)(R:Exit→J→Ya→Prop):(jbn Tryz.prog G9 noL Tryz.f206.ntmps (ja2 Tryz.f206 0) (tl S38_0.live (V38_0 (v,d,m,cap,i)) jk) (ml S38_0.mid (B38_0 (v,d,m,cap,i))) S38_0.n fun e t' m' _=>S38_0.out R e t' m')=(dy (decide (i≥0)) (cl i (m:Int)) (f0 d 200 200) (bif Nat.ble (ew i+1) d.length then lh R (IntKind.u64.wrap (v.tdiv 10)) .u64 (setL d (ew i) [jq (IntKind.u64.wrap (48+v.tmod 10))]) [I (dt i 1)] 200 (cq 200 0 m cap)else False) (R (.exit 0) [.int .u64 v,cq 200 0 m cap,ak i] [gn d])):=by kernel_rfl
theorem l38_0:LOKf Tryz.prog (oneL 0 S38_0.hA) Tryz.f206:=by
 refine jbb (h:=S38_0.hA) (by kernel_rfl) (jbo ok_G9 hmix (by kernel_rfl) (ja0 _) S38_0 V38_0 B38_0 (fun(v,d,m,cap,i)=>(i+1).toNat) ?_ ?_ ?_)
 ·intro vs bs s h;simp only[S38_0]at h;split at h
  all_goals first | (cases h;exact⟨rfl,rfl⟩) | cases h
 ·exact fun⟨v,d,m,cap,i⟩ hp=>by
   simp only[S38_0,jaf]at hp;simp[V38_0,B38_0,S38_0,jaw,jbs,idsL,ids,jao (jap.1 hp.1).plain]
 ·intro⟨v,d,m,cap,i⟩ jk Z hp hf;rw[r38_0];delta e7 dy gn ak cq bm iq lh dt jq ew f0 cl;simp only[S38_0]at hp hf;simp only[jaf,jae]at hp;obtain⟨hr,hp⟩:=hp;have hr:=jap.1 hr;have hz:=jbe hr;apply Ka<;>intro h
  ·have h:=jab h;rw[w8u v hp.2.2.2.1];obtain⟨h1,h2,h3⟩:=hr.set (48+v%10) (i:=i.toNat) (by omega);have e3:setL d (0+i.toNat*1) [.int .u8 (48+v%10)]=d.set i.toNat (.int .u8 (48+v%10)):=by simp[setL]
   refine c_t (jaa (by omega)) (c_t h3 (c_t (by rw[h1.good];rfl) ?_));rw[h1.rlb,Int.tdiv_eq_ediv_of_nonneg (by omega),wu64 (n:=v/10) (by omega),w64 (by omega)];refine⟨(v/10,_,m,cap,i-1),rfl,rfl,by simp only[S38_0,jaf,jae];exact⟨jap.2 h1,by omega⟩,by simp only;omega,?_⟩;intro d' v' g1 g2;refine hf d' v' g1 ?_;have e1:(i+1).toNat=i.toNat+1:=by omega
   have e2:(i-1+1).toNat=i.toNat:=by omega
   rw[g2,h2,e1,e2,digZ,Kz];congr 1;rw[List.drop_set];have hd:(zc d m).drop i.toNat=(zc d m).getD i.toNat 0::(zc d m).drop (i.toNat+1):=jet _ _ (by omega);rw[Kc (by omega),hd,Nat.sub_self];rfl
  ·have h:=jac h;refine c_t (by rw[hr.good];rfl) ?_;rw[hr.rlb];obtain rfl:i= -1:=by omega
   exact hf d v (jap.2 hr) (by simp[digZ])
def s38(n:Int)(k:Int):Bool×Value:=(decide (0≤k∧k≤1000∧ -9223372036854775808≤n∧n≤9223372036854775807),.string (sz (digZ n.natAbs k.toNat)))
def lj(d:Bool)(a b c:Int)(e:Prop):Prop:=bif ia a b c then e7 d e else False
def jv(a:List (Prod Nat Nat))(b:J)(c:Nat):Bool:=jas a b&&true&&true&&dx (rlbL a b) c
def jt(d:Bool)(a:List (Prod Nat Nat))(b:J)(c:Nat)(e:Prop):Prop:=bif jv a b c then bif d then e else False else False
def nw(b:Int)(a:Nat):J:=rlbL [(a,200)] (zrow (am 0) b.toNat)
def ll(a b:Int):O:=digZ (a.natAbs:Int) b.toNat
theorem v38(n:Int)(k:Int)(R:Value→Prop):jax Tryz.prog G9 (oneL 0 S38_0.hA) Tryz.f206 [Enc.enc n,Enc.enc k] (fun _=>none) 0 (fun v _ _=>R v)=(lj (ia 0 k k&&jb2 k.toNat 1) (-9223372036854775808) n 9223372036854775807 (jt (S38_0.toLSpec.pre ((n.natAbs:Int),(nw k 5,(k.toNat,(k.toNat,dt k 1))))) [(5,200)] (zrow (am 0) k.toNat) 210 (∀a:J,Int→jcp a k.toNat k.toNat=true→zc a k.toNat=ll n (dt k 1+1)++fw (dt k 1+1) (zc (nw k 5) k.toNat)→li a k.toNat R))):=by kernel_rfl
theorem ok38:jan Tryz.prog 206 (sp2 s38):=by
 refine jcz ok_G9 hmix (.m Tryz.func206) l38_0 jag fun n k hc=> ?_
 rw[ja4,v38];delta e7 ia lj dx jv jt br ko li fw am nw dt ll;have hc:(0≤k∧k≤1000∧ -9223372036854775808≤n∧n≤9223372036854775807):=jab hc
 try dsimp only[s38]
 obtain⟨h1,h2,h3,h4⟩:=hc;have hr:=row_zero (k:=k.toNat) (by omega);refine c_t (jaa ⟨h3,h4⟩) (c_t (by simp[jb2];omega) (c_t ?_ ?_))
 ·rw[hr.good,hr.rlb,jba hr.plain];rfl
 rw[hr.rlb,w64 (by omega)];refine c_t ?_ (fun d' v' g1 g2=> ?_)
 ·simp only[S38_0,jaf,jae];exact⟨jap.2 hr,by omega⟩
 have g1:=jap.1 g1;refine c_t (by rw[jba g1.plain];rfl) (fun _=>c_t g1.str.1 ?_);have hz:=jbe hr;rw[g1.str.2,g2,show(k-1+1).toNat=k.toNat by omega,List.drop_of_length_le (by omega),KA]
def G10:Env:=((Env.nil.add 203 (sp2 s40)).add 209 (sp2 s57)).add 133 (sp1 s69)
theorem ok_G10:ja3 Tryz.prog G10:=jaj (jaj (jaj jav ok40) ok57) ok69
def je6:O→O→Int→Int
 | [],_,o=>o
 | m::r,ds,o=>bif (m==118 || m==100) || (m==99&&ds.headD 0 !=48)then o else je6 r (bif m==99 then ds.tail else ds) (o+1)
def ldc:O→Nat
 | []=>0
 | m::r=>(bif m==99 then 1 else 0)+ldc r
def endZ(ms ds:O)(w:Int)(k:Nat):Int:=bif !hasZ ms 99 then 0 else bif !hasZ ms 100&&decide (ds=rep1 48 k)then w else je6 ms ds 0
def V86_0:Int×Y×Bool×Int×Int×Int×Bool×Y×Y×Int×Int×Int→J:=fun(r,z,zb,z1,z2,z3,zg,s,ms,o,d,i)=> [I r,.pointer (some ⟨0,0,some 0⟩),S s,S ms,I o,I d,I i]
def B86_0:Int×Y×Bool×Int×Int×Int×Bool×Y×Y×Int×Int×Int→Ya:=fun(r,z,zb,z1,z2,z3,zg,s,ms,o,d,i)=> [some ⟨[S z,B zb,I z1,I z2,I z3,B zg],55,true⟩]
def S86_0:LSpec (Int×Y×Bool×Int×Int×Int×Bool×Y×Y×Int×Int×Int) where
 live:=[4,2,1,5,6,7,8]
 mid:=[0]
 n:=100
 dec vs bs:=match vs,bs with | [.int .i64 r,.pointer (some ⟨0,0,some 0⟩),.string s,.string ms,.int .i64 o,.int .i64 d,.int .i64 i],[some ⟨[.string z,.bool zb,.int .i64 z1,.int .i64 z2,.int .i64 z3,.bool zg],55,true⟩]=>some (r,z,zb,z1,z2,z3,zg,s,ms,o,d,i) | _,_=>none
 pre:=fun(r,z,zb,z1,z2,z3,zg,s,ms,o,d,i)=>decide (0≤i∧i≤ms.size∧ms.size≤1000∧0≤d∧o=i∧d+ldc ((bz ms).drop i.toNat)≤s.size∧s.size≤1000)
 fin:=fun(r,z,zb,z1,z2,z3,zg,s,ms,o,d,i) Z=>(∀o' d' i',Z .ret [I (je6 ((bz ms).drop i.toNat) ((bz s).drop d.toNat) o),.pointer (some ⟨0,0,some 0⟩),S s,S ms,I o',I d',I i'] [some ⟨[S z,B zb,I z1,I z2,I z3,B zg],55,true⟩])∧(∀d',Z (.exit 0) [I r,.pointer (some ⟨0,0,some 0⟩),S s,S ms,I (je6 ((bz ms).drop i.toNat) ((bz s).drop d.toNat) o),I d',I ms.size] [some ⟨[S z,B zb,I z1,I z2,I z3,B zg],55,true⟩])
theorem r86_0(r:Int)(z:Y)(zb:Bool)(z1:Int)(z2:Int)(z3:Int)(zg:Bool)(s:Y)(ms:Y)(o:Int)(d:Int)(i:Int)(jk:Tmps)(R:Exit→J→Ya→Prop):(jbn Tryz.prog G10 noL Tryz.f207.ntmps (ja2 Tryz.f207 0) (tl S86_0.live (V86_0 (r,z,zb,z1,z2,z3,zg,s,ms,o,d,i)) jk) (ml S86_0.mid (B86_0 (r,z,zb,z1,z2,z3,zg,s,ms,o,d,i))) S86_0.n fun e t' m' _=>R e (List.map t' S86_0.live) (List.map m' S86_0.mid))=(iw (bk ms i&& (aw ms i 118 || bk ms i&& (aw ms i 100 || j6 (aw ms i 99) true ms s i d))) (aw ms i 118 || (aw ms i 100 || aw ms i 99&&au s d !=48)) ms R i [g8 zb zg z z1 z2 z3] (e9 s ms (bp d i) (ak o)) 0 (R .ret (ak o::ar 0::e9 s ms (bp d i) (ak o)) [g8 zb zg z z1 z2 z3]) (gk (aw ms i 99) ms i (R .normal (ak r::ar 0::e9 s ms [az d,az i] (az o)) [g8 zb zg z z1 z2 z3]) (R .normal (ak r::ar 0::e9 s ms (ct d i) (az o)) [g8 zb zg z z1 z2 z3])) (ak r) (ar 0)):=by kernel_rfl
theorem l86_0:LOKf Tryz.prog (oneL 0 S86_0.h) Tryz.f207:=by
 refine jbb (h:=S86_0.h) (by kernel_rfl) (ja6 ok_G10 hmix (by kernel_rfl) (ja0 _) S86_0 V86_0 B86_0 (fun(r,z,zb,z1,z2,z3,zg,s,ms,o,d,i)=>(ms.size-i).toNat) ?_ ?_ ?_)
 ·intro vs bs s h;simp only[S86_0]at h;split at h
  all_goals first | (cases h;exact⟨rfl,rfl⟩) | cases h
 ·exact fun _ _ _ h=>h
 ·intro⟨r,z,zb,z1,z2,z3,zg,s,ms,o,d,i⟩ jk Z hp hf;rw[r86_0];delta av al ep iw ar ak bk gk g8 e9 ax az ct au aw bp bv j6;simp only[S86_0]at hp hf;simp only[jae]at hp;apply Ka<;>intro h
  ·have h:=jab h;have h1:decide (0≤i∧i<(ms.size:Int))=true:=jaa (by omega);rw[jca hp.1 h]at hf;have hq:=hp.2.2.2.2.2.1;rw[jca hp.1 h,ldc]at hq
   have hd:jai ms i.toNat=99→d<s.size:=by
    intro e;rw[e]at hq;simp only[beq_self_eq_true,cond_true]at hq;omega
   have hc:(decide (0≤i∧i<(ms.size:Int)) && (jai ms i.toNat==118 || decide (0≤i∧i<(ms.size:Int)) && (jai ms i.toNat==100 || decide (0≤i∧i<(ms.size:Int)) &&bif jai ms i.toNat==99 then decide (0≤d∧d<(s.size:Int)) &&true else true)))=true:=by
    rw[h1];cases e:(jai ms i.toNat==99)with
    | true=>
     have:=hd (eq_of_beq e);rw[cond_true,jaa (show 0≤d∧d<(s.size:Int)by omega)];simp
    | false=>simp
   have hhd:jai ms i.toNat=99→(bz s).drop d.toNat=jai s d.toNat::(bz s).drop (d+1).toNat:=fun e=>jca hp.2.2.2.1 (hd e)
   have hb:(jai ms i.toNat==99&&jai s d.toNat !=48)=(jai ms i.toNat==99&& ((bz s).drop d.toNat).headD 0 !=48):=by
    cases e:(jai ms i.toNat==99)with
    | true=>rw[hhd (eq_of_beq e)];rfl
    | false=>rfl
   rw[je6,Bool.or_assoc]at hf;refine c_t hc ?_;rw[hb];refine Ka (fun a=> ?_) (fun a=>c_t h1 (Ka (fun b=> ?_) (fun b=> ?_)))
   ·rw[a,cond_true]at hf;exact hf.1 _ _ _
   ·rw[a,b,cond_false,cond_true,hhd (eq_of_beq b),List.tail_cons]at hf;rw[b,cond_true]at hq;have:=hd (eq_of_beq b);rw[w64 (n:=o+1) (by omega),w64 (n:=d+1) (by omega),w64 (by omega)];exact⟨(r,z,zb,z1,z2,z3,zg,s,ms,o+1,d+1,i+1),rfl,rfl,by simp only[S86_0,jae];omega,by simp only;omega,hf⟩
   ·rw[a,b,cond_false,cond_false]at hf;rw[b,cond_false]at hq;rw[w64 (n:=o+1) (by omega),w64 (by omega)];exact⟨(r,z,zb,z1,z2,z3,zg,s,ms,o+1,d,i+1),rfl,rfl,by simp only[S86_0,jae];omega,by simp only;omega,hf⟩
  ·have h:=jac h;rw[jck (s:=ms) (by omega),je6]at hf;obtain rfl:i=ms.size:=by omega
   exact hf.2 _
def s86(p:Pic)(s:Y):Bool×Value:=(decide (p.s.size≤900∧s.size≤1000∧ldc (jaq (bz p.s))≤s.size∧0≤p.d∧p.d≤1000),.int .i64 (endZ (jaq (bz p.s)) (bz s) p.w p.d.toNat))
def ji(a:Px.Pic):O:=bz (Pic.s a)
def ju(a:Px.Pic):Y:=sz (jaq (ji a))
theorem v86(p:Pic)(s:Y)(R:Value→Prop):jax Tryz.prog G10 (oneL 0 S86_0.h) Tryz.f207 [Enc.enc p,Enc.enc s] (fun _=>none) 0 (fun v _ _=>R v)=(bif fy (Pic.s p)then fq (!hasZ (bz (ju p)) 99) (ju p) (R (ak 0)) (i6 (co (ju p)) (bv (!hasZ (bz (ju p)) 100) (ia 0 (Pic.d p) 1000&&true) true) (!hasZ (bz (ju p)) 100&&ez s (sz (rep1 48 (Pic.d p).toNat))) (R (I (Pic.w p))) (bif S86_0.pre ((0:Int),(Pic.s p,(Pic.n p,(Pic.w p,(Pic.d p,(Pic.q p,(Pic.g p,(s,(ju p,((0:Int),((0:Int),(0:Int))))))))))))then(Int→Int→gm (I (je6 (fw 0 (bz (ju p))) (bu s 0) 0)) R)∧gm (I (je6 (fw 0 (bz (ju p))) (bu s 0) 0)) R else False))else False):=by kernel_rfl
theorem ok86:jan Tryz.prog 207 (sp2 s86):=by
 refine jcz ok_G10 hmix (.m Tryz.func207) l86_0 jag fun p s hc=> ?_
 rw[ja4,v86];delta av co fq i6 gm bu fw ji ju ez bv ia ak fy;have hc:(p.s.size≤900∧s.size≤1000∧ldc (jaq (bz p.s))≤s.size∧0≤p.d∧p.d≤1000):=jab hc
 try dsimp only[s86]
 have hml:(sz (jaq (bz p.s))).size=p.s.size:=by rw[jco,jer,jak]
 have hB:=jc7 (jfh (bz p.s));have hr1:bz (sz (rep1 48 p.d.toNat))=rep1 48 p.d.toNat:=jc7 (rep_isB 48 _ (by omega));rw[hB,jcv,hr1,hml];refine c_t (jaa (by omega)) (c_t (jaa (by omega)) (Ka (fun a=> ?_) (fun a=>c_t ?_ (Ka (fun b=> ?_) (fun b=>c_t ?_ ?_)))))
 ·simp only[endZ,a,cond_true]
 ·rw[jaa (show p.s.size≤9223372036854775807 by omega),jaa (show 0≤p.d∧p.d≤1000 by omega)];cases hasZ (jaq (bz p.s)) 100<;>rfl
 ·simp only[endZ,a,b,cond_true,cond_false]
 ·simp only[S86_0,jae,hml,hB,Int.toNat_zero,List.drop_zero];exact⟨KH _,by omega,by omega,KH _,trivial,by omega,by omega⟩
 ·have e:endZ (jaq (bz p.s)) (bz s) p.w p.d.toNat=je6 (jaq (bz p.s)) (bz s) 0:=by simp only[endZ,a,b,cond_false]
  rw[e,jeb];exact⟨fun _ _ _ _=>rfl,fun _ _=>rfl⟩
def G11:Env:=(((((((((Env.nil.add 203 (sp2 s40)).add 209 (sp2 s57)).add 208 (sp1 s58)).add 212 (sp2 s85)).add 210 (sp3 s97)).add 205 (sp1 s96)).add 133 (sp1 s69)).add 211 (sp3 s98)).add 206 (sp2 s38)).add 207 (sp2 s86)
theorem ok_G11:ja3 Tryz.prog G11:=jaj (jaj (jaj (jaj (jaj (jaj (jaj (jaj (jaj (jaj jav ok40) ok57) ok58) ok85) ok97) ok96) ok69) ok98) ok38) ok86
def fdGo(le fill dr:Int)(neg:Bool):O→O→O→Int→O
 | [],_,_,_=> []
 | m::r,sp,ds,o=>
  bif m==100 then fmZ (sp.headD 0) (ds.headD 0) neg::fdGo le fill dr neg r sp.tail ds.tail (o+1)
  else bif m==99 then(bif decide (o<le)then fill else ds.headD 0)::fdGo le fill dr neg r sp.tail ds.tail (o+1)
  else bif m==105 then(bif sp.headD 0==66 then 32 else bif decide (o<le)then fill else sp.headD 0)::fdGo le fill dr neg r sp.tail ds (o+1)
  else bif m !=118 then ssZ (sp.headD 0) dr neg::fdGo le fill dr neg r sp.tail ds (o+1)
  else fdGo le fill dr neg r sp.tail ds o
def dgL(l:O):Bool:=l.all fun d=>decide (48≤d∧d≤57)
def fdFl(sp:O):Int:=if hasZ sp 42=true then 42 else 32
def fdLe(sp:O)(w:Int)(k:Nat)(n:Int):Int:=endZ (jaq sp) (digZ n.natAbs k) w k
def fdBl(sp:O)(w:Int)(k:Nat)(n:Int):Bool:=decide (fdLe sp w k n>0) && (fdLe sp w k n==w&& (n==0&& !hasZ (jaq sp) 100))
def fdDr(sp:O):Int:=bif !hasZ sp 90&& (!hasZ sp 42&&hasZ (jaq sp) 99)then drZ sp else 0
def je5(sp:O)(w:Int)(k:Nat)(n:Int):O:=fdGo (fdLe sp w k n) (fdFl sp) (fdDr sp) (decide (n<0)) (jaq sp) sp (digZ n.natAbs k) 0
def jds(sp:O)(w:Int)(k:Nat)(n:Int):O:=
 bif fdBl sp w k n then rep1 (fdFl sp) w.toNat else bif fdDr sp !=0 then(je5 sp w k n).set (fdLe sp w k n-1).toNat (sgZ (fdDr sp) (decide (n<0)))else je5 sp w k n
def fdOK(sp:O)(w:Int)(k:Nat)(n:Int):Bool:=fdBl sp w k n || (fdDr sp==0 || decide (1≤fdLe sp w k n∧fdLe sp w k n≤(je5 sp w k n).length))
theorem jfm:∀(n:Nat)(v:Int),dgL (digZ v n)=true
 | 0,_=>rfl
 | n+1,v=>by
  have:=jfm n (v/10);simp only[dgL]at this ⊢;simp only[digZ,List.all_append,this,List.all_cons,List.all_nil,Bool.and_true,Bool.true_and,jae];omega
theorem jhi{l:O}(h:dgL l=true):IsB l:=fun x hx=>by
 simp only[dgL,Kf,jae]at h;have:=h x hx;omega
theorem ldc_le:∀l:O,(ldc l:Int)≤pdGo l
 | []=>by simp[ldc,pdGo]
 | m::r=>by
  have:=ldc_le r;simp only[ldc,pdGo,isP];cases m==100<;>cases m==99<;>simp<;>omega
theorem dg_at{s:Y}(h:dgL (bz s)=true){k:Int}(h0:0≤k)(h1:k<s.size):48≤jai s k.toNat∧jai s k.toNat≤57:=by
 have hm:jai s k.toNat∈bz s:=by
  have:jai s k.toNat∈(bz s).drop k.toNat:=by rw[jca h0 h1];exact Kh ..
  exact List.mem_of_mem_drop this
 simp only[dgL,Kf,jae]at h;exact h _ hm
def V66_0:Int×Y×Bool×Int×Int×Int×Bool×Y×Int×Int×Y×Int×J×Nat×Nat×Int×Int→J:=fun(n,z,zb,z1,z2,z3,zg,s,le,fl,ms,dr,d,m,cap,k,i)=> [I n,.pointer (some ⟨0,0,some 0⟩),S s,I le,C8 fl,S ms,C8 dr,.slice (some ⟨200,0,some 1⟩) m cap,I k,I i]
def B66_0:Int×Y×Bool×Int×Int×Int×Bool×Y×Int×Int×Y×Int×J×Nat×Nat×Int×Int→Ya:=fun(n,z,zb,z1,z2,z3,zg,s,le,fl,ms,dr,d,m,cap,k,i)=> [some ⟨[S z,B zb,I z1,I z2,I z3,B zg],55,true⟩,some ⟨d,5,true⟩]
def S66_0:LSpecA (Int×Y×Bool×Int×Int×Int×Bool×Y×Int×Int×Y×Int×J×Nat×Nat×Int×Int) where
 live:=[1,2,5,6,7,8,9,10,11,12]
 mid:=[0,200]
 n:=260
 ap:=[(.tmp 10,200)]
 dec vs bs:=match vs,bs with | [.int .i64 n,.pointer (some ⟨0,0,some 0⟩),.string s,.int .i64 le,.int .u8 fl,.string ms,.int .u8 dr,.slice (some ⟨200,0,some 1⟩) m cap,.int .i64 k,.int .i64 i],[some ⟨[.string z,.bool zb,.int .i64 z1,.int .i64 z2,.int .i64 z3,.bool zg],55,true⟩,some ⟨d,5,true⟩]=>some (n,z,zb,z1,z2,z3,zg,s,le,fl,ms,dr,d,m,cap,k,i) | _,_=>none
 pre:=fun(n,z,zb,z1,z2,z3,zg,s,le,fl,ms,dr,d,m,cap,k,i)=>jcp d m cap&& (dgL (bz s) &&decide (0≤i∧i≤ms.size∧ms.size≤1000∧ms.size=z.size∧0≤k∧k+pdGo ((bz ms).drop i.toNat)≤s.size∧s.size≤1000∧m≤i))
 fin:=fun(n,z,zb,z1,z2,z3,zg,s,le,fl,ms,dr,d,m,cap,k,i) Z=>∀d' m' cap' k',jcp d' m' cap'=true→zc d' m'=zc d m++fdGo le fl dr (decide (n<0)) ((bz ms).drop i.toNat) ((bz z).drop i.toNat) ((bz s).drop k.toNat) m→Z (.exit 0) [I n,.pointer (some ⟨0,0,some 0⟩),S s,I le,.int .u8 fl,S ms,.int .u8 dr,.slice (some ⟨200,0,some 1⟩) m' cap',I k',I ms.size] [some ⟨[S z,B zb,I z1,I z2,I z3,B zg],55,true⟩,some ⟨d',5,true⟩]
def du(d e:Int)(a b c:Nat):J:=cq a 0 b c::bp d e
def dp(d e:Int)(a b c:Nat):J:=cq a 0 b c::ct d e
def mc(a:J)(b c:Nat)(d:Prop):Prop:=bif e8 a b c 1 then d else False
def md(h i:Bool)(j:Y)(g:Exit→J→Ya→Prop)(e k l m:Int)(f n:J)(a c d:Nat):Prop:=∀b:J,fu b a (c+1)→bm (jas [(d,200)] (gz e .u8 f b c) &&true&&true) g [g8 h i j k l m,iq [(d,200)] (gz e .u8 f b c)] n
def o3(b e:Y)(a c d f i j:Int)(g h:Nat):J:=ak a::ar 0:: .string b::ak c::am d:: .string e::am f::cq 200 0 (g+1) h::ct i j
def pd(b e:Y)(a c d f i j:Int)(g h:Nat):J:=[ak a,ar 0,.string b,ak c,am d,.string e,am f,cq 200 0 (g+1) h,az i,az j]
theorem r66_0(n:Int)(z:Y)(zb:Bool)(z1:Int)(z2:Int)(z3:Int)(zg:Bool)(s:Y)(le:Int)(fl:Int)(ms:Y)(dr:Int)(d:J)(m:Nat)(cap:Nat)(k:Int)(i:Int)(jk:Tmps)(R:Exit→J→Ya→Prop):(jbn Tryz.prog G11 noL Tryz.f135.ntmps (ja2 Tryz.f135 0) (tl S66_0.live (V66_0 (n,z,zb,z1,z2,z3,zg,s,le,fl,ms,dr,d,m,cap,k,i)) jk) (ml S66_0.mid (B66_0 (n,z,zb,z1,z2,z3,zg,s,le,fl,ms,dr,d,m,cap,k,i))) S66_0.n fun e t' m' _=>S66_0.out R e t' m')=(bif ep ms i then gk (bk ms i) z i (bif aw ms i 100 then bif bk s k then lj (e8 d cap m 1) 48 (au s k) 57 (∀a:Nat,md zb zg z R (fmZ (au z i) (au s k) (dw n)) z1 z2 z3 d (pd s ms n le fl dr k i m a) a m 287)else False else bif bk ms i then bif aw ms i 99 then dy (decide (natO m<le)) (e8 d cap m 1) (bk s k) (∀a:Nat,md zb zg z R fl z1 z2 z3 d (pd s ms n le fl dr k i m a) a m 286) (mc d cap m (∀a:Nat,md zb zg z R (au s k) z1 z2 z3 d (pd s ms n le fl dr k i m a) a m 288))else bif bk ms i then bif aw ms i 105 then bif aw z i 66 then mc d cap m (∀a:Nat,md zb zg z R 32 z1 z2 z3 d (o3 s ms n le fl dr k i m a) a m 290)else dy (decide (natO m<le)) (e8 d cap m 1) (e8 d cap m 1) (∀a:Nat,md zb zg z R fl z1 z2 z3 d (o3 s ms n le fl dr k i m a) a m 292) (∀a:Nat,md zb zg z R (au z i) z1 z2 z3 d (o3 s ms n le fl dr k i m a) a m 292)else bif bk ms i then bif au ms i !=118 then mc d cap m (∀a:Nat,md zb zg z R (ssZ (au z i) dr (dw n)) z1 z2 z3 d (o3 s ms n le fl dr k i m a) a m 297)else bm (f0 d 200 200) R [g8 zb zg z z1 z2 z3,gn d] (ak n::ar 0::S s::ak le::am fl::S ms::am dr::dp k i 200 m cap)else False else False else False) False else bif f0 d 200 200 then R (.exit 0) (ak n::ar 0::S s::ak le::am fl::S ms::am dr::du k i 200 m cap) [g8 zb zg z z1 z2 z3,gn d]else False):=by kernel_rfl
theorem l66_0:LOKf Tryz.prog (oneL 0 S66_0.hA) Tryz.f135:=by
 refine jbb (h:=S66_0.hA) (by kernel_rfl) (jbo ok_G11 hmix (by kernel_rfl) (ja0 _) S66_0 V66_0 B66_0 (fun(n,z,zb,z1,z2,z3,zg,s,le,fl,ms,dr,d,m,cap,k,i)=>(ms.size-i).toNat) ?_ ?_ ?_)
 ·intro vs bs s h;simp only[S66_0]at h;split at h
  all_goals first | (cases h;exact⟨rfl,rfl⟩) | cases h
 ·exact fun⟨n,z,zb,z1,z2,z3,zg,s,le,fl,ms,dr,d,m,cap,k,i⟩ hp=>by
   simp only[S66_0,jaf]at hp;simp[V66_0,B66_0,S66_0,jaw,jbs,idsL,ids,jao (jap.1 hp.1).plain]
 ·intro⟨n,z,zb,z1,z2,z3,zg,s,le,fl,ms,dr,d,m,cap,k,i⟩ jk Z hp hf;rw[r66_0];delta gn ak g8 bp cq du am ar f0 av al bk gk bm ax az ct dp e8 mc iq g9 gz fu md o3 dw au e7 dy aw pd ia lj ep;simp only[S66_0]at hp hf;simp only[jaf,jae]at hp;rw[jby];obtain⟨hr,hdg,hp⟩:=hp;have hr:=jap.1 hr;apply Ka<;>intro h
  ·have h:=jab h;have hi0:=hp.1;have g1:decide (0≤i∧i<(ms.size:Int))=true:=jaa (by omega);have g2:decide (0≤i∧i<(z.size:Int))=true:=jaa (by omega);have hq:=hp.2.2.2.2.2.1;rw[jca hi0 h,pdGo]at hq;have nn:=jnp ((bz ms).drop (i+1).toNat);have hi1:i<(z.size:Int):=by omega
   have ek:(k+1).toNat=k.toNat+1:=by omega
   have eF:fdGo le fl dr (decide (n<0)) ((bz ms).drop i.toNat) ((bz z).drop i.toNat) ((bz s).drop k.toNat) m=
     (bif jai ms i.toNat==100 then fmZ (jai z i.toNat) (((bz s).drop k.toNat).headD 0) (decide (n<0))::fdGo le fl dr (decide (n<0)) ((bz ms).drop (i+1).toNat) ((bz z).drop (i+1).toNat) ((bz s).drop (k+1).toNat) (m+1)
     else bif jai ms i.toNat==99 then(bif decide ((m:Int)<le)then fl else((bz s).drop k.toNat).headD 0)::fdGo le fl dr (decide (n<0)) ((bz ms).drop (i+1).toNat) ((bz z).drop (i+1).toNat) ((bz s).drop (k+1).toNat) (m+1)
     else bif jai ms i.toNat==105 then(bif jai z i.toNat==66 then 32 else bif decide ((m:Int)<le)then fl else jai z i.toNat)::fdGo le fl dr (decide (n<0)) ((bz ms).drop (i+1).toNat) ((bz z).drop (i+1).toNat) ((bz s).drop k.toNat) (m+1)
     else bif jai ms i.toNat !=118 then ssZ (jai z i.toNat) dr (decide (n<0))::fdGo le fl dr (decide (n<0)) ((bz ms).drop (i+1).toNat) ((bz z).drop (i+1).toNat) ((bz s).drop k.toNat) (m+1)
     else fdGo le fl dr (decide (n<0)) ((bz ms).drop (i+1).toNat) ((bz z).drop (i+1).toNat) ((bz s).drop k.toNat) m):=by
    rw[jca (s:=ms) hi0 h,jca (s:=z) hi0 hi1,fdGo,List.tail_drop,ek];rfl
   have fin:∀(cap':Nat)(d':J)(m1:Nat)(k':Int)(M:O),RowP d' m1 cap'→(m1:Int)≤i+1→zc d' m1=zc d m++M→0≤k'→k'+pdGo ((bz ms).drop (i+1).toNat)≤s.size→
     fdGo le fl dr (decide (n<0)) ((bz ms).drop i.toNat) ((bz z).drop i.toNat) ((bz s).drop k.toNat) m=M++fdGo le fl dr (decide (n<0)) ((bz ms).drop (i+1).toNat) ((bz z).drop (i+1).toNat) ((bz s).drop k'.toNat) m1→
     S66_0.step V66_0 B66_0 (fun(n,z,zb,z1,z2,z3,zg,s,le,fl,ms,dr,d,m,cap,k,i)=>(ms.size-i).toNat) (n,z,zb,z1,z2,z3,zg,s,le,fl,ms,dr,d,m,cap,k,i) Z Exit.normal
      [I n,.pointer (some ⟨0,0,some 0⟩),S s,I le,C8 fl,S ms,C8 dr,.slice (some ⟨200,0,some 1⟩) m1 cap',I k',I (IntKind.wrap .i64 (i+1))] [some ⟨[S z,B zb,I z1,I z2,I z3,B zg],55,true⟩,some ⟨d',5,true⟩]:=by
    intro cap' d' m1 k' M q1 q2 q3 q4 q5 q6;rw[w64 (n:=i+1) (by omega)];refine⟨(n,z,zb,z1,z2,z3,zg,s,le,fl,ms,dr,d',m1,cap',k',i+1),rfl,rfl,by simp only[S66_0,jaf,jae];exact⟨jap.2 q1,hdg,by omega⟩,by simp only;omega,?_⟩;intro d'' m'' cap'' k'' r1 r2;exact hf d'' m'' cap'' k'' r1 (by rw[r2,q3,q6,Kz])
   have hk:isP (jai ms i.toNat)=true→k<s.size∧k+1+pdGo ((bz ms).drop (i+1).toNat)≤s.size:=by
    intro e;rw[e,cond_true]at hq;omega
   have hk0:k+pdGo ((bz ms).drop (i+1).toNat)≤s.size:=by
    revert hq;cases isP (jai ms i.toNat) <;>simp only[cond_true,cond_false] <;>omega
   have hkd:k<s.size→(bz s).drop k.toNat=jai s k.toNat::(bz s).drop (k+1).toNat:=fun e=>jca hp.2.2.2.2.1 e
   refine c_t g2 (c_t g1 (Ka (fun a=> ?_) (fun a=>c_t g1 (Ka (fun b=> ?_) (fun b=>c_t g1 (Ka (fun c=> ?_) (fun c=>c_t g1 (Ka (fun e=> ?_) (fun e=> ?_)))))))))
   ·obtain⟨k1,k2⟩:=hk (by simp[isP,a]);refine c_t (jaa (by omega)) (c_t (jaa (dg_at hdg (by omega) k1)) ?_);refine c_t (hr.ask (k:=1) (by omega)) (fun cap1 tail ht=> ?_);obtain⟨f1,f2⟩:=hr.app1 (fmZ (jai z i.toNat) (jai s k.toNat) (decide (n<0))) ht;refine c_t (by rw[f1.good];rfl) ?_;rw[f1.rlb];rw[w64 (n:=k+1) (by omega)];exact fin _ _ _ _ _ f1 (by omega) f2 (by omega) k2 (by rw[eF,a,cond_true,hkd k1];rfl)
   ·obtain⟨k1,k2⟩:=hk (by simp[isP,b]);refine Ka (fun c=> ?_) (fun c=>c_t (jaa (by omega)) ?_)
    ·refine c_t (hr.ask (k:=1) (by omega)) (fun cap1 tail ht=> ?_);obtain⟨f1,f2⟩:=hr.app1 (fl) ht;refine c_t (by rw[f1.good];rfl) ?_;rw[f1.rlb];rw[w64 (n:=k+1) (by omega)];exact fin _ _ _ _ _ f1 (by omega) f2 (by omega) k2 (by rw[eF,a,b,c,cond_true,cond_false];rfl)
    ·refine c_t (hr.ask (k:=1) (by omega)) (fun cap1 tail ht=> ?_);obtain⟨f1,f2⟩:=hr.app1 (jai s k.toNat) ht;refine c_t (by rw[f1.good];rfl) ?_;rw[f1.rlb];rw[w64 (n:=k+1) (by omega)];exact fin _ _ _ _ _ f1 (by omega) f2 (by omega) k2 (by rw[eF,a,b,c,cond_true,cond_false,cond_false,hkd k1];rfl)
   ·refine Ka (fun e=> ?_) (fun e=>Ka (fun o=> ?_) (fun o=> ?_))
    ·refine c_t (hr.ask (k:=1) (by omega)) (fun cap1 tail ht=> ?_);obtain⟨f1,f2⟩:=hr.app1 (32) ht;refine c_t (by rw[f1.good];rfl) ?_;rw[f1.rlb];exact fin _ _ _ _ _ f1 (by omega) f2 (by omega) hk0 (by rw[eF,a,b,c,e];rfl)
    ·refine c_t (hr.ask (k:=1) (by omega)) (fun cap1 tail ht=> ?_);obtain⟨f1,f2⟩:=hr.app1 (fl) ht;refine c_t (by rw[f1.good];rfl) ?_;rw[f1.rlb];exact fin _ _ _ _ _ f1 (by omega) f2 (by omega) hk0 (by rw[eF,a,b,c,e,o];rfl)
    ·refine c_t (hr.ask (k:=1) (by omega)) (fun cap1 tail ht=> ?_);obtain⟨f1,f2⟩:=hr.app1 (jai z i.toNat) ht;refine c_t (by rw[f1.good];rfl) ?_;rw[f1.rlb];exact fin _ _ _ _ _ f1 (by omega) f2 (by omega) hk0 (by rw[eF,a,b,c,e,o];rfl)
   ·refine c_t (hr.ask (k:=1) (by omega)) (fun cap1 tail ht=> ?_);obtain⟨f1,f2⟩:=hr.app1 (ssZ (jai z i.toNat) dr (decide (n<0))) ht;refine c_t (by rw[f1.good];rfl) ?_;rw[f1.rlb];exact fin _ _ _ _ _ f1 (by omega) f2 (by omega) hk0 (by rw[eF,a,b,c,e];rfl)
   ·refine c_t (by rw[hr.good];rfl) ?_;rw[hr.rlb];exact fin _ _ _ _ [] hr (by omega) (by simp) (by omega) hk0 (by rw[eF,a,b,c,e];rfl)
  ·have h:=jac h;refine c_t (by rw[hr.good];rfl) ?_;rw[hr.rlb];obtain rfl:i=ms.size:=by omega
   exact hf d m cap k (jap.2 hr) (by rw[jck (KH _)];simp[fdGo])
def s66(p:Pic)(n:Int):Bool×Value:=(decide (p.s.size≤900∧0≤p.d∧p.d≤900∧pdGo (jaq (bz p.s))≤p.d∧0≤p.w∧p.w≤900∧ -9223372036854775808≤n∧n≤9223372036854775807∧fdOK (bz p.s) p.w p.d.toNat n=true),.string (sz (jds (bz p.s) p.w p.d.toNat n)))
def lm(b:Int)(a:Px.Pic):Int:=endZ (jaq (ji a)) (bz (sz (ll b (Pic.d a)))) (Pic.w a) (Pic.d a).toNat
def qv(c f:Int)(a:J)(b:Nat)(e:Px.Pic):Prop:=zc a b=zc [] 0++fdGo (lm c e) (if hasZ (ji e) 42=true then 42 else 32) f (dw c) (fw 0 (bz (ju e))) ((ji e).drop (Int.toNat 0)) (fw 0 (bz (sz (ll c (Pic.d e))))) 0
def qw(a c:Int)(b:Px.Pic):Bool:=S66_0.toLSpec.pre (a,(Pic.s b,(Pic.n b,(Pic.w b,(Pic.d b,(Pic.q b,(Pic.g b,(sz (ll a (Pic.d b)),(lm a b,(if hasZ (ji b) 42=true then(42:Int)else(32:Int),(ju b,(c,(([]:J),(0,(0,((0:Int),(0:Int)))))))))))))))))
def qx(a:J)(b:Nat)(c:Value→Prop):Prop:=br (ja8 a 0 b) (.string (ja5 a 0 b)) c
def jj(a b c d e f:Int):Bool:=decide (a≤b∧b≤c∧d≤e∧e≤f)
theorem v66(p:Pic)(n:Int)(R:Value→Prop):jax Tryz.prog G11 (oneL 0 S66_0.hA) Tryz.f135 [Enc.enc p,Enc.enc n] (fun _=>none) 0 (fun v _ _=>R v)=(bif jj 0 (Pic.d p) 1000 (-9223372036854775808) n 9223372036854775807 then bif decide ((Pic.s p).size≤900∧(sz (ll n (Pic.d p))).size≤1000∧ldc (jaq (ji p))≤(sz (ll n (Pic.d p))).size∧0≤Pic.d p∧Pic.d p≤1000)then fq (fy (Pic.s p)) (Pic.s p) (go (decide (lm n p>0)) (bv (lm n p==Pic.w p) (bif n==0 then co (ju p) &&true else true) true) true (decide (lm n p>0) && (lm n p==Pic.w p&& (n==0&& !hasZ (bz (ju p)) 100))) (br (ia 0 (Pic.w p) 1000) (S (sz (rep1 (if hasZ (ji p) 42=true then 42 else 32) (Pic.w p).toNat))) R) (i6 (co (Pic.s p)) (bv (!hasZ (ji p) 90) (co (Pic.s p) && (bif !hasZ (ji p) 42 then co (ju p) &&true else true)) true) (!hasZ (ji p) 90&& (!hasZ (ji p) 42&&hasZ (bz (ju p)) 99)) (bif co (Pic.s p)then bif qw n (drZ (ji p)) p then∀a:J,∀b:Nat,∀c:Nat,Int→jcp a b c=true→qv n (drZ (ji p)) a b p→jh a 260 (bif drZ (ji p) !=0 then ja (Nat.ble (0+fx (lm n p-1)*1+1) a.length) (cm (lm n p) 1) (b:Int) (qx (setL a (0+fx (lm n p-1)*1) [.int .u8 (sgZ (drZ (ji p)) (dw n))]) b R) False else qx a b R)else False else False) (bif qw n 0 p then∀a:J,∀b:Nat,∀c:Nat,Int→jcp a b c=true→qv n 0 a b p→ko true (ja8 a 0 b) a 260 (S (ja5 a 0 b)) R else False))) False else False else False):=by kernel_rfl
theorem ok66:jan Tryz.prog 135 (sp2 s66):=by
 refine jcz ok_G11 hmix (.m Tryz.func135) l66_0 jag fun p n hc=> ?_
 rw[ja4,v66];delta av co fq go i6 br ko fw ll ji ju dw lm qv qw dx jh qx cl ja fx cm bv ia fy jj;have hc:(p.s.size≤900∧0≤p.d∧p.d≤900∧pdGo (jaq (bz p.s))≤p.d∧0≤p.w∧p.w≤900∧ -9223372036854775808≤n∧n≤9223372036854775807∧fdOK (bz p.s) p.w p.d.toNat n=true):=jab hc
 try dsimp only[s66]
 obtain⟨h1,h2,h3,h4,h5,h6,h7,h8,hok⟩:=hc;have hml:(sz (jaq (bz p.s))).size=p.s.size:=by rw[jco,jer,jak]
 have hB:=jc7 (jfh (bz p.s));have hdg:=jfm p.d.toNat (n.natAbs:Int);have hds:bz (sz (digZ n.natAbs p.d.toNat))=digZ n.natAbs p.d.toNat:=jc7 (jhi hdg);have hdl:(sz (digZ n.natAbs p.d.toNat)).size=p.d.toNat:=by rw[jco,jd0]
 have hld:=ldc_le (jaq (bz p.s));have hz0:zc [] 0=[]:=rfl;rw[hB,hds];have dd:decide (p.s.size≤9223372036854775807)=true:=jaa (by omega);have dm:decide ((sz (jaq (bz p.s))).size≤9223372036854775807)=true:=jaa (by omega)
 have pre:∀dr:Int,S66_0.pre (n,p.s,p.n,p.w,p.d,p.q,p.g,sz (digZ n.natAbs p.d.toNat),endZ (jaq (bz p.s)) (digZ n.natAbs p.d.toNat) p.w p.d.toNat,(if hasZ (bz p.s) 42=true then 42 else 32),sz (jaq (bz p.s)),dr,[],0,0,0,0)=true:=by
  intro dr;simp only[S66_0,jaf,jae,hds,hB,Int.toNat_zero,List.drop_zero];exact⟨rfl,hdg,KH _,by omega,by omega,by omega,KH _,by omega,by omega,by omega⟩
 refine c_t (jaa (by omega)) (c_t (jaa (by omega)) (c_t dd (c_t (jaa (by omega)) (c_t ?_ (Ka (fun a=> ?_) (fun a=> ?_))))))
 ·rw[dm];simp
 ·have a':fdBl (bz p.s) p.w p.d.toNat n=true:=a;refine c_t (jaa (by omega)) ?_;rw[jds,a',cond_true];rfl
 have a':fdBl (bz p.s) p.w p.d.toNat n=false:=a
 have e1:jds (bz p.s) p.w p.d.toNat n=bif fdDr (bz p.s) !=0 then(je5 (bz p.s) p.w p.d.toNat n).set (fdLe (bz p.s) p.w p.d.toNat n-1).toNat (sgZ (fdDr (bz p.s)) (decide (n<0)))else je5 (bz p.s) p.w p.d.toNat n:=by
  rw[jds,a',cond_false]
 rw[e1];refine c_t (by rw[dd,dm];simp) (Ka (fun b=>c_t dd (c_t (pre _) (fun d' m' cap' k' g1 g2=> ?_))) (fun b=>c_t (pre _) (fun d' m' cap' k' g1 g2=> ?_)))
 ·have eD:fdDr (bz p.s)=drZ (bz p.s):=by rw[fdDr,b,cond_true]
  have g1:=jap.1 g1;have hzl:=jbe g1
  have g2:zc d' m'=je5 (bz p.s) p.w p.d.toNat n:=by
   rw[g2,jeb,jeb,jeb,je5,eD];rfl
  rw[eD];refine c_t (by rw[jba g1.plain];rfl) (fun _=>Ka (fun c=> ?_) (fun c=> ?_))
  ·have hx:1≤fdLe (bz p.s) p.w p.d.toNat n∧fdLe (bz p.s) p.w p.d.toNat n≤(je5 (bz p.s) p.w p.d.toNat n).length:=by
    have hc0:(drZ (bz p.s)==0)=false:=by simpa using c
    simpa only[fdOK,a',eD,hc0,Bool.false_or,jae]using hok
   rw[←g2,hzl]at hx;have hcp:=g1.cap;have hle:=g1.le;have ele:endZ (jaq (bz p.s)) (digZ n.natAbs p.d.toNat) p.w p.d.toNat=fdLe (bz p.s) p.w p.d.toNat n:=rfl;rw[ele,w64 (by omega)];obtain⟨q1,q2,q3⟩:=g1.set (sgZ (drZ (bz p.s)) (decide (n<0))) (i:=(fdLe (bz p.s) p.w p.d.toNat n-1).toNat) (by omega);refine c_t (jaa (by omega)) (c_t q3 (c_t q1.str.1 ?_));rw[q1.str.2,q2,g2,c,cond_true]
  ·refine c_t g1.str.1 ?_;rw[g1.str.2,g2,c,cond_false]
 ·have eD:fdDr (bz p.s)=0:=by rw[fdDr,b,cond_false]
  have g1:=jap.1 g1
  have g2:zc d' m'=je5 (bz p.s) p.w p.d.toNat n:=by
   rw[g2,jeb,jeb,jeb,je5,eD];rfl
  refine c_t (by rw[jba g1.plain];rfl) (fun _=>c_t g1.str.1 ?_);rw[g1.str.2,g2,eD];rfl
theorem drGo_none(s:O):∀t:O,(∀c∈t,hasZ [36,83,43,45] c=false)→drGo s t=0
 | [],_=>rfl
 | c::r,h=>by
  have h1:=h c (Kh ..);rw[drGo,Kc (by simp[h1])];exact drGo_none s r fun x hx=>h x (Kj _ hx)
theorem jln(a b:O)(c:Int):cntZ (a++b) c=cntZ a c+cntZ b c:=by
 simp[cntZ]
theorem cnt_none{t:O}{c:Int}(h:c∉t):cntZ t c=0:=by
 simp only[cntZ,KF,List.filter_eq_nil_iff];intro x hx;simp;rintro rfl;exact h hx
theorem dr_app(b t:O)(ht:∀c∈t,hasZ [36,83,43,45] c=false):∀r,drGo (b++t) (r++t)=drGo b r
 | []=>by
  rw[List.nil_append,drGo_none _ _ ht];rfl
 | c::r=>by
  rw[List.cons_append,drGo,drGo,dr_app b t ht r];cases hc:hasZ [36,83,43,45] c with
  | false=>simp
  | true=>
   have:c∉t:=fun hx=>by rw[ht c hx]at hc;cases hc
   rw[jln,cnt_none this];simp
theorem je9(s:O):∃t,s=jam s++t∧(t=[]∧crZ s=false∨(t=[67,82]∨t=[68,66])∧crZ s=true):=by
 unfold jam;by_cases h:crZ s=true
 ·rw[Kd h];refine⟨s.drop (s.length-2),(KC ..).symm,.inr ⟨?_,h⟩⟩;simp only[crZ,jaf,Ko,jae]at h;exact h.2
 ·rw[Kc h];exact⟨[],by simp,.inl ⟨rfl,by simpa using h⟩⟩
theorem dr_body(s:O):drZ s=drZ (jam s):=by
 obtain⟨t,h,ht⟩:=je9 s
 have:=dr_app (jam s) t (by
  intro c hc;rcases ht with⟨rfl,_⟩ | ⟨rfl | rfl,_⟩
  ·cases hc
  ·rcases Kg.1 hc with rfl | hc
   ·decide
   ·rcases Kg.1 hc with rfl | hc
    ·decide
    ·cases hc
  ·rcases Kg.1 hc with rfl | hc
   ·decide
   ·rcases Kg.1 hc with rfl | hc
    ·decide
    ·cases hc) (jam s)
 rw[←h]at this;exact this
theorem jir(s:O):∀r:O,drGo s r=0∨(hasZ [36,83,43,45] (drGo s r)=true∧drGo s r∈r)
 | []=> .inl rfl
 | c::r=>by
  rw[drGo];split
  ·rename_i h;exact .inr ⟨h.1,Kh ..⟩
  ·rcases jir s r with h | ⟨h1,h2⟩
   ·exact .inl h
   ·exact .inr ⟨h1,Kj _ h2⟩
theorem jie:∀(r:O)(bh pt:Bool)(dg:Int),99∈r→(ldGo r true bh pt dg).1=false
 | m::r,bh,pt,dg,h=>by
  rw[ldGo];rcases Kg.1 h with rfl | h
  ·rfl
  ·cases m==118 with
   | true=>exact jie r _ _ _ h
   | false=>
    cases m==100 with
    | true=>exact jie r _ _ _ h
    | false=>
     cases m==99 with
     | true=>rfl
     | false=>exact jie r _ _ _ h
theorem jll(s:O)(dr:Int):∀(r:O)(i f l:Int),0<i→(f<0∨1≤f)→(df1 s dr r i f l).1=true→(dr∈r∨(1≤f∧1≤l))→1≤(df1 s dr r i f l).2.1∧1≤(df1 s dr r i f l).2.2
 | [],i,f,l,hi,hf,hk,h=>by
  rcases h with h | h
  ·cases h
  ·exact h
 | c::r,i,f,l,hi,hf,hk,h=>by
  rw[df1]at hk ⊢;cases hc:(c==dr)with
  | true=>
   rw[hc,cond_true]at hk;rw[cond_true];exact jll s dr r _ _ _ (by omega) (by split<;>omega) hk (.inr ⟨by split<;>omega,by omega⟩)
  | false=>
   have hne:c≠dr:=by simpa using hc
   rw[hc,cond_false]at hk;rw[cond_false];cases h2:(hasZ [36,83,43,45] c&&decide (2≤cntZ s c))with
   | true=>rw[h2]at hk;cases hk
   | false=>
    rw[h2,cond_false]at hk;rw[cond_false];refine jll s dr r _ _ _ (by omega) hf hk ?_;rcases h with h | h
    ·rcases Kg.1 h with h | h
     ·exact absurd h.symm hne
     ·exact .inl h
    ·exact .inr h
theorem drifts_head{c:Int}{r:O}(h:jct (c::r)=true)(h0:drZ (c::r)≠0):c≠86:=by
 rintro rfl;simp only[jct,Ko,K4,jaf]at h;rcases h with h | ⟨h1,h2⟩
 ·exact h0 h
 have hd:=(jir (86::r) (86::r)).resolve_left h0;have hd:hasZ [36,83,43,45] (drZ (86::r))=true∧drZ (86::r)∈86::r:=hd;generalize hg:drZ (86::r)=dr at*
 have hne:((86:Int)==dr)=false:=by
  cases e:((86:Int)==dr)with
  | false=>rfl
  | true=>rw[←eq_of_beq e]at hd;exact absurd hd.1 (by decide)
 have hs:hasZ [36,83,43,45] 86=false:=by decide
 rw[df1,hne,cond_false,hs,Bool.false_and,cond_false]at h1 h2
 have hm:dr∈r:=by
  rcases Kg.1 hd.2 with rfl | h
  ·simp at hne
  ·exact h
 obtain⟨g1,g2⟩:=jll (86::r) dr r (0+1) (-1) (-1) (by omega) (by omega) h1 (.inl hm);generalize (df1 (86::r) dr r (0+1) (-1) (-1)).2.2=l at*;generalize (df1 (86::r) dr r (0+1) (-1) (-1)).2.1=f at*;obtain⟨k,hk⟩:∃k,l.toNat=k+1:=⟨l.toNat-1,by omega⟩
 rw[hk,List.take_succ_cons,d2Go,jaa (show 0<f by omega)]at h2;simp at h2
def nv(l:O):Nat:=(l.filter (· !=118)).length
theorem je1(m:Int)(r:O):nv (m::r)=(if m=118 then 0 else 1)+nv r:=by
 unfold nv;by_cases h:m=118
 ·simp[h]
 ·simp[h];omega
theorem nv_app(a b:O):nv (a++b)=nv a+nv b:=by simp[nv]
theorem jma:∀(ms ds:O)(o:Int),o≤je6 ms ds o∧je6 ms ds o≤o+nv ms
 | [],ds,o=>by simp[je6,nv]
 | m::r,ds,o=>by
  rw[je6,je1];cases h:((m==118 || m==100) || (m==99&&ds.headD 0 !=48))with
  | true=>rw[cond_true];split<;>omega
  | false=>
   rw[cond_false];have:=jma r (bif m==99 then ds.tail else ds) (o+1);have hm:m≠118:=by rintro rfl;simp at h
   rw[Kc hm];omega
theorem jil(le fill dr:Int)(neg:Bool):∀(ms sp ds:O)(o:Int),(fdGo le fill dr neg ms sp ds o).length=nv ms
 | [],_,_,_=>rfl
 | m::r,sp,ds,o=>by
  rw[fdGo,je1];cases h1:(m==100)with
  | true=>
   have:=eq_of_beq h1;subst this;rw[cond_true,List.length_cons,jil,Kc (by decide)];omega
  | false=>
   cases h2:(m==99)with
   | true=>
    have:=eq_of_beq h2;subst this;rw[cond_false,cond_true,List.length_cons,jil,Kc (by decide)];omega
   | false=>
    cases h3:(m==105)with
    | true=>
     have:=eq_of_beq h3;subst this;rw[cond_false,cond_false,cond_true,List.length_cons,jil,Kc (by decide)];omega
    | false=>
     cases h4:(m !=118)with
     | true=>
      have h4:m≠118:=by simpa using h4
      rw[cond_false,cond_false,cond_false,cond_true,List.length_cons,jil,Kc h4];omega
     | false=>
      have h4:m=118:=by simpa using h4
      rw[cond_false,cond_false,cond_false,cond_false,jil,Kd h4];omega
theorem jl3{dr:Int}(hd:dr=0∨hasZ [36,83,43,45] dr=true)(seen:Bool)(c:Int):mk1 dr seen c=118↔c=86:=by
 constructor
 ·intro h;unfold mk1 at h;cases h1:hasZ [57,89,84,73,82] c with
  | true=>rw[h1]at h;cases h
  | false=>
   rw[h1,cond_false]at h;cases h2:(hasZ [90,42] c || (dr !=0&& (c==dr&&seen)))with
   | true=>rw[h2]at h;cases h
   | false=>
    rw[h2,cond_false]at h;cases h3:(c==86)with
    | true=>exact eq_of_beq h3
    | false=>
     rw[h3,cond_false]at h;cases h4:(c==36) <;>cases h5:hasZ [83,43,45] c<;>rw[h4,h5]at h<;>exact absurd h (by decide)
 ·rintro rfl;unfold mk1;have h1:hasZ [57,89,84,73,82] 86=false:=by decide
  have h2:hasZ [90,42] 86=false:=by decide
  have h3:((86:Int)==dr)=false:=by
   cases e:((86:Int)==dr)with
   | false=>rfl
   | true=>
    rw[←eq_of_beq e]at hd;rcases hd with hd | hd
    ·cases hd
    ·exact absurd hd (by decide)
  rw[h1,h2,h3];simp
theorem mk_nv{dr:Int}(hd:dr=0∨hasZ [36,83,43,45] dr=true):∀(l:O)(seen:Bool),nv (mkGo dr seen l)+cntZ l 86=l.length
 | [],_=>rfl
 | c::r,seen=>by
  have:=mk_nv hd r (seen || (dr !=0&&c==dr));rw[mkGo,je1,List.length_cons]
  have hc:cntZ (c::r) 86=(if c=86 then 1 else 0)+cntZ r 86:=by
   unfold cntZ;by_cases h:c=86
   ·simp[h];omega
   ·simp[h]
  rw[hc];have hm:=jl3 hd seen c;by_cases h:c=86
  ·rw[Kd h,Kd (hm.2 h)];omega
  ·rw[Kc h,Kc fun e=>h (hm.1 e)];omega
theorem jhp(s:O):nv (jaq s)+cntZ s 86=s.length:=by
 obtain⟨t,h,ht⟩:=je9 s;have h1:=mk_nv (dr:=drZ (jam s)) ((jir _ _).imp id And.left) (jam s) false;unfold jaq;rw[nv_app]
 have e:cntZ s 86=cntZ (jam s) 86+cntZ t 86:=by
  conv=>lhs;rw[h]
  exact jln ..
 have el:s.length=(jam s).length+t.length:=by
  conv=>lhs;rw[h]
  simp
 rcases ht with⟨rfl,hc⟩ | ⟨rfl | rfl,hc⟩
 ·rw[Kc (by simp[hc])];have:cntZ [] 86=0:=rfl;have:nv []=0:=rfl;simp only[List.length_nil]at el;omega
 ·rw[Kd hc];have:cntZ [67,82] 86=0:=by decide
  have:nv [115,115]=2:=by decide
  simp only[List.length_cons,List.length_nil]at el;omega
 ·rw[Kd hc];have:cntZ [68,66] 86=0:=by decide
  have:nv [115,115]=2:=by decide
  simp only[List.length_cons,List.length_nil]at el;omega
theorem field_ok{s:O}(h:NumP s)(k:Nat)(n:Int):fdOK s ((s.length:Int)-cntZ s 86) k n=true:=by
 have hnv:=jhp s;have hw:(s.length:Int)-cntZ s 86=nv (jaq s):=by omega
 rw[hw];unfold fdOK;cases hb:fdBl s (nv (jaq s)) k n with
 | true=>rfl
 | false=>
  rw[Bool.false_or];cases h0:(fdDr s==0)with
  | true=>rfl
  | false=>
   rw[Bool.false_or,jae,je5,jil];have h0:fdDr s≠0:=by simpa using h0
   unfold fdDr at h0;cases hq:(!hasZ s 90&& (!hasZ s 42&&hasZ (jaq s) 99))with
   | false=>rw[hq]at h0;exact absurd rfl h0
   | true=>
    rw[hq,cond_true]at h0;simp only[jaf,Ks]at hq;obtain⟨q1,q2,q3⟩:=hq;rw[dr_body]at h0;obtain⟨t,ht,ht2⟩:=je9 s;have htm:(if crZ s=true then([115,115]:O)else [])=[]∨(if crZ s=true then([115,115]:O)else [])=[115,115]:=by split<;>simp
    have hld:=h.ld;have hdr:=h.dr;have hms:jaq s=mkGo (drZ (jam s)) false (jam s)++(if crZ s=true then [115,115]else []):=rfl;generalize (if crZ s=true then([115,115]:O)else [])=tm at*
    have h99:99∈mkGo (drZ (jam s)) false (jam s):=by
     have:=jbj.1 q3;rw[hms,Kq]at this;rcases this with h | h
     ·exact h
     ·rcases htm with rfl | rfl
      ·cases h
      ·exact absurd h (by decide)
    have hz:∀c∈jam s,hasZ [90,42] c=false:=by
     intro c hc;have hcs:c∈s:=by rw[ht];exact List.mem_append_left _ hc
     cases e:hasZ [90,42] c with
     | false=>rfl
     | true=>
      have:=jbj.1 e;rcases Kg.1 this with rfl | this
      ·rw[jbj.2 hcs]at q1;cases q1
      ·rcases Kg.1 this with rfl | this
       ·rw[jbj.2 hcs]at q2;cases q2
       ·cases this
    cases hbs:jam s with
    | nil=>rw[hbs]at h0;exact absurd rfl h0
    | cons c r=>
     rw[hbs]at h0 hms h99 hz hld hdr;have hv:=drifts_head hdr h0;have hsg:=(jir (c::r) (c::r)).resolve_left h0;have hsg:hasZ [36,83,43,45] (drZ (c::r))=true:=hsg.1;generalize drZ (c::r)=dr at*;rw[mkGo]at h99 hms hld;have hcz:=hz c (Kh ..);have h118:mk1 dr false c≠118:=fun e=>hv ((jl3 (.inr hsg) false c).1 e)
     have hn99:mk1 dr false c≠99:=by
      unfold mk1;rw[hcz];cases hasZ [57,89,84,73,82] c with
      | true=>rw[cond_true];decide
      | false=>cases dr !=0<;>cases c==dr<;>cases c==86<;>cases c==36<;>cases hasZ [83,43,45] c<;>decide
     have h99r:99∈mkGo dr (false || (dr !=0&&c==dr)) r:=by
      rcases Kg.1 h99 with e | e
      ·exact absurd e.symm hn99
      ·exact e
     have hn100:mk1 dr false c≠100:=by
      intro e;rw[e]at hld;generalize mkGo dr (false || (dr !=0&&c==dr)) r=R at*
      have key:(ldGo (100::R) false false false 0).1=false:=by
       rw[ldGo];exact jie R false false (0+1) h99r
      unfold jdw at hld;rw[key]at hld;simp at hld
     have hm0:∀ds:O,((mk1 dr false c==118 || mk1 dr false c==100) || (mk1 dr false c==99&&ds.headD 0 !=48))=false:=by
      intro ds;simp[h118,hn100,hn99]
     have hnv1:1≤nv (jaq s):=by
      rw[hms,List.cons_append,je1,Kc h118];omega
     unfold fdLe endZ;rw[q3,Bool.not_true,cond_false];cases(!hasZ (jaq s) 100&&decide (digZ n.natAbs k=rep1 48 k))with
     | true=>rw[cond_true];omega
     | false=>
      rw[cond_false];have g1:=jma (jaq s) (digZ n.natAbs k) 0;refine⟨?_,by omega⟩;rw[hms,List.cons_append,je6,hm0,cond_false];have:=(jma (mkGo dr (false || (dr !=0&&c==dr)) r++tm) (bif mk1 dr false c==99 then(digZ n.natAbs k).tail else digZ n.natAbs k) (0+1)).1;omega
theorem jk5{l:O}(hl:IsB (pS l)∧(pS l).length≤32)(h:pN l=true)(n:Int):IsB (pS l)∧(pS l).length≤32∧pdGo (jaq (pS l))=pD l∧0≤pW l∧pW l≤32∧fdOK (pS l) (pW l) (pD l).toNat n=true:=by
 have hv:=jdg h;have hnp:=jh9 h;have hS:pS l=exZ l:=by rw[pS,Kd hv]
 have hW:pW l=(exZ l).length-cntZ (exZ l) 86:=by rw[pW,Kd hv,hnp.nch];rfl
 have hD:pD l=pdGo (jaq (exZ l)):=by rw[pD,Kd h]
 obtain⟨g1,g2⟩:=hl;have hc:=jjb (exZ l) 86;rw[hS]at g1 g2 ⊢;rw[hW];exact⟨g1,g2,hD.symm,by omega,by omega,field_ok hnp _ _⟩
def G12:Env:=(((Env.nil.add 134 (sp1 s29)).add 133 (sp1 s69)).add 132 (sp1 s30)).add 135 (sp2 s66)
theorem ok_G12:ja3 Tryz.prog G12:=jaj (jaj (jaj (jaj jav ok29) ok69) ok30) ok66
def edE(l:O)(q:Int):Int:=if pN l=true then(if 0≤q∧q≤9 then 0 else 1)else 30
def edS(l:O)(n q:Int):O:=if pN l=true∧0≤q∧q≤9 then jds (pS l) (pW l) (pD l).toNat (cuN n q (pQ l) (pD l) (pG l))else []
def edF(l:O)(n q:Int):Bool:=if pN l=true∧0≤q∧q≤9 then cuF n q (pQ l) (pD l) (pG l)else false
def rdD(c:Int):Int:=bif unK c then unD c else bif decide (c≥48) &&decide (c≤57)then c-48 else 0
def rdGo:O→O→Int→Int
 | [],_,a=>a
 | m::r,s,a=>bif m==118 then rdGo r s a else rdGo r s.tail (bif m==100 || m==99 then a*10+rdD (s.headD 0)else a)
theorem jmu(c:Int):0≤rdD c∧rdD c≤9:=by
 unfold rdD;cases h:unK c with
 | true=>
  have e:unD c=idxZ punchedZ c%10:=by rw[unD,h,Kd rfl]
  rw[cond_true,e];omega
 | false=>
  rw[cond_false];cases h1:decide (c≥48) <;>cases h2:decide (c≤57) <;>simp at h1 h2<;>simp<;>omega
theorem pu_rng(d:Int)(m:Bool):0≤puZ d m∧puZ d m<256:=by
 unfold puZ;split
 ·have:∀x∈punchedZ,0≤x∧x<256:=by decide
  rw[List.getD_eq_getElem?_getD];cases h:punchedZ[(if m=true then d+10 else d).toNat]? with
  | none=>simp
  | some x=>exact this x (List.mem_of_getElem? h)
 ·simp
theorem hd_isB{l:O}(h:IsB l):0≤l.headD 0∧l.headD 0<256:=by
 cases l with
 | nil=>simp
 | cons a r=>exact h a (Kh ..)
theorem tl_isB{l:O}(h:IsB l):IsB l.tail:=fun x hx=>h x (List.mem_of_mem_tail hx)
theorem jhx{a:Int}{l:O}(ha:0≤a∧a<256)(h:IsB l):IsB (a::l):=fun x hx=>by
 rcases Kg.1 hx with rfl | hx
 ·exact ha
 ·exact h x hx
theorem fm_rng{c d:Int}(m:Bool)(h:0≤d∧d<256):0≤fmZ c d m∧fmZ c d m<256:=by
 unfold fmZ;split
 ·omega
 ·split
  ·exact pu_rng _ _
  ·exact h
theorem sg_rng(c:Int)(m:Bool):0≤sgZ c m∧sgZ c m<256:=by
 unfold sgZ;split
 ·omega
 ·split
  ·split<;>omega
  ·split<;>omega
theorem ss_rng{c:Int}(dr:Int)(m:Bool)(h:0≤c∧c<256):0≤ssZ c dr m∧ssZ c dr m<256:=by
 unfold ssZ;have:=sg_rng c m;cases(dr !=0&&c==dr) <;>cases hasZ [67,82,68,66] c<;>cases m<;>simp<;>omega
theorem ji9{le fill dr:Int}{neg:Bool}(hf:0≤fill∧fill<256):∀(ms sp ds:O)(o:Int),IsB sp→IsB ds→IsB (fdGo le fill dr neg ms sp ds o)
 | [],_,_,_,_,_=>IsB.nil
 | m::r,sp,ds,o,hs,hd=>by
  rw[fdGo];have h1:=hd_isB hs;have h2:=hd_isB hd;cases m==100 with
  | true=>exact jhx (fm_rng _ h2) (ji9 hf _ _ _ _ (tl_isB hs) (tl_isB hd))
  | false=>
   cases m==99 with
   | true=>exact jhx (by cases decide (o<le) <;>simp only[cond_true,cond_false] <;>omega) (ji9 hf _ _ _ _ (tl_isB hs) (tl_isB hd))
   | false=>
    cases m==105 with
    | true=>exact jhx (by cases sp.headD 0==66<;>cases decide (o<le) <;>simp only[cond_true,cond_false] <;>omega) (ji9 hf _ _ _ _ (tl_isB hs) hd)
    | false=>
     cases m !=118 with
     | true=>exact jhx (ss_rng _ _ h1) (ji9 hf _ _ _ _ (tl_isB hs) hd)
     | false=>exact ji9 hf _ _ _ _ (tl_isB hs) hd
theorem fl_rng(sp:O):0≤fdFl sp∧fdFl sp<256:=by unfold fdFl;split<;>omega
theorem jik{sp:O}(h:IsB sp)(w:Int)(k:Nat)(n:Int):IsB (jds sp w k n):=by
 have h1:IsB (je5 sp w k n):=ji9 (fl_rng sp) _ _ _ _ h (jhi (jfm _ _));unfold jds;cases fdBl sp w k n with
 | true=>exact rep_isB _ _ (fl_rng sp)
 | false=>
  cases fdDr sp !=0 with
  | true=>
   intro x hx;rcases List.mem_or_eq_of_mem_set hx with hx | rfl
   ·exact h1 x hx
   ·exact sg_rng _ _
  | false=>exact h1
theorem jgm:∀(ms s:O)(a:Int)(k:Nat),0≤a→a<tenZ k→(k:Int)+pdGo ms≤9→0≤rdGo ms s a∧rdGo ms s a<1000000000
 | [],s,a,k,h0,h1,h2=>by
  have:=jjg (n:=k) (by simp only[pdGo]at h2;omega);rw[rdGo];omega
 | m::r,s,a,k,h0,h1,h2=>by
  have nn:=jnp r;rw[pdGo]at h2;rw[rdGo];cases h:(m==118)with
  | true=>
   have q:isP 118=false:=by decide
   rw[eq_of_beq h,q,cond_false,Int.zero_add]at h2;exact jgm r s a k h0 h1 h2
  | false=>
   rw[cond_false];cases hP:(m==100 || m==99)with
   | true=>
    have hP:isP m=true:=hP;rw[hP,cond_true]at h2;have rr:=jmu (s.headD 0);have tp:tenZ (k+1)=tenZ k*10:=by rw[tenZ_add];rfl
    rw[cond_true];exact jgm r _ _ (k+1) (by omega) (by omega) (by omega)
   | false=>
    have hP:isP m=false:=hP;rw[hP,cond_false,Int.zero_add]at h2;exact jgm r _ a k h0 h1 h2
def rdA(l t:O):Int:=rdGo (jaq (pS l)) t 0
def fdN(l:O)(n:Int):O:=jds (pS l) (pW l) (pD l).toNat n
def rdV(l t:O):Int×Int:=if pN l=true then(if(t.length:Int)=pW l then(if fdN l (rdA l t)=t then(rdA l t,0)else if pG l=true∧rdA l t>0∧fdN l (0-rdA l t)=t then(0-rdA l t,0)else(0,31))else(0,31))else(0,30)
theorem jn0{l:O}(h:pN l=true):pW l=nv (jaq (pS l)):=by
 have h1:=jhp (pS l);have h2:pS l=exZ l:=by rw[pS,Kd (jdg h)]
 have hW:pW l=(exZ l).length-cntZ (exZ l) 86:=by rw[pW,Kd (jdg h),(jh9 h).nch];rfl
 rw[h2]at h1 ⊢;rw[hW];omega
def onGo:O→O→Bool
 | _,[]=>true
 | [],_::_=>false
 | c::r,b::s=>oneZ c b&&onGo r s
def hoZ(l t:O):Bool:=if vOK l=true then(if pN l=true then decide ((rdV l t).2=0)else(decide ((t.length:Int)=pW l) &&onGo (pS l) t))else false
def flZ(l t:O):O:=if(t.length:Int)>pW l then t.take (pW l).toNat else t++rep1 32 (pW l-t.length).toNat
def fiE(l:O):Int:=if vOK l=true∧pN l=false then 0 else 30
def fiS(l t:O):O:=if vOK l=true∧pN l=false then flZ l t else []
def fiF(l t:O):Bool:=if vOK l=true∧pN l=false then hoZ l (flZ l t)else false
def zeS(l:O):O:=if vOK l=true then(if pN l=true then fdN l 0 else rep1 32 (pW l).toNat)else []
theorem pCh{l:O}(h:vOK l=true)(hn:pN l=false):pW l=(pS l).length:=by
 have hc:jfd (exZ l)=true:=by
  simp only[vOK,jaf,Ko]at h;simp only[pN]at hn;rcases h with⟨h1,h2 | h2⟩
  ·exact h2
  ·rw[h1,h2]at hn;cases hn
 rw[pW,pS,Kd h,Kd h,hc];rfl
theorem jkj{s:Y}:0≤pW (bz s)∧pW (bz s)≤32:=by
 have:=jl9 s;have hc:=jjb (exZ (bz s)) 86;unfold pW;split
 ·split<;>omega
 ·omega
def V23_0:Y×Y×Bool×Int×Int×Int×Bool×Int×Y×Int×Int→J:=fun(s,z,zb,z1,z2,z3,zg,a,ms,o,i)=> [S s,.pointer (some ⟨7,0,some 0⟩),I a,S ms,I o,I i]
def B23_0:Y×Y×Bool×Int×Int×Int×Bool×Int×Y×Int×Int→Ya:=fun(s,z,zb,z1,z2,z3,zg,a,ms,o,i)=> [some ⟨[S z,B zb,I z1,I z2,I z3,B zg],55,true⟩]
def S23_0:LSpec (Y×Y×Bool×Int×Int×Int×Bool×Int×Y×Int×Int) where
 live:=[1,6,8,9,10,11]
 mid:=[7]
 n:=120
 dec vs bs:=match vs,bs with | [.string s,.pointer (some ⟨7,0,some 0⟩),.int .i64 a,.string ms,.int .i64 o,.int .i64 i],[some ⟨[.string z,.bool zb,.int .i64 z1,.int .i64 z2,.int .i64 z3,.bool zg],55,true⟩]=>some (s,z,zb,z1,z2,z3,zg,a,ms,o,i) | _,_=>none
 pre:=fun(s,z,zb,z1,z2,z3,zg,a,ms,o,i)=>decide (0≤i∧i≤ms.size∧ms.size≤1000∧0≤o∧o+nv ((bz ms).drop i.toNat)≤s.size∧s.size≤1000∧0≤a∧pdGo ((bz ms).drop i.toNat)≤9∧a<tenZ (9-pdGo ((bz ms).drop i.toNat)).toNat)
 fin:=fun(s,z,zb,z1,z2,z3,zg,a,ms,o,i) Z=>∀o',Z (.exit 0) [S s,.pointer (some ⟨7,0,some 0⟩),I (rdGo ((bz ms).drop i.toNat) ((bz s).drop o.toNat) a),S ms,I o',I ms.size] [some ⟨[S z,B zb,I z1,I z2,I z3,B zg],55,true⟩]
theorem r23_0(s:Y)(z:Y)(zb:Bool)(z1:Int)(z2:Int)(z3:Int)(zg:Bool)(a:Int)(ms:Y)(o:Int)(i:Int)(jk:Tmps)(R:Exit→J→Ya→Prop):(jbn Tryz.prog G12 noL Tryz.f87.ntmps (ja2 Tryz.f87 0) (tl S23_0.live (V23_0 (s,z,zb,z1,z2,z3,zg,a,ms,o,i)) jk) (ml S23_0.mid (B23_0 (s,z,zb,z1,z2,z3,zg,a,ms,o,i))) S23_0.n fun e t' m' _=>R e (List.map t' S23_0.live) (List.map m' S23_0.mid))=(iw (bk ms i) (aw ms i 118) ms R i [g8 zb zg z z1 z2 z3] (ak a::S ms::bp o i) 0 (R .normal (S s::ar 7::ak a::S ms::ct o i) [g8 zb zg z z1 z2 z3]) (i6 (bk ms i) (aw ms i 100 || bk ms i&&true) (aw ms i 100 || aw ms i 99) (gk (unK (au s o)) s o (R .normal [S s,ar 7,I (fp (jl a 10) (unD (au s o))),S ms,az o,az i] [g8 zb zg z z1 z2 z3]) (bif j6 (decide (au s o≥48)) true s s o o then bif gx (au s o) 48 57 then bm (bk s o) R [g8 zb zg z z1 z2 z3] [S s,ar 7,k9 s a 10 o,S ms,az o,az i]else R .normal [S s,ar 7,I (jl a 10),S ms,az o,az i] [g8 zb zg z z1 z2 z3]else False)) (R .normal [S s,ar 7,ak a,S ms,az o,az i] [g8 zb zg z z1 z2 z3])) (S s) (ar 7)):=by kernel_rfl
theorem l23_0:LOKf Tryz.prog (oneL 0 S23_0.h) Tryz.f87:=by
 refine jbb (h:=S23_0.h) (by kernel_rfl) (ja6 ok_G12 hmix (by kernel_rfl) (ja0 _) S23_0 V23_0 B23_0 (fun(s,z,zb,z1,z2,z3,zg,a,ms,o,i)=>(ms.size-i).toNat) ?_ ?_ ?_)
 ·intro vs bs s h;simp only[S23_0]at h;split at h
  all_goals first | (cases h;exact⟨rfl,rfl⟩) | cases h
 ·exact fun _ _ _ h=>h
 ·intro⟨s,z,zb,z1,z2,z3,zg,a,ms,o,i⟩ jk Z hp hf;rw[r23_0];delta av al ep iw ar i6 ak g8 ax az bk gk jl bm kg j7 au k9 gx bv j6 fp aw ct bp;simp only[S23_0]at hp hf;simp only[jae]at hp;apply Ka<;>intro h
  ·have h:=jab h;obtain⟨hi0,p2,p3,p4,p5,p6,p7,p8,p9⟩:=hp;have g1:decide (0≤i∧i<(ms.size:Int))=true:=jaa (by omega);rw[jca hi0 h,je1]at p5;rw[jca hi0 h,pdGo]at p8 p9;rw[jca hi0 h,rdGo]at hf;have nn:=jnp ((bz ms).drop (i+1).toNat);have eo:o.toNat+1=(o+1).toNat:=by omega
   have fin:∀(o2 a2:Int),0≤o2→o2+nv ((bz ms).drop (i+1).toNat)≤s.size→0≤a2→a2<tenZ (9-pdGo ((bz ms).drop (i+1).toNat)).toNat→pdGo ((bz ms).drop (i+1).toNat)≤9→
     (∀o':Int,Z (.exit 0) [S s,.pointer (some ⟨7,0,some 0⟩),I (rdGo ((bz ms).drop (i+1).toNat) ((bz s).drop o2.toNat) a2),S ms,I o',I ms.size] [some ⟨[S z,B zb,I z1,I z2,I z3,B zg],55,true⟩])→
     S23_0.step V23_0 B23_0 (fun(s,z,zb,z1,z2,z3,zg,a,ms,o,i)=>(ms.size-i).toNat) (s,z,zb,z1,z2,z3,zg,a,ms,o,i) Z Exit.normal
      [S s,.pointer (some ⟨7,0,some 0⟩),I a2,S ms,I o2,I (IntKind.wrap .i64 (i+1))] [some ⟨[S z,B zb,I z1,I z2,I z3,B zg],55,true⟩]:=by
    intro o2 a2 q1 q2 q3 q4 q5 q6;rw[w64 (n:=i+1) (by omega)];exact⟨(s,z,zb,z1,z2,z3,zg,a2,ms,o2,i+1),rfl,rfl,by simp only[S23_0,jae];exact⟨by omega,by omega,p3,q1,q2,p6,q3,q5,q4⟩,by simp only;omega,q6⟩
   refine c_t g1 (Ka (fun b=> ?_) (fun b=>c_t (by rw[g1];cases jai ms i.toNat==100<;>rfl) ?_))
   ·have q:isP 118=false:=by decide
    rw[b,cond_true]at hf;rw[eq_of_beq b]at p5 p8 p9;rw[Kd rfl]at p5;rw[q,cond_false,Int.zero_add]at p8 p9;exact fin o a p4 (by omega) p7 p9 p8 hf
   ·have hne:jai ms i.toNat≠118:=by simpa using b
    rw[b,cond_false,List.tail_drop,eo]at hf;rw[Kc hne]at p5;have o1:o<s.size:=by omega
    have g3:decide (0≤o∧o<(s.size:Int))=true:=jaa (by omega);rw[w64 (n:=o+1) (by omega)];refine Ka (fun c=>c_t g3 ?_) (fun c=> ?_)
    ·have hP:isP (jai ms i.toNat)=true:=c;rw[hP,cond_true]at p8 p9;rw[c,cond_true,jca p4 o1,List.headD_cons]at hf;have rr:=jmu (jai s o.toNat)
     have tp:tenZ (9-pdGo ((bz ms).drop (i+1).toNat)).toNat=tenZ (9-(1+pdGo ((bz ms).drop (i+1).toNat))).toNat*10:=by
      rw[show(9-pdGo ((bz ms).drop (i+1).toNat)).toNat=(9-(1+pdGo ((bz ms).drop (i+1).toNat))).toNat+1 by omega,tenZ_add];rfl
     have t9:=jjg (n:=(9-(1+pdGo ((bz ms).drop (i+1).toNat))).toNat) (by omega);have F:=fin (o+1) (a*10+rdD (jai s o.toNat)) (by omega) (by omega) (by omega) (by omega) (by omega) hf;rw[w64 (n:=a*10) (by omega)];refine Ka (fun d=> ?_) (fun d=>c_t (by rw[g3];cases decide (jai s o.toNat≥48) <;>rfl) (Ka (fun e=>c_t g3 ?_) (fun e=> ?_)))
     ·have er:rdD (jai s o.toNat)=unD (jai s o.toNat):=by rw[rdD,d,cond_true]
      rw[er]at F rr;rw[w64 (by omega)];exact F
     ·have er:rdD (jai s o.toNat)=jai s o.toNat-48:=by rw[rdD,d,cond_false,e,cond_true]
      rw[er]at F rr;rw[w8 (by omega),w64 (n:=jai s o.toNat-48) (by omega),w64 (by omega)];exact F
     ·have er:rdD (jai s o.toNat)=0:=by rw[rdD,d,cond_false,e,cond_false]
      rw[er,Int.add_zero]at F;exact F
    ·have hP:isP (jai ms i.toNat)=false:=c;rw[hP,cond_false,Int.zero_add]at p8 p9;rw[c,cond_false]at hf;exact fin (o+1) a (by omega) (by omega) p7 p9 p8 hf
  ·have h:=jac h;rw[jck (s:=ms) (by omega),rdGo]at hf;obtain rfl:i=ms.size:=by omega
   exact hf _
def s23(s:Y)(t:Y):Bool×Value:=(decide (s.size≤9223372036854775807∧t.size≤9223372036854775807),.tuple ⟨[.int .i64 (rdV (bz s) (bz t)).1,.int .i64 (rdV (bz s) (bz t)).2]⟩)
def ic(a:Y):Y:=sz (pS (bz a))
def lz(a b:Y):Int:=rdGo (fw 0 (bz (sz (jaq (bz (ic a)))))) (bu b 0) 0
def qy(a:Y)(b:Int):Bool:=decide ((ic a).size≤900∧0≤pD (bz a)∧pD (bz a)≤900∧pdGo (jaq (bz (ic a)))≤pD (bz a)∧0≤pW (bz a)∧pW (bz a)≤900∧ -(9223372036854775808:Int)≤b∧b≤9223372036854775807∧fdOK (bz (ic a)) (pW (bz a)) (pD (bz a)).toNat b=true)
theorem v23(s:Y)(t:Y)(R:Value→Prop):jax Tryz.prog G12 (oneL 0 S23_0.h) Tryz.f87 [Enc.enc s,Enc.enc t] (fun _=>none) 0 (fun v _ _=>R v)=(bif co s then bq (pE (bz s) !=0) true (pE (bz s) !=0 || !pN (bz s)) (R (la 30)) (bif al t !=pW (bz s)then R (la 31)else bif fy (ic s)then bif S23_0.pre (t,(ic s,(pN (bz s),(pW (bz s),(pD (bz s),(pQ (bz s),(pG (bz s),((0:Int),(sz (jaq (bz (ic s))),((0:Int),(0:Int)))))))))))then Int→ib (qy s (lz s t)) (bif ez (sz (jds (bz (ic s)) (pW (bz s)) (pD (bz s)).toNat (lz s t))) t then R (aq [ak 0] (I (lz s t)))else go (pG (bz s)) (bv (decide (lz s t>0)) (qy s (cm 0 (lz s t)) &&true) true) true (pG (bz s) && (decide (lz s t>0) &&ez (sz (jds (bz (ic s)) (pW (bz s)) (pD (bz s)).toNat (cm 0 (lz s t)))) t)) (R (aq [ak 0] (I (cm 0 (lz s t))))) (R (la 31))) False else False else False)else False):=by kernel_rfl
theorem ok23:jan Tryz.prog 87 (sp2 s23):=by
 refine jcz ok_G12 hmix (.m Tryz.func87) l23_0 jag fun s t hc=> ?_
 rw[ja4,v23];delta av bq ib go ak bp la aq cm bu fw ic lz ez bv qy fy al co;have hc:(s.size≤9223372036854775807∧t.size≤9223372036854775807):=jab hc
 try dsimp only[s23]
 rw[jn1,pN_or];refine c_t (jaa hc.1) (c_t (by simp) (Ka (fun h=> ?_) (fun h=> ?_)))
 ·have h:pN (bz s)=false:=by simpa using h
  simp[rdV,h]
 have h:pN (bz s)=true:=by simpa using h
 have hd:=jdv h;have hnv:=jn0 h;apply Ka<;>intro h2
 ·have h2:¬(t.size:Int)=pW (bz s):=by simpa using h2
  simp[rdV,h,h2,jak]
 have h2:(t.size:Int)=pW (bz s):=by simpa using h2
 obtain⟨g1,g2,g3,g4,g5,g6⟩:=jk5 (jhg s) h (rdA (bz s) (bz t));obtain⟨-,-,-,-,-,g7⟩:=jk5 (jhg s) h (0-rdA (bz s) (bz t));have hmB:=jfh (pS (bz s));have hml:=jer (pS (bz s));have hr:0≤rdA (bz s) (bz t)∧rdA (bz s) (bz t)<1000000000:=jgm _ _ 0 0 (by omega) (by decide) (by omega);have er:rdGo (jaq (pS (bz s))) (bz t) 0=rdA (bz s) (bz t):=rfl;rw[jc7 g1,jco,jc7 hmB,jeb,jeb,er,w64 (n:=0-rdA (bz s) (bz t)) (by omega),jcv,jcv,jc7 (jik g1 _ _ _),jc7 (jik g1 _ _ _)];have eF:∀n,jds (pS (bz s)) (pW (bz s)) (pD (bz s)).toNat n=fdN (bz s) n:=fun _=>rfl
 rw[eF,eF]
 have e1:rdV (bz s) (bz t)=if fdN (bz s) (rdA (bz s) (bz t))=bz t then(rdA (bz s) (bz t),0)else if pG (bz s)=true∧rdA (bz s) (bz t)>0∧fdN (bz s) (0-rdA (bz s) (bz t))=bz t then(0-rdA (bz s) (bz t),0)else(0,31):=by
  rw[rdV,Kd h,Kd (by rw[jak];exact h2)]
 refine c_t (jaa (by omega)) (c_t ?_ (fun o' _=>c_t (jaa ⟨by omega,by omega,by omega,by omega,by omega,by omega,by omega,by omega,g6⟩) (Ka (fun a=> ?_) (fun a=>c_t ?_ (Ka (fun b=> ?_) (fun b=> ?_))))))
 ·simp only[S23_0,jae,jco,jc7 hmB,Int.toNat_zero,List.drop_zero];refine⟨by omega,by omega,by omega,by omega,by omega,by omega,by omega,by omega,?_⟩;have:=tenZ_le (n:=(9-pdGo (jaq (pS (bz s)))).toNat) (by omega);omega
 ·rw[e1,Kd (jab a)]
 ·cases pG (bz s)with
  | false=>rfl
  | true=>
   cases decide (rdA (bz s) (bz t)>0)with
   | false=>rfl
   | true=>
    show(decide _&&true)=true;rw[Bool.and_true];exact jaa ⟨by omega,by omega,by omega,by omega,by omega,by omega,by omega,by omega,g7⟩
 ·simp only[jaf,jae]at b;rw[e1,Kc (jac a),Kd b]
 ·have b:¬(pG (bz s)=true∧rdA (bz s) (bz t)>0∧fdN (bz s) (0-rdA (bz s) (bz t))=bz t):=by
   rintro ⟨b1,b2,b3⟩;rw[b1,jaa b2,jaa b3]at b;cases b
  rw[e1,Kc (jac a),Kc b]
end Go.Px
end
noncomputable section
namespace Go.Px
open Go Go.Ab Go.Proofs
inductive Rw where
 | nil
 | own (d:J) (m cap:Nat)
def Rw.v(q:Nat):Rw→Value
 | .nil=> .slice none 0 0
 | .own _ m cap=> .slice (some ⟨q,0,some 1⟩) m cap
def Rw.b:Rw→Option Blk
 | .nil=>none
 | .own d _ _=>some ⟨d,5,true⟩
def Rw.z:Rw→O
 | .nil=> []
 | .own d m _=>zc d m
def Rw.ok:Rw→Bool
 | .nil=>true
 | .own d m cap=>jcp d m cap
def Rw.is:Rw→Bool
 | .nil=>false
 | .own _ _ _=>true
def G15:Env:=Env.nil
theorem ok_G15:ja3 Tryz.prog G15:=jav
theorem w32{n:Int}(h: -2147483648≤n∧n≤2147483647):IntKind.wrap .i32 n=n:=by
 rw[IntKind.wrap_i32];omega
def rpZ(n c:Int):Int×Bool:=if c<48∨c>57∨(n=0∧c=48)then(0,false)else(10*n+(c-48),decide (10*n+(c-48)≤32))
def s113(n:Int)(c:R32):Bool×Value:=(decide (0≤n∧n≤32∧0≤c.n∧c.n≤2147483647),.tuple ⟨[.int .i64 (rpZ n c.n).1,.bool (rpZ n c.n).2]⟩)
theorem v113(n:Int)(c:R32)(R:Value→Prop):jax Tryz.prog G15 noL Tryz.f185 [Enc.enc n,Enc.enc c] (fun _=>none) 0 (fun v _ _=>R v)=(bq (decide (R32.n c<48)) (decide (R32.n c>57) || (n==0 || true)) (decide (R32.n c<48) || (decide (R32.n c>57) || n==0&&R32.n c==48)) (R (aq d8 (ak 0))) (R (aq [B (decide (j7 10 n (R32.n c) .i32≤32))] (I (j7 10 n (R32.n c) .i32))))):=by kernel_rfl
theorem ok113:jan Tryz.prog 185 (sp2 s113):=by
 refine jcz ok_G15 hmix (.m Tryz.func185) jal jag fun n c hc=> ?_
 rw[ja4,v113];delta av bq aq kg jl j7 ak d8;have hc:(0≤n∧n≤32∧0≤c.n∧c.n≤2147483647):=jab hc
 try dsimp only[s113]
 obtain⟨c⟩:=c;simp only at hc ⊢;refine c_t (by simp) (Ka (fun h=> ?_) (fun h=> ?_))
 ·have h:c<48∨c>57∨(n=0∧c=48):=by simpa using h
  simp[rpZ,h]
 ·have h:¬(c<48∨c>57∨(n=0∧c=48)):=by
   intro q;have:(decide (c<48) || (decide (c>57) || n==0&&c==48))=true:=by simpa using q
   rw[this]at h;cases h
  rw[w64 (n:=10*n) (by omega),w32 (n:=c-48) (by omega),w64 (n:=c-48) (by omega),w64 (by omega)];simp[rpZ,h]
def G16:Env:=Env.nil.add 221 (sp2 s141)
theorem ok_G16:ja3 Tryz.prog G16:=jaj jav ok141
def V114_0:Blk×Int×Int×Rw×Int→J:=fun(b,c,n,o,i)=> [o.v 400,.int .i32 c,I n,I i]
def B114_0:Blk×Int×Int×Rw×Int→Ya:=fun(b,c,n,o,i)=> [some b,o.b]
def S114_0:LSpecA (Blk×Int×Int×Rw×Int) where
 live:=[0,1,31,32]
 mid:=[7,400]
 n:=420
 ap:=[(.tmp 0,400)]
 dec vs bs:=match vs,bs with
  | [.slice none 0 0,.int .i32 c,.int .i64 n,.int .i64 i],[some b,none]=>some (b,c,n,.nil,i)
  | [.slice (some ⟨400,0,some 1⟩) m cap,.int .i32 c,.int .i64 n,.int .i64 i],[some b,some ⟨d,5,true⟩]=>some (b,c,n,.own d m cap,i)
  | _,_=>none
 pre:=fun(b,c,n,o,i)=>o.ok&& ((o.is || decide (i<n)) && (ja1 b.c&&decide (0≤i∧i≤n∧n≤32∧0≤c∧c<128∧o.z.length+(n-i).toNat≤1000)))
 fin:=fun(b,c,n,o,i) Z=>∀d' m' cap',jcp d' m' cap'=true→zc d' m'=o.z++rep1 c (n-i).toNat→Z (.exit 0) [.slice (some ⟨400,0,some 1⟩) m' cap',.int .i32 c,I n,I n] [some b,some ⟨d',5,true⟩]
def jm:Value:= .slice none 0 0
def pf(a:Blk)(d:Exit→J→Ya→Prop)(g h i:Int)(b:J)(e f:Nat):Prop:=bm (jas [(425,400)] a.c&& (jas [(425,400)] b&&true) &&true) d [some (.mk (rlbL [(425,400)] a.c) a.ty a.own),iq [(425,400)] b] (cq 400 0 e f:: .int .i32 g::ct h i)
theorem r114_0n(b:Blk)(c:Int)(n:Int)(i:Int)(jk:Tmps)(R:Exit→J→Ya→Prop):(jbn Tryz.prog G16 noL Tryz.f186.ntmps (ja2 Tryz.f186 0) (tl S114_0.live (V114_0 (b,c,n,.nil,i)) jk) (ml S114_0.mid (B114_0 (b,c,n,.nil,i))) S114_0.n fun e t' m' _=>S114_0.out R e t' m')=(bif bw i n then∀a:Nat,∀d:J,fu d a 1→pf b R c n i (jq c::d) 1 a else bif jas [] b.c&&true&&true then R (.exit 0) (jm:: .int .i32 c::bp n i) [some (.mk (rlbL [] b.c) b.ty b.own),none]else False):=by kernel_rfl
theorem r114_0o(b:Blk)(c:Int)(n:Int)(d:J)(m:Nat)(cap:Nat)(i:Int)(jk:Tmps)(R:Exit→J→Ya→Prop):(jbn Tryz.prog G16 noL Tryz.f186.ntmps (ja2 Tryz.f186 0) (tl S114_0.live (V114_0 (b,c,n,.own d m cap,i)) jk) (ml S114_0.mid (B114_0 (b,c,n,.own d m cap,i))) S114_0.n fun e t' m' _=>S114_0.out R e t' m')=(dy (bw i n) (e8 d cap m 1) (jas [(400,400)] b.c&& (jas [(400,400)] d&&true) &&true) (∀a:Nat,∀e:J,fu e a (m+1)→pf b R c n i (gz (IntKind.u8.wrap c) .u8 d e m) (m+1) a) (R (.exit 0) (cq 400 0 m cap:: .int .i32 c::bp n i) [some (.mk (rlbL [(400,400)] b.c) b.ty b.own),iq [(400,400)] d])):=by kernel_rfl
theorem l114_0:LOKf Tryz.prog (oneL 0 S114_0.hA) Tryz.f186:=by
 refine jbb (h:=S114_0.hA) (by kernel_rfl) (jbo ok_G16 hmix (by kernel_rfl) (ja0 _) S114_0 V114_0 B114_0 (fun(b,c,n,o,i)=>(n-i).toNat) ?_ ?_ ?_)
 ·intro vs bs s h;simp only[S114_0]at h;split at h
  all_goals first | (cases h;exact⟨rfl,rfl⟩) | cases h | (split at h<;>first | (rename_i hq;cases h;have hq:=jah hq;subst hq;exact⟨rfl,rfl⟩) | cases h)
 ·exact fun⟨b,c,n,o,i⟩ hp=>by
   simp only[S114_0,jaf]at hp;cases o with
   | nil=>simp[V114_0,B114_0,S114_0,jaw,jbs,idsL,ids,Rw.v,Rw.b,jao hp.2.2.1]
   | own d m cap=>simp[V114_0,B114_0,S114_0,jaw,jbs,idsL,ids,Rw.v,Rw.b,jao hp.2.2.1,jao (jap.1 hp.1).plain]
 ·intro⟨b,c,n,o,i⟩ jk Z hp hf;simp only[S114_0]at hp hf;cases o with
  | nil=>
   rw[r114_0n];delta ak bp jm bm ax az ct cq iq pf jq fu bw;simp only[jaf,jae]at hp;obtain⟨-,hi,hb,hp⟩:=hp;have hi:i<n:=jab hi;simp only[Rw.z,List.length_nil]at hp;have eb:∀ps,rlbL ps b.c=b.c:=fun ps=>rlbL_plain ps hb
   have gb:∀ps,jas ps b.c=true:=fun ps=>goodL_plain hb
   refine c_t (jaa hi) (fun cap1 tail ht=> ?_);rw[w8 (n:=c) (by omega)];have hh:=jgc [c] ht;have h1:RowP (.int .u8 c::tail) 1 cap1:=hh.1;have h2:zc (.int .u8 c::tail) 1=[c]:=hh.2;refine c_t (by simp[h1.good,gb]) ?_;rw[h1.rlb,eb,w64 (by omega)];refine⟨(b,c,n,.own _ 1 cap1,i+1),rfl,rfl,by simp only[S114_0,jaf,jae];exact⟨jap.2 h1,rfl,hb,by omega,by omega,by omega,by omega,by omega,by simp only[Rw.z,h2,List.length_cons,List.length_nil];omega⟩,by simp only;omega,?_⟩;intro d' m' cap' g1 g2;refine hf d' m' cap' g1 ?_;rw[g2];simp only[Rw.z];rw[h2,show(n-i).toNat=(n-(i+1)).toNat+1 by omega,←jh6];rfl
  | own d m cap=>
   rw[r114_0o];delta e7 dy iq ak bp cq bm ax az ct pf g9 gz fu e8 bw;simp only[jaf,jae]at hp;obtain⟨hr,-,hb,hp⟩:=hp;simp only[Rw.z]at hp;have eb:∀ps,rlbL ps b.c=b.c:=fun ps=>rlbL_plain ps hb
   have gb:∀ps,jas ps b.c=true:=fun ps=>goodL_plain hb
   have hr:=jap.1 hr;have hzl:=jbe hr;apply Ka<;>intro h
   ·have h:=jab h;rw[w8 (n:=c) (by omega)];refine c_t (hr.ask (k:=1) (by omega)) (fun cap1 tail ht=> ?_);obtain⟨h1,h2⟩:=hr.app1 c ht;refine c_t (by rw[h1.good,gb];rfl) ?_;rw[h1.rlb,eb,w64 (by omega)];have hl1:(zc (List.take (m*1) d++ [Value.int IntKind.u8 c]++tail) (m+1)).length=m+1:=jbe h1;refine⟨(b,c,n,.own _ (m+1) cap1,i+1),rfl,rfl,by simp only[S114_0,jaf,jae];exact⟨jap.2 h1,rfl,hb,by omega,by omega,by omega,by omega,by omega,by simp only[Rw.z,hl1];omega⟩,by simp only;omega,?_⟩;intro d' m' cap' g1 g2;refine hf d' m' cap' g1 ?_;rw[g2];simp only[Rw.z];rw[h2,show(n-i).toNat=(n-(i+1)).toNat+1 by omega,←jh6,Kz]
   ·have h:=jac h;refine c_t (by rw[hr.good,gb];rfl) ?_;rw[hr.rlb,eb];obtain rfl:i=n:=by omega
    exact hf d m cap (jap.2 hr) (by simp[Rw.z,rep1])
def G17:Env:=(Env.nil.add 185 (sp2 s113)).addG 186 (inlQ Tryz.prog G16 (oneL 0 S114_0.hA) Tryz.f186)
theorem ok_G17:ja3 Tryz.prog G17:=jau (jaj jav ok113) (jbh ok_G16 hmix (.m Tryz.func186) l114_0)
theorem dec_cases{s:Y}{p:Int}(h0:0≤p)(h:p<s.size):(jai s p.toNat<128→decO s p.toNat=((jai s p.toNat).toNat,1))∧(128≤jai s p.toNat→128≤(decO s p.toNat).1∧(decO s p.toNat).1≤2147483647∧1≤(decO s p.toNat).2):=by
 rw[decO_eq];have hs:p.toNat<s.size:=by omega
 have e:jai s p.toNat=((s[p.toNat]'hs).toNat:Int):=by
  have hl:p.toNat<s.data.toList.length:=by rw[Array.length_toList];exact hs
  simp only[jai,Kx hl];rfl
 rw[e];refine⟨fun h=> ?_,fun h=> ?_⟩
 ·rw[decode_ascii s _ hs (by omega)];rfl
 ·have:=decode_high s _ hs (by omega);exact⟨this.1,decode_le s _,this.2⟩
theorem jm0{c:Int}(h:hasZ kL c=true):0≤c∧c<128:=by
 have:∀x∈kL,0≤x∧x<128:=by decide
 exact this c (jbj.1 h)
theorem xp_n0:∀(l:O)(n m:Int)(out:O),xpGo l 0 n out=xpGo l 0 m out
 | [],_,_,_=>rfl
 | c::r,n,m,out=>by
  simp only[xpGo];rfl
theorem xp_high{c:Int}(h:128≤c)(r:O)(st n:Int)(out:O):xpGo (c::r) st n out=([],false):=by
 have hu:upZ c=c:=by unfold upZ;rw[Kc (by omega)]
 have hk:¬hasZ kL c=true:=fun q=>by have:=jm0 q;omega
 have hd:¬jf6 c=true:=fun q=>by have:=jab q;omega
 rw[xpGo];split
 ·rw[Kc (by omega),Kc (fun q=>hd q.1)]
 ·rw[Kc (by omega),Kc (by omega),hu,Kc (fun q=>hk q.1)]
theorem dec_step{s:Y}{p:Int}(h0:0≤p)(h:p<s.size):0≤((decO s p.toNat).1:Int)∧((decO s p.toNat).1:Int)≤2147483647∧1≤((decO s p.toNat).2:Int)∧
  ∀st n out,xpGo ((bz s).drop p.toNat) st n out=xpGo (((decO s p.toNat).1:Int)::(bz s).drop (p+((decO s p.toNat).2:Int)).toNat) st n out:=by
 obtain⟨h1,h2⟩:=dec_cases h0 h;have hb:=jf2 s p.toNat;by_cases hc:jai s p.toNat<128
 ·have e:=h1 hc;rw[e];simp only;rw[Int.toNat_of_nonneg hb.1];refine⟨hb.1,by omega,by omega,fun st n out=> ?_⟩;rw[jca h0 h];rfl
 ·obtain⟨q1,q2,q3⟩:=h2 (by omega);refine⟨by omega,by omega,by omega,fun st n out=> ?_⟩;rw[jca h0 h,xp_high (by omega),xp_high (by omega)]
theorem x1{c st n:Int}{r out:O}(h:st=1)(hc:c=41)(hn:0<n):xpGo (c::r) st n out=xpGo r 2 n out:=by rw[xpGo,Kd h,Kd hc,Kd hn]
theorem x2{c st n:Int}{r out:O}(h:st=1)(hc:c=41)(hn:¬0<n):xpGo (c::r) st n out=([],false):=by rw[xpGo,Kd h,Kd hc,Kc hn]
theorem x34{c st n:Int}{r out:O}(h:st=1)(hc:¬c=41):xpGo (c::r) st n out=if(rpZ n c).2=true then xpGo r 1 (rpZ n c).1 out else([],false):=by
 rw[xpGo,Kd h,Kc hc,rpZ];by_cases q:c<48∨c>57∨(n=0∧c=48)
 ·rw[Kd q,Kc,Kc (by simp)];simp only[jf6,jae];omega
 ·rw[Kc q];simp only[jf6,jae];by_cases q2:10*n+(c-48)≤32
  ·rw[Kd (by omega),Kd q2]
  ·rw[Kc (by omega),Kc q2]
theorem rp_rng{n c:Int}(hn:0≤n)(h:(rpZ n c).2=true):0≤(rpZ n c).1∧(rpZ n c).1≤32:=by
 unfold rpZ at h ⊢;split at h
 ·cases h
 ·rename_i q;rw[Kc q];simp only[jae]at h ⊢;omega
theorem x5{c st n:Int}{r out:O}(h:¬st=1)(hc:c=41∨st=2∧c=40):xpGo (c::r) st n out=([],false):=by rw[xpGo,Kc h,Kd hc]
theorem x6{c st n:Int}{r out:O}(h:¬st=1)(hc:¬(c=41∨st=2∧c=40))(h2:c=40):xpGo (c::r) st n out=xpGo r 1 0 out:=by rw[xpGo,Kc h,Kc hc,Kd h2]
theorem x7{c st n:Int}{r out:O}(h:¬st=1)(hc:¬(c=41∨st=2∧c=40))(h2:¬c=40):xpGo (c::r) st n out=if hasZ kL (upZ c)=true∧(out.length:Int)+(if st=2 then n else 1)≤32 then xpGo r 0 0 (out++rep1 (upZ c) (if st=2 then n else 1).toNat)else([],false):=by rw[xpGo,Kc h,Kc hc,Kc h2]
theorem put_gate{u k:Int}{L:Nat}(hu:0≤u∧u≤2147483647)(hk:1≤k∧k≤32)(hL:L≤32):
  (decide (u≥128) || decide (0≤IntKind.wrap IntKind.u8 u∧IntKind.wrap IntKind.u8 u<256) && (decide (idxZ (bz (ByteArray.mk #[57,86,90,42,89,84,73,82,83,43,45,36,44,46,47,66,67,68,65,88])) (IntKind.wrap IntKind.u8 u)<0) || true))=true∧
  (decide (u≥128) || (decide (idxZ (bz (ByteArray.mk #[57,86,90,42,89,84,73,82,83,43,45,36,44,46,47,66,67,68,65,88])) (IntKind.wrap IntKind.u8 u)<0) || decide (IntKind.wrap IntKind.i64 (natO L+k)>32)))= !(decide (hasZ kL u=true∧(L:Int)+k≤32)):=by
 have eb:bz (ByteArray.mk #[57,86,90,42,89,84,73,82,83,43,45,36,44,46,47,66,67,68,65,88])=kL:=by kernel_rfl
 rw[eb,jby,w64 (by omega)];by_cases h:u≥128
 ·have hh:¬(hasZ kL u=true∧(L:Int)+k≤32):=fun q=>by have:=jm0 q.1;omega
  rw[jaa h,jad hh];exact⟨rfl,rfl⟩
 ·rw[w8 (by omega),jad h,jaa (show 0≤u∧u<256 by omega)];refine⟨by simp,?_⟩;have hi:=jg5 u kL;rw[←jbj]at hi;by_cases h1:hasZ kL u=true
  ·rw[h1]at hi ⊢;have hi:=hi.2.2 rfl;rw[jad (show¬idxZ kL u<0 by omega)];by_cases h2:(L:Int)+k≤32
   ·rw[jad (show¬(L:Int)+k>32 by omega),jaa ⟨rfl,h2⟩];rfl
   ·rw[jaa (show(L:Int)+k>32 by omega),jad (fun q=>h2 q.2)];rfl
  ·have hn:idxZ kL u<0:=by
    have:¬0≤idxZ kL u:=fun q=>h1 (hi.2.1 q)
    omega
   rw[jaa hn,jad (show¬(hasZ kL u=true∧(L:Int)+k≤32)from fun q=>h1 q.1)];rfl
theorem put_nil{u k:Int}{p:Int}{s:Y}(hu:0≤u∧u≤2147483647)(hk:1≤k∧k≤32){A:Prop}{Q:Nat→Nat→J→Prop}
  (h1:¬(hasZ kL u=true∧((([]:O).length:Nat):Int)+k≤32)→A)
  (h2:hasZ kL u=true∧((([]:O).length:Nat):Int)+k≤32→ ∀d' m' cap',RowP d' m' cap'→zc d' m'=[]++rep1 u k.toNat→Q m' cap' d'):
  bif decide (u≥128) || decide (0≤IntKind.wrap IntKind.u8 u∧IntKind.wrap IntKind.u8 u<256) && (decide (idxZ (bz (ByteArray.mk #[57,86,90,42,89,84,73,82,83,43,45,36,44,46,47,66,67,68,65,88])) (IntKind.wrap IntKind.u8 u)<0) || true)then
   bif decide (u≥128) || (decide (idxZ (bz (ByteArray.mk #[57,86,90,42,89,84,73,82,83,43,45,36,44,46,47,66,67,68,65,88])) (IntKind.wrap IntKind.u8 u)<0) || decide (IntKind.wrap IntKind.i64 (natO 0+k)>32))then A
   else
    bif LSpec.pre (LSpecA.toLSpec S114_0) (Blk.mk [Value.string s,Value.int IntKind.i64 p] 4611686018427387904 true,u,k,Rw.nil,0)then
     ∀(d':J)(m' cap':Nat),jcp d' m' cap'=true→zc d' m'=Rw.z Rw.nil++rep1 u (Int.toNat (k-0))→
      bif jaw 420 d'&&true then∀(_:Tmps),bif jas [(400,200)] d'&&true&&true then Q m' cap' d' else False else False
    else False
  else False:=by
 obtain⟨g1,g2⟩:=put_gate (L:=0) hu hk (by omega);refine c_t g1 ?_;rw[g2];by_cases hq:hasZ kL u=true∧((0:Nat):Int)+k≤32
 ·rw[jaa hq];have hkl:=jm0 hq.1;refine c_f rfl (c_t ?_ fun d' m' cap' r1 r2=> ?_)
  ·simp only[S114_0,jaf,jae,Rw.ok,Rw.is,Rw.z,List.length_nil,Bool.false_or,true_and,ja1,plain];exact⟨by omega,jaa (by omega)⟩
  ·have r1:=jap.1 r1;refine c_t (by rw[jba r1.plain];rfl) fun x=>c_t (by rw[r1.good];rfl) ?_
   exact h2 hq d' m' cap' r1 (by rw[r2,Int.sub_zero];rfl)
 ·rw[jad hq];exact c_t rfl (h1 hq)
theorem put_own{u k:Int}{p:Int}{s:Y}{d:J}{m cap:Nat}(hr:RowP d m cap)(hm:m≤32)(hu:0≤u∧u≤2147483647)(hk:1≤k∧k≤32){A:Prop}{Q:Nat→Nat→J→Prop}
  (h1:¬(hasZ kL u=true∧((zc d m).length:Int)+k≤32)→A)
  (h2:hasZ kL u=true∧((zc d m).length:Int)+k≤32→ ∀d' m' cap',RowP d' m' cap'→zc d' m'=zc d m++rep1 u k.toNat→Q m' cap' d'):
  bif decide (u≥128) || decide (0≤IntKind.wrap IntKind.u8 u∧IntKind.wrap IntKind.u8 u<256) && (decide (idxZ (bz (ByteArray.mk #[57,86,90,42,89,84,73,82,83,43,45,36,44,46,47,66,67,68,65,88])) (IntKind.wrap IntKind.u8 u)<0) || true)then
   bif decide (u≥128) || (decide (idxZ (bz (ByteArray.mk #[57,86,90,42,89,84,73,82,83,43,45,36,44,46,47,66,67,68,65,88])) (IntKind.wrap IntKind.u8 u)<0) || decide (IntKind.wrap IntKind.i64 (natO m+k)>32))then
    bif jas [] d&&true&&true then A else False
   else
    bif jas [(200,400)] d&&true&&true&& (jaw 420 d&&true)then
     bif LSpec.pre (LSpecA.toLSpec S114_0) (Blk.mk [Value.string s,Value.int IntKind.i64 p] 4611686018427387904 true,u,k,Rw.own d m cap,0)then
      ∀(d':J)(m' cap':Nat),jcp d' m' cap'=true→zc d' m'=Rw.z (Rw.own d m cap)++rep1 u (Int.toNat (k-0))→
       bif jaw 420 d'&&true then∀(_:Tmps),bif jas [(400,200)] d'&&true&&true then Q m' cap' d' else False else False
     else False
    else False
  else False:=by
 obtain⟨g1,g2⟩:=put_gate (L:=m) hu hk (by omega);rw[jbe hr]at h1 h2;have hzl:=jbe hr;refine c_t g1 ?_;rw[g2,hr.good,hr.good,jba hr.plain];by_cases hq:hasZ kL u=true∧(m:Int)+k≤32
 ·rw[jaa hq];have hkl:=jm0 hq.1;refine c_f rfl (c_t rfl (c_t ?_ fun d' m' cap' r1 r2=> ?_))
  ·simp only[S114_0,jaf,jae,Rw.ok,Rw.is,Rw.z,Bool.true_or,true_and,ja1,plain];exact⟨jap.2 hr,jaa (by omega)⟩
  ·have r1:=jap.1 r1;refine c_t (by rw[jba r1.plain];rfl) fun x=>c_t (by rw[r1.good];rfl) ?_
   exact h2 hq d' m' cap' r1 (by rw[r2,Int.sub_zero];rfl)
 ·rw[jad hq];exact c_t rfl (c_t rfl (h1 hq))
def V80_0:Y×Bool×Rw×Int×Int×Bool×Y×Int→J:=fun(r,rb,o,st,n,f,s,p)=> [.string r,.bool rb,o.v 200,.int .i64 st,.int .i64 n,.bool f,.pointer (some ⟨7,0,some 0⟩)]
def B80_0:Y×Bool×Rw×Int×Int×Bool×Y×Int→Ya:=fun(r,rb,o,st,n,f,s,p)=> [some ⟨[.string s,.int .i64 p],itTy,true⟩,o.b]
def S80_0:LSpecA (Y×Bool×Rw×Int×Int×Bool×Y×Int) where
 live:=[2,3,4,5,6,7,11]
 mid:=[7,200]
 n:=210
 ap:=[(.tmp 4,200)]
 dec vs bs:=match vs,bs with
  | [.string r,.bool rb,.slice none 0 0,.int .i64 st,.int .i64 n,.bool f,.pointer (some ⟨7,0,some 0⟩)],[some ⟨[.string s,.int .i64 p],ty,true⟩,none]=>match Nat.beq ty itTy with | true=>some (r,rb,.nil,st,n,f,s,p) | false=>none
  | [.string r,.bool rb,.slice (some ⟨200,0,some 1⟩) m cap,.int .i64 st,.int .i64 n,.bool f,.pointer (some ⟨7,0,some 0⟩)],[some ⟨[.string s,.int .i64 p],ty,true⟩,some ⟨d,5,true⟩]=>match Nat.beq ty itTy with | true=>some (r,rb,.own d m cap,st,n,f,s,p) | false=>none
  | _,_=>none
 pre:=fun(r,rb,o,st,n,f,s,p)=>o.ok&& (f&&decide (0≤p∧s.size≤9223372036854775807∧(st=0∨st=1∨(st=2∧0<n))∧0≤n∧n≤32∧o.z.length≤32))
 fin:=fun(r,rb,o,st,n,f,s,p) Z=>(xpGo ((bz s).drop p.toNat) st n o.z=([],false)→(∀st' n' f' p',Z .ret [.string ⟨#[]⟩,.bool false,.slice none 0 0,.int .i64 st',.int .i64 n',.bool f',.pointer (some ⟨7,0,some 0⟩)] [some ⟨[.string s,.int .i64 p'],itTy,true⟩,none])∧(∀d' m' cap' st' n' f' p',jcp d' m' cap'=true→Z .ret [.string ⟨#[]⟩,.bool false,.slice (some ⟨200,0,some 1⟩) m' cap',.int .i64 st',.int .i64 n',.bool f',.pointer (some ⟨7,0,some 0⟩)] [some ⟨[.string s,.int .i64 p'],itTy,true⟩,some ⟨d',5,true⟩])∧(∀d' st' n' f' p',ja1 d'=true→Z .ret [.string ⟨#[]⟩,.bool false,.slice none 0 0,.int .i64 st',.int .i64 n',.bool f',.pointer (some ⟨7,0,some 0⟩)] [some ⟨[.string s,.int .i64 p'],itTy,true⟩,some ⟨d',5,true⟩]))∧(∀st' n' f' p',xpGo ((bz s).drop p.toNat) st n o.z=([],decide (st'=0))→Z (.exit 0) [.string r,.bool rb,.slice none 0 0,.int .i64 st',.int .i64 n',.bool f',.pointer (some ⟨7,0,some 0⟩)] [some ⟨[.string s,.int .i64 p'],itTy,true⟩,none])∧(∀d' m' cap' st' n' f' p',jcp d' m' cap'=true→xpGo ((bz s).drop p.toNat) st n o.z=(zc d' m',decide (st'=0))→Z (.exit 0) [.string r,.bool rb,.slice (some ⟨200,0,some 1⟩) m' cap',.int .i64 st',.int .i64 n',.bool f',.pointer (some ⟨7,0,some 0⟩)] [some ⟨[.string s,.int .i64 p'],itTy,true⟩,some ⟨d',5,true⟩])
def kp(a b:Bool)(c d:Prop):Prop:=bif a then bif b then c else d else False
def gq(a:Y)(b:Int):Int:=((decO a b.toNat).fst:Int)
def pg(c:Y)(a b d:Int)(e f g h i:Prop):Prop:=bif a==1 then bif jj 0 b 32 0 (gq c d) 2147483647 then e else False else ij (gq c d==41) (a==2 || true) (gq c d==41 || a==2&&gq c d==40) f (bif gq c d==40 then g else av (a==2) h i)
def qn(a c:Int)(b:Nat):Bool:=decide (a≥128) || (decide (idxZ my (IntKind.u8.wrap a)<0) || decide (fp (natO b) c>32))
def qo(a:Int):Bool:=decide (a≥128) || cl (IntKind.u8.wrap a) 256&& (decide (idxZ my (IntKind.u8.wrap a)<0) || true)
def qp(a:Y)(b c:Int)(d:Nat)(e f g:Prop):Prop:=bif gx (gq a b) 97 122 then bif qo (IntKind.i32.wrap (gq a b-32))then av (qn (IntKind.i32.wrap (gq a b-32)) c d) e f else False else bif qo (gq a b)then av (qn (gq a b) c d) e g else False
def nj(a:Y)(b:Int):Blk:= .mk [.string a,.int .i64 (b+((decO a b.toNat).snd:Int))] 4611686018427387904 true
def ow(k:Bool)(d j:Y)(i:Exit→J→Ya→Prop)(e f g l m:Int)(h:Px.Rw):Prop:=bif S114_0.toLSpec.pre (nj d e,(f,(g,(h,(0:Int)))))then∀a:J,∀b:Nat,∀c:Nat,jcp a b c=true→zc a b=Rw.z h++rep1 f (Int.toNat (g-0))→jh a 420 (bm (f0 a 400 200) i [some (nj d e),iq [(400,200)] a] [.string j,.bool k,cq 200 0 b c,ak l,ak m,.bool true,ar 7])else False
def me(g:Bool)(h:Y)(a:Exit→J→Ya→Prop)(e f i:Int)(c d:Nat)(b:Option Addr)(j:Option Blk):Prop:=a .ret [cv,.bool false,.slice b c d,ak e,ak f,.bool g,ar 7] [some (nj h i),j]
def jp(a b:Int):Bool:=decide (a≥b) || true
def qz(g:Bool)(a h:Y)(d:Exit→J→Ya→Prop)(b c e f:Int):Prop:=bif jp (gq a b) 97 then qp a b c 0 (me false a d e f b 0 0 none none) (ow g a h d b (IntKind.i32.wrap (gq a b-32)) c e f Rw.nil) (ow g a h d b (gq a b) c e f Rw.nil)else False
def ph(a h:Bool)(b g:Y)(c:Exit→J→Ya→Prop)(d e f:Int)(i:Value):Prop:=bif !a then me a b c d e f 0 0 none none else c .normal [.string g,.bool h,jm,ak d,i,.bool a,ar 7] [some (nj b f),none]
def gp(a:Int):Bool:=decide (a>0)
theorem r80_0n(r:Y)(rb:Bool)(st:Int)(n:Int)(f:Bool)(s:Y)(p:Int)(jk:Tmps)(R:Exit→J→Ya→Prop):(jbn Tryz.prog G17 noL Tryz.f127.ntmps (ja2 Tryz.f127 0) (tl S80_0.live (V80_0 (r,rb,.nil,st,n,f,s,p)) jk) (ml S80_0.mid (B80_0 (r,rb,.nil,st,n,f,s,p))) S80_0.n fun e t' m' _=>S80_0.out R e t' m')=(kp (decide (0≤p)) (ep s p) (bq (st==1) true (st==1&&gq s p==41) (ph (gp n) rb s r R 2 n p (ak n)) (pg s st n p (ph (rpZ n (gq s p)).snd rb s r R st (rpZ n (gq s p)).fst p (I (rpZ n (gq s p)).fst)) (me false s R st n p 0 0 none none) (ph f rb s r R 1 0 p (ak 0)) (qz rb s r R p n 0 n) (qz rb s r R p 1 st n))) (R (.exit 0) (j9 rb r st [ak n,B f,ar 7] jm) [some (.mk [S s,ak p] 4611686018427387904 true),none])):=by kernel_rfl
def il(a:J):Bool:=jas [] a&&true&&true
def q8(i:Bool)(a j:Y)(f:Exit→J→Ya→Prop)(b c g h:Int)(e:J)(d k:Nat):Prop:=bif jp (gq a b) 97 then qp a b c d (bif il e then me false a f g h b 0 0 none (iq [] e)else False) (bif jv [(200,400)] e 420 then ow i a j f b (IntKind.i32.wrap (gq a b-32)) c g h (Rw.own (rlbL [(200,400)] e) d k)else False) (bif jv [(200,400)] e 420 then ow i a j f b (gq a b) c g h (Rw.own (rlbL [(200,400)] e) d k)else False)else False
def pi(a k:Bool)(c j:Y)(d:Exit→J→Ya→Prop)(e f g:Int)(b:J)(h i:Nat)(l:Value):Prop:=bif !a then bif f0 b 200 200 then me a c d e f g h i (some (.mk 200 0 (some 1))) (gn b)else False else bm (f0 b 200 200) d [some (nj c g),gn b] [.string j,.bool k,cq 200 0 h i,ak e,l,.bool a,ar 7]
theorem r80_0o(r:Y)(rb:Bool)(d:J)(m:Nat)(cap:Nat)(st:Int)(n:Int)(f:Bool)(s:Y)(p:Int)(jk:Tmps)(R:Exit→J→Ya→Prop):(jbn Tryz.prog G17 noL Tryz.f127.ntmps (ja2 Tryz.f127 0) (tl S80_0.live (V80_0 (r,rb,.own d m cap,st,n,f,s,p)) jk) (ml S80_0.mid (B80_0 (r,rb,.own d m cap,st,n,f,s,p))) S80_0.n fun e t' m' _=>S80_0.out R e t' m')=(kp (decide (0≤p)) (ep s p) (bq (st==1) true (st==1&&gq s p==41) (pi (gp n) rb s r R 2 n p d m cap (ak n)) (pg s st n p (pi (rpZ n (gq s p)).snd rb s r R st (rpZ n (gq s p)).fst p d m cap (I (rpZ n (gq s p)).fst)) (bif f0 d 200 200 then me false s R st n p m cap (some (.mk 200 0 (some 1))) (gn d)else False) (pi f rb s r R 1 0 p d m cap (ak 0)) (q8 rb s r R p n 0 n d m cap) (q8 rb s r R p 1 st n d m cap))) (bif f0 d 200 200 then R (.exit 0) (j9 rb r st [ak n,B f,ar 7] (cq 200 0 m cap)) [some (.mk [S s,ak p] 4611686018427387904 true),gn d]else False)):=by kernel_rfl
theorem l80_0:LOKf Tryz.prog (oneL 0 S80_0.hA) Tryz.f127:=by
 refine jbb (h:=S80_0.hA) (by kernel_rfl) (jbo ok_G17 hmix (by kernel_rfl) (ja0 _) S80_0 V80_0 B80_0 (fun(r,rb,o,st,n,f,s,p)=>(s.size-p).toNat) ?_ ?_ ?_)
 ·intro vs bs s h;simp only[S80_0]at h;split at h
  all_goals first | (cases h;exact⟨rfl,rfl⟩) | cases h | (split at h<;>first | (rename_i hq;cases h;have hq:=jah hq;subst hq;exact⟨rfl,rfl⟩) | cases h)
 ·exact fun⟨r,rb,o,st,n,f,s,p⟩ hp=>by
   simp only[S80_0,jaf]at hp;cases o with
   | nil=>simp[V80_0,B80_0,S80_0,jaw,jbs,idsL,ids,Rw.v,Rw.b]
   | own d m cap=>simp[V80_0,B80_0,S80_0,jaw,jbs,idsL,ids,Rw.v,Rw.b,jao (jap.1 hp.1).plain]
 ·intro⟨r,rb,o,st,n,f,s,p⟩ jk Z hp hf;simp only[S80_0]at hp hf;cases o with
  | nil=>
   rw[r80_0n];delta kp ak j9 jm ar av bq ij gq jj pg fp my qn cl qo gx qp dx jh bm cq iq nj f0 ow ay cv me jp qz ph gp al ep;simp only[jaf,jae]at hp;obtain⟨-,rfl,hp⟩:=hp;simp only[Rw.z]at hp hf;refine c_t (jaa hp.1) (Ka (fun h=> ?_) (fun h=> ?_))
   ·have h:=jab h;obtain⟨k1,k2,k3,k4⟩:=dec_step hp.1 h;simp only[k4]at hf;clear k4;generalize ((decO s p.toNat).1:Int)=c at k1 k2 hf ⊢;generalize ((decO s p.toNat).2:Int)=k at k3 hf ⊢;have mu:(s.size-(p+k)).toNat<(s.size-p).toNat:=by omega
    refine c_t (by simp) (Ka (fun a=> ?_) (fun a=> ?_))
    ·have a:st=1∧c=41:=by simpa using a
     apply Ka<;>intro b
     ·have b:¬0<n:=by simpa using b
      exact(hf.1 (x2 a.1 a.2 b)).1 _ _ _ _
     ·have b:0<n:=by simpa using b
      rw[x1 a.1 a.2 b]at hf;rw[jaa b];exact⟨(r,rb,.nil,2,n,true,s,p+k),rfl,rfl,by simp only[S80_0,jaf,jae];exact⟨rfl,trivial,by omega,hp.2.1,.inr (.inr ⟨trivial,b⟩),by omega,by omega,Nat.zero_le _⟩,mu,hf⟩
    ·refine Ka (fun b=>c_t (jaa ⟨by omega,by omega,k1,k2⟩) ?_) (fun b=> ?_)
     ·have b:st=1:=by simpa using b
      have a:¬c=41:=fun q=>by rw[b,q]at a;cases a
      rw[x34 b a]at hf;apply Ka<;>intro g
      ·have g:(rpZ n c).2=false:=by simpa using g
       rw[Kc (by rw[g];simp)]at hf;exact(hf.1 rfl).1 _ _ _ _
      ·have g:(rpZ n c).2=true:=by simpa using g
       have gr:=rp_rng hp.2.2.2.1 g;rw[Kd g]at hf;rw[g,b];exact⟨(r,rb,.nil,1,(rpZ n c).1,true,s,p+k),rfl,rfl,by simp only[S80_0,jaf,jae];exact⟨rfl,trivial,by omega,hp.2.1,.inr (.inl trivial),by omega,by omega,Nat.zero_le _⟩,mu,hf⟩
     ·have b:¬st=1:=by simpa using b
      have hst:st=0∨st=2∧0<n:=by omega
      refine c_t (by simp) (Ka (fun g=> ?_) (fun g=> ?_))
      ·have g:c=41∨st=2∧c=40:=by simpa using g
       exact(hf.1 (x5 b g)).1 _ _ _ _
      ·have g:¬(c=41∨st=2∧c=40):=by
        intro q;have:(c==41 || st==2&&c==40)=true:=by simpa using q
        rw[this]at g;cases g
       refine Ka (fun q=>c_f rfl (?_)) (fun q=> ?_)
       ·have q:c=40:=by simpa using q
        rw[x6 b g q]at hf;exact⟨(r,rb,.nil,1,0,true,s,p+k),rfl,rfl,by simp only[S80_0,jaf,jae];exact⟨rfl,trivial,by omega,hp.2.1,.inr (.inl trivial),by omega,by omega,Nat.zero_le _⟩,mu,hf⟩
       ·have q:¬c=40:=by simpa using q
        rw[x7 b g q]at hf;apply Ka<;>intro v
        all_goals
         first
          | (have v : st = 2 := by simpa using v
             rw[Kd v]at hf)
          | (have v : ¬ st = 2 := by simpa using v
             have v0:st=0:=by omega
             rw[Kc v]at hf)
         refine c_t (by simp) (Ka (fun y=> ?_) (fun y=> ?_))
         all_goals
          first
           | (have y : 97 ≤ c ∧ c ≤ 122 := by simpa using y
              have hu:upZ c=c-32:=by unfold upZ;rw[Kd y]
              rw[hu]at hf;rw[w32 (by omega)])
           | (have y:¬(97≤c∧c≤122):=by
                intro q;have:(decide (c≥97) &&decide (c≤122))=true:=by simpa using q
                rw[this]at y;cases y
              have hu:upZ c=c:=by unfold upZ;rw[Kc y]
              rw[hu]at hf)
          try rw[v0]
          refine put_nil ?_ ?_ (fun e=> ?_) (fun e d' m' cap' r1 r2=> ?_)
          ·omega
          ·omega
          ·rw[Kc e]at hf;exact(hf.1 rfl).1 _ _ _ _
          ·rw[r1.rlb];rw[Kd e,←r2,xp_n0 _ 0 n]at hf;have hl:=jbe r1;have hl2:=congrArg List.length r2;simp only[Kk,rep1,Km]at hl2;simp only[List.length_nil]at e hl2;exact⟨(r,rb,.own d' m' cap',0,n,true,s,p+k),rfl,rfl,by simp only[S80_0,jaf,jae];exact⟨jap.2 r1,trivial,by omega,hp.2.1,.inl trivial,hp.2.2.2.1,hp.2.2.2.2.1,by simp only[Rw.z,hl];omega⟩,mu,hf⟩
   ·have h:=jac h;rw[jck (by omega)]at hf;exact hf.2.1 st n _ p rfl
  | own d m cap=>
   rw[r80_0o];delta kp gn ak j9 cq ar f0 av bq ij gq jj pg fp my qn cl qo gx qp dx jh bm iq nj ow jv ay cv me il jp q8 pi gp al ep;simp only[jaf,jae]at hp;obtain⟨hR,rfl,hp⟩:=hp;have hr:=jap.1 hR;have hzl:=jbe hr;simp only[Rw.z]at hp hf;have hL:(Rw.own d m cap).z.length≤32:=by simp only[Rw.z];exact hp.2.2.2.2.2
   have hm:m≤32:=by have:=hp.2.2.2.2.2;omega
   simp only[hr.rlb];have hg:∀ps,(jas ps d&&true&&true)=true:=fun ps=>by rw[hr.good];rfl
   refine c_t (jaa hp.1) (Ka (fun h=> ?_) (fun h=> ?_))
   ·have h:=jab h;obtain⟨k1,k2,k3,k4⟩:=dec_step hp.1 h;simp only[k4]at hf;clear k4;generalize ((decO s p.toNat).1:Int)=c at k1 k2 hf ⊢;generalize ((decO s p.toNat).2:Int)=k at k3 hf ⊢;have mu:(s.size-(p+k)).toNat<(s.size-p).toNat:=by omega
    refine c_t (by simp) (Ka (fun a=> ?_) (fun a=> ?_))
    ·have a:st=1∧c=41:=by simpa using a
     refine Ka (fun b=>c_t (hg _) ?_) (fun b=>c_t (hg _) ?_)
     ·have b:¬0<n:=by simpa using b
      exact(hf.1 (x2 a.1 a.2 b)).2.1 d m cap _ _ _ _ hR
     ·have b:0<n:=by simpa using b
      rw[x1 a.1 a.2 b]at hf;rw[jaa b];exact⟨(r,rb,.own d m cap,2,n,true,s,p+k),rfl,rfl,by simp only[S80_0,jaf,jae];exact⟨hR,trivial,by omega,hp.2.1,.inr (.inr ⟨trivial,b⟩),by omega,by omega,hL⟩,mu,hf⟩
    ·refine Ka (fun b=>c_t (jaa ⟨by omega,by omega,k1,k2⟩) ?_) (fun b=> ?_)
     ·have b:st=1:=by simpa using b
      have a:¬c=41:=fun q=>by rw[b,q]at a;cases a
      rw[x34 b a]at hf;refine Ka (fun g=>c_t (hg _) ?_) (fun g=>c_t (hg _) ?_)
      ·have g:(rpZ n c).2=false:=by simpa using g
       rw[Kc (by rw[g];simp)]at hf;exact(hf.1 rfl).2.1 d m cap _ _ _ _ hR
      ·have g:(rpZ n c).2=true:=by simpa using g
       have gr:=rp_rng hp.2.2.2.1 g;rw[Kd g]at hf;rw[g,b];exact⟨(r,rb,.own d m cap,1,(rpZ n c).1,true,s,p+k),rfl,rfl,by simp only[S80_0,jaf,jae];exact⟨hR,trivial,by omega,hp.2.1,.inr (.inl trivial),by omega,by omega,hL⟩,mu,hf⟩
     ·have b:¬st=1:=by simpa using b
      have hst:st=0∨st=2∧0<n:=by omega
      refine c_t (by simp) (Ka (fun g=>c_t (hg _) ?_) (fun g=> ?_))
      ·have g:c=41∨st=2∧c=40:=by simpa using g
       exact(hf.1 (x5 b g)).2.1 d m cap _ _ _ _ hR
      ·have g:¬(c=41∨st=2∧c=40):=by
        intro q;have:(c==41 || st==2&&c==40)=true:=by simpa using q
        rw[this]at g;cases g
       refine Ka (fun q=>c_f rfl (c_t (hg _) ?_)) (fun q=> ?_)
       ·have q:c=40:=by simpa using q
        rw[x6 b g q]at hf;exact⟨(r,rb,.own d m cap,1,0,true,s,p+k),rfl,rfl,by simp only[S80_0,jaf,jae];exact⟨hR,trivial,by omega,hp.2.1,.inr (.inl trivial),by omega,by omega,hL⟩,mu,hf⟩
       ·have q:¬c=40:=by simpa using q
        rw[x7 b g q]at hf;apply Ka<;>intro v
        all_goals
         first
          | (have v : st = 2 := by simpa using v
             rw[Kd v]at hf)
          | (have v : ¬ st = 2 := by simpa using v
             have v0:st=0:=by omega
             rw[Kc v]at hf)
         refine c_t (by simp) (Ka (fun y=> ?_) (fun y=> ?_))
         all_goals
          first
           | (have y : 97 ≤ c ∧ c ≤ 122 := by simpa using y
              have hu:upZ c=c-32:=by unfold upZ;rw[Kd y]
              rw[hu]at hf;rw[w32 (by omega)])
           | (have y:¬(97≤c∧c≤122):=by
                intro q;have:(decide (c≥97) &&decide (c≤122))=true:=by simpa using q
                rw[this]at y;cases y
              have hu:upZ c=c:=by unfold upZ;rw[Kc y]
              rw[hu]at hf)
          try rw[v0]
          refine put_own hr hm ?_ ?_ (fun e=> ?_) (fun e d' m' cap' r1 r2=> ?_)
          ·omega
          ·omega
          ·rw[Kc e]at hf;exact(hf.1 rfl).2.2 d _ _ _ _ hr.plain
          ·rw[r1.rlb];rw[Kd e,←r2,xp_n0 _ 0 n]at hf;have hl:=jbe r1;have hl2:=congrArg List.length r2;simp only[Kk,rep1,Km]at hl2;simp only[hzl]at e hl2;exact⟨(r,rb,.own d' m' cap',0,n,true,s,p+k),rfl,rfl,by simp only[S80_0,jaf,jae];exact⟨jap.2 r1,trivial,by omega,hp.2.1,.inl trivial,hp.2.2.2.1,hp.2.2.2.2.1,by simp only[Rw.z,hl];omega⟩,mu,hf⟩
   ·have h:=jac h;rw[jck (by omega)]at hf;exact c_t (hg _) (hf.2.2 d m cap st n _ p hR rfl)
def s80(s:Y):Bool×Value:=(decide (s.size≤9223372036854775807),.tuple ⟨[.string (sz (xpGo (bz s) 0 0 []).1),.bool (exOK (bz s))]⟩)
def ki(a:Prop):Prop:=Int→Int→a
theorem v80(s:Y)(R:Value→Prop):jax Tryz.prog G17 (oneL 0 S80_0.hA) Tryz.f127 [Enc.enc s] (fun _=>none) 0 (fun v _ _=>R v)=(bif Px.S80_0.toLSpec.pre (ay,(false,(Rw.nil,((0:Int),((0:Int),(true,(s,(0:Int))))))))then(xpGo (bu s 0) 0 0 (Rw.z Rw.nil)=(([]:O),false)→ki (Bool→gm (aq d8 cv) R)∧(∀a:J,∀b:Nat,∀c:Nat,ki (Bool→Int→jcp a b c=true→gy (dx a 210) (aq d8 cv) R))∧(∀a:J,ki (Bool→Int→ja1 a=true→gy (dx a 210) (aq d8 cv) R)))∧(∀a:Int,Int→Bool→Int→xpGo (bu s 0) 0 0 (Rw.z Rw.nil)=(([]:O),decide (a=0))→Tmps→br (a==0 || true) (aq [B (a==0&&decide (natO 0>0))] (S (bif a==0 then ByteArray.empty else ByteArray.empty))) R)∧(∀a:J,∀b:Nat,∀c:Nat,∀d:Int,Int→Bool→Int→jcp a b c=true→xpGo (bu s 0) 0 0 (Rw.z Rw.nil)=(zc a b,decide (d=0))→ko true (ja8 a 0 b&& (d==0 || true)) a 210 (aq [B (d==0&&decide (natO b>0))] (S (bif d==0 then ja5 a 0 b else ja5 a 0 b))) R)else False):=by kernel_rfl
theorem ok80:jan Tryz.prog 127 (sp1 s80):=by
 refine jb6 ok_G17 hmix (.m Tryz.func127) l80_0 jag fun s hc=> ?_
 rw[ja4,v80];delta br ko aq bu ki gy ay cv d8 dx gm;have hc:(s.size≤9223372036854775807):=jab hc
 try dsimp only[s80]
 refine c_t ?_ ⟨fun h=> ?_,fun st' n' f' p' h x=> ?_,fun d' m' cap' st' n' f' p' hr h=> ?_⟩
 ·simp only[S80_0,Rw.ok,Rw.z,Bool.true_and];exact jaa ⟨by omega,by omega,.inl trivial,by omega,by omega,by simp⟩
 ·have h:xpGo (bz s) 0 0 []=([],false):=h;have e:exOK (bz s)=false:=by simp[exOK,h]
  rw[h,e];exact⟨fun _ _ _ _ _=>rfl,fun d' m' cap' _ _ _ _ hr=>c_t (by rw[jba (jap.1 hr).plain];rfl) fun _=>rfl,fun d' _ _ _ _ hp=>c_t (by rw[jba hp];rfl) fun _=>rfl⟩
 ·have h:xpGo (bz s) 0 0 []=([],decide (st'=0)):=h;have e:exOK (bz s)=false:=by simp[exOK,h]
  rw[h,e];refine c_t (by simp) ?_;rw[jby];have e1:(bif st'==0 then ByteArray.empty else ByteArray.empty)=sz []:=by cases st'==0<;>rfl
  have e2:(st'==0&&decide (((0:Nat):Int)>0))=false:=by simp
  rw[e1,e2]
 ·have h:xpGo (bz s) 0 0 []=(zc d' m',decide (st'=0)):=h;have hr:=jap.1 hr;have hl:=jbe hr;refine c_t (by rw[jba hr.plain];rfl) fun x=>c_t (by rw[hr.str.1];simp) ?_
  rw[hr.str.2,jby];have e1:(bif st'==0 then sz (zc d' m')else sz (zc d' m'))=sz (zc d' m'):=by cases st'==0<;>rfl
  have e2:exOK (bz s)=(st'==0&&decide ((m':Int)>0)):=by
   rw[exOK,h];simp only;rw[Kl];simp only[jaf,jae,K4,Ks,List.isEmpty_eq_false_iff];constructor
   ·rintro ⟨a,b⟩;have:=List.length_pos_iff.2 b;exact⟨a,by omega⟩
   ·rintro ⟨a,b⟩;exact⟨a,fun q=>by rw[q]at hl;simp at hl;omega⟩
  rw[e1,e2,h]
end Go.Px
end
noncomputable section
namespace Go.Px
open Go Go.Ab Go.Proofs Go.Shelf
theorem c280:jbt Tryz.prog 118:=cal Tryz.func118 (by kernel_rfl) (by kernel_rfl)
def jcc:O→Int→Int
 | [],_=> -1
 | b::l,c=>if jcc l c= -1 then(if b=c then 0 else -1)else jcc l c+1
theorem jes(c:Int):∀l:O,(jcc l c= -1∧ ∀j,j<l.length→l.getD j 0≠c)∨(∃i:Nat,i<l.length∧jcc l c=i∧l.getD i 0=c∧ ∀j,i<j→j<l.length→l.getD j 0≠c)
 | []=> .inl ⟨rfl,fun j h=>by simp at h⟩
 | b::l=>by
  rcases jes c l with⟨e,h⟩ | ⟨i,hi,e,hc,h⟩
  ·simp only[jcc,e,if_true];by_cases hb:b=c
   ·rw[Kd hb];refine .inr ⟨0,by simp,rfl,by simpa using hb,fun j h1 h2=> ?_⟩;obtain⟨j,rfl⟩:∃k,j=k+1:=⟨j-1,by omega⟩
    simpa using h j (by simpa using h2)
   ·rw[Kc hb];refine .inl ⟨rfl,fun j h1=> ?_⟩;cases j with
    | zero=>simpa using hb
    | succ j=>simpa using h j (by simpa using h1)
  ·simp only[jcc];rw[Kc (by omega),e];refine .inr ⟨i+1,by simpa using hi,by omega,by simpa using hc,fun j h1 h2=> ?_⟩;obtain⟨j,rfl⟩:∃k,j=k+1:=⟨j-1,by omega⟩
   simpa using h j (by omega) (by simpa using h2)
theorem last_zl(s:Y)(c:Int):Lib.lastIndexByte s c=jcc (bz s) c:=by
 have hd:∀j,j<s.size→((s.data[j]!).toNat:Int)=(bz s).getD j 0:=fun j hj=>by
  have hj':j<s.data.size:=hj;rw[getElem!_pos s.data j hj'];simp only[bz,List.getD_eq_getElem?_getD,List.getElem?_map,Array.getElem?_toList];rw[Array.getElem?_eq_getElem hj'];rfl
 rcases Lib.lastIndexByte_spec s c with⟨e,h⟩ | ⟨i,hi,e,hc,h⟩ <;>rcases jes c (bz s)with⟨e',h'⟩ | ⟨i',hi',e',hc',h'⟩
 ·rw[e,e']
 ·rw[jak]at hi';exact absurd hc' (by rw[←hd i' hi'];exact h i' hi')
 ·rw[hd i hi]at hc;exact absurd hc (h' i (by rw[jak];exact hi))
 ·rw[jak]at hi' h';rw[hd i hi]at hc;rw[e,e'];rcases Nat.lt_trichotomy i i' with q | q | q
  ·exact absurd hc' (by rw[←hd i' hi'];exact h i' q hi')
  ·rw[q]
  ·exact absurd hc (h' i q hi)
theorem jjq(l:O)(c:Int): -1≤jcc l c∧jcc l c<l.length:=by
 rcases jes c l with⟨e,_⟩ | ⟨i,hi,e,_⟩ <;>omega
def s280(s:Y)(c:U8):Bool×Value:=(decide (s.size≤1000),.int .i64 (jcc (bz s) c.n))
theorem ok280:jan Tryz.prog 118 (sp2 s280):=jdf c280 fun s c hc w _=>by
 refine(Any.strings_LastIndexByte Tryz.lays149 s c.n (by have:s.size≤1000:=jab hc;omega) w).mono fun e w' ⟨h1,h2⟩=>⟨?_,jci h2⟩
 rw[h1,last_zl];rfl
structure VwP (d:J)(m:Nat):Prop where
 bytes:jbz d=true
 len:d.length=m
 rng:IsB (d.map iv)
def vwOK(d:J)(m:Nat):Bool:=jbz d&& (Nat.beq d.length m&& (d.map iv).all fun c=>decide (0≤c∧c<256))
theorem jc3{d:J}{m:Nat}:vwOK d m=true↔VwP d m:=by
 simp only[vwOK,jaf,Nat.beq_eq,Kf,jae];exact⟨fun⟨a,b,c⟩=>⟨a,b,c⟩,fun⟨a,b,c⟩=>⟨a,b,c⟩⟩
theorem isBytes_plain{d:J}(h:jbz d=true):ja1 d=true:=by
 rw[←jml h];exact jhv _
theorem VwP.plain{d:J}{m:Nat}(h:VwP d m):ja1 d=true:=isBytes_plain h.bytes
theorem jlt(s:Y):VwP (Lib.strCells s) s.size∧zc (Lib.strCells s) s.size=bz s:=by
 rw[strCells_eq]
 have e:(cz (bz s)).map iv=bz s:=by
  rw[cz,List.map_map];have:(iv∘fun n:Int=>Value.int .u8 n)=id:=by funext n;rfl
  rw[this,List.map_id]
 refine⟨⟨jev _,by simp,by rw[e];exact jdh s⟩,?_⟩;rw[zc,Kw (by simp),e]
theorem VwP.zlen{d:J}{m:Nat}(h:VwP d m):(zc d m).length=m:=by
 simp only[zc,K9,Kp,h.len];omega
theorem at_bytes:∀{d:J}{j:Nat},jbz d=true→j<d.length→jbg .u8 d j=true∧jar d j=(d.map iv).getD j 0
 | .int .u8 n::r,0,_,_=>⟨rfl,rfl⟩
 | .int .u8 n::r,j+1,h,hj=>by
  have:=at_bytes (d:=r) (j:=j) (by simpa[jbz]using h) (by simpa using hj);simpa[jbg,jar]using this
theorem VwP.at{d:J}{m:Nat}(h:VwP d m){j:Int}(h0:0≤j)(hj:j<m):jbg .u8 d j.toNat=true∧(0≤jar d j.toNat∧jar d j.toNat<256)∧(zc d m).drop j.toNat=jar d j.toNat::(zc d m).drop (j+1).toNat:=by
 have hl:=h.len;obtain⟨q1,q2⟩:=at_bytes h.bytes (j:=j.toNat) (by omega);refine⟨q1,?_,?_⟩
 ·rw[q2,List.getD_eq_getElem?_getD];cases hh:(d.map iv)[j.toNat]? with
  | none=>simp
  | some c=>exact h.rng c (List.mem_of_getElem? hh)
 have e:zc d m=d.map iv:=by rw[zc,Kw (by omega)]
 rw[e,q2,jet _ _ (by rw[K9];omega),show(j+1).toNat=j.toNat+1 by omega]
theorem VwP.good{d:J}{m:Nat}(h:VwP d m)(ps:List (Nat×Nat)):(jas ps d&&true&&true)=true:=by rw[goodL_plain h.plain];rfl
theorem VwP.rlb{d:J}{m:Nat}(h:VwP d m)(ps:List (Nat×Nat)):rlbL ps d=d:=rlbL_plain ps h.plain
theorem VwP.end{d:J}{m:Nat}(h:VwP d m){j:Int}(hj:(m:Int)≤j):(zc d m).drop j.toNat=[]:=KD (by rw[h.zlen];omega)
def k5:O:=[44,46,47,66,86]
theorem idx_neg(l:O)(c:Int):decide (idxZ l c<0)= !hasZ l c:=by
 have:=jg5 c l;rw[←jbj]at this;cases h:hasZ l c with
 | true=>rw[h]at this;have:=this.2.2 rfl;simp;omega
 | false=>
  rw[h]at this;have:¬0≤idxZ l c:=fun q=>by have:=this.2.1 q;cases this
  simp;omega
theorem ch_at{i:Int}(h0:0≤i)(h:i<4):∃c,jar [Value.int IntKind.u8 36,Value.int IntKind.u8 83,Value.int IntKind.u8 43,Value.int IntKind.u8 45] (0+i.toNat*1)=c∧
  jbg IntKind.u8 [Value.int IntKind.u8 36,Value.int IntKind.u8 83,Value.int IntKind.u8 43,Value.int IntKind.u8 45] (0+i.toNat*1)=true∧
  oneB (Utf8.encode c)=true∧(bz (Utf8.encode c)).getD 0 0=c∧(0<c∧c<128)∧List.drop i.toNat [36,83,43,45]=c::List.drop (i+1).toNat [36,83,43,45]:=by
 have:i=0∨i=1∨i=2∨i=3:=by omega
 rcases this with rfl | rfl | rfl | rfl
 ·exact⟨36,rfl,rfl,by kernel_rfl,by kernel_rfl,by omega,rfl⟩
 ·exact⟨83,rfl,rfl,by kernel_rfl,by kernel_rfl,by omega,rfl⟩
 ·exact⟨43,rfl,rfl,by kernel_rfl,by kernel_rfl,by omega,rfl⟩
 ·exact⟨45,rfl,rfl,by kernel_rfl,by kernel_rfl,by omega,rfl⟩
theorem jf8(c:Int):∀{l:O},c∈l→0≤idxZ l c∧idxZ l c<l.length
 | b::l,h=>by
  simp only[idxZ];by_cases hb:b=c
  ·rw[Kd hb];simp only[List.length_cons];omega
  ·rw[Kc hb];have:=jf8 c (l:=l) (by rcases Kg.1 h with q | q;exact absurd q.symm hb;exact q);rw[Kc (by omega)];simp only[List.length_cons];omega
theorem jju(c:Int):∀{l:O},c∈l→idxZ l c≤jcc l c
 | b::l,h=>by
  simp only[idxZ,jcc];have:=jjq l c;by_cases hl:c∈l
  ·have ih:=jju c hl;have i1:=jf8 c hl;rw[Kc (show¬jcc l c= -1 by omega)];split
   ·omega
   ·split<;>omega
  ·have hb:b=c:=by rcases Kg.1 h with q | q;exact q.symm;exact absurd q hl
   rw[Kd hb,Kd hb];split<;>omega
theorem jj9{l:O}{c:Int}(h:¬(cntZ l c:Int)<2):c∈l:=by
 have:0<cntZ l c:=by omega
 unfold cntZ at this;obtain⟨x,hx⟩:=List.exists_mem_of_length_pos this;obtain⟨h1,h2⟩:=List.mem_filter.1 hx;exact eq_of_beq h2▸h1
def drP(c:Int)(l:O):Bool:=l.all fun x=>x==c || hasZ k5 x
def drC(b:O)(c:Int):Bool:= !hasZ (b.take (idxZ b c).toNat) 86&&drP c ((b.take (jcc b c+1).toNat).drop (idxZ b c).toNat)
def jfc:O→O→Int→Int→Bool×Int×Int
 | [],_,d,f=>(true,d,f)
 | c::r,b,d,f=>bif decide ((cntZ b c:Int)<2)then jfc r b d f else bif d !=0 then(false,0,0)else bif drC b c then jfc r b c (idxZ b c)else(false,0,0)
def G20:Env:=(((Env.nil.add 221 (sp2 s141)).add 253 (sp2 s157)).add 189 (sp2 s132)).add 118 (sp2 s280)
theorem ok_G20:ja3 Tryz.prog G20:=jaj (jaj (jaj (jaj jav ok141) ok157) ok132) ok280
def V131_2:Y×Bool×Int×Int×Int×Y×Int×Int×Bool×J×Nat×Nat×Int×Int→J:=fun(b,r,c,L4,i,s,dr,f,cr,d,m,cap,L,j)=> [.pointer (some ⟨3,0,some 0⟩),S b,B r,C8 c,.slice (some ⟨300,0,some 1⟩) 4 4,I L4,I i,.slice (some ⟨390,0,some 1⟩) m cap,I L,I j]
def B131_2:Y×Bool×Int×Int×Int×Y×Int×Int×Bool×J×Nat×Nat×Int×Int→Ya:=fun(b,r,c,L4,i,s,dr,f,cr,d,m,cap,L,j)=> [some ⟨[S s,B true,I 0,I 0,I 0,B false,.slice none 0 0,C8 dr,I f,B cr,C8 32,I 0],132,true⟩,some ⟨[C8 36,C8 83,C8 43,C8 45],5,false⟩,some ⟨d,5,false⟩]
def S131_2:LSpecA (Y×Bool×Int×Int×Int×Y×Int×Int×Bool×J×Nat×Nat×Int×Int) where
 live:=[0,1,4,6,14,15,16,58,59,60]
 mid:=[3,300,390]
 n:=400
 ap:=[(.tmp 58,390)]
 dec vs bs:=match vs,bs with | [.pointer (some ⟨3,0,some 0⟩),.string b,.bool r,.int .u8 c,.slice (some ⟨300,0,some 1⟩) 4 4,.int .i64 L4,.int .i64 i,.slice (some ⟨390,0,some 1⟩) m cap,.int .i64 L,.int .i64 j],[some ⟨[.string s,.bool true,.int .i64 0,.int .i64 0,.int .i64 0,.bool false,.slice none 0 0,.int .u8 dr,.int .i64 f,.bool cr,.int .u8 32,.int .i64 0],132,true⟩,some ⟨[.int .u8 36,.int .u8 83,.int .u8 43,.int .u8 45],5,false⟩,some ⟨d,5,false⟩]=>some (b,r,c,L4,i,s,dr,f,cr,d,m,cap,L,j) | _,_=>none
 pre:=fun(b,r,c,L4,i,s,dr,f,cr,d,m,cap,L,j)=>vwOK d m&&decide (0≤j∧j≤m∧m≤100∧L=m)
 fin:=fun(b,r,c,L4,i,s,dr,f,cr,d,m,cap,L,j) Z=>(bif drP c ((zc d m).drop j.toNat)then Z (.exit 2) [.pointer (some ⟨3,0,some 0⟩),S b,B r,C8 c,.slice (some ⟨300,0,some 1⟩) 4 4,I L4,I i,.slice (some ⟨390,0,some 1⟩) m cap,I L,I m] [some ⟨[S s,B true,I 0,I 0,I 0,B false,.slice none 0 0,C8 dr,I f,B cr,C8 32,I 0],132,true⟩,some ⟨[C8 36,C8 83,C8 43,C8 45],5,false⟩,some ⟨d,5,false⟩]else∀j',Z .ret [.pointer (some ⟨3,0,some 0⟩),S b,B false,C8 c,.slice (some ⟨300,0,some 1⟩) 4 4,I L4,I i,.slice (some ⟨390,0,some 1⟩) m cap,I L,I j'] [some ⟨[S s,B true,I 0,I 0,I 0,B false,.slice none 0 0,C8 dr,I f,B cr,C8 32,I 0],132,true⟩,some ⟨[C8 36,C8 83,C8 43,C8 45],5,false⟩,some ⟨d,5,false⟩])
def kr(b:List (Prod Nat Nat))(c:J)(a:Nat):Option Blk:=some (.mk (rlbL ((a,a)::b) c) 5 false)
def lp:J:=[am 36,am 83,am 43,am 45]
def ie(b f l:Bool)(a:Y)(c d e j k m n:Int)(h i:Nat)(g:Option Addr):Option Blk:=some (.mk [.string a,.bool b,ak c,ak d,ak e,.bool f,.slice g h i,am j,ak k,.bool l,am m,ak n] 132 true)
def l0(a:Bool)(b:Y)(c d e f g h:Int):Option Blk:=ie true false a b c d e f g 32 h 0 0 none
def ft(a:Y)(c:J)(b:Value):J:=ar 3:: .string a::b::c
def mf(a b c:Bool)(d:Exit→J→Ya→Prop)(g:Ya)(e h:J)(f:Option Blk):Prop:=bif a then bif b then bif c then d .ret e (f::g)else False else bm c d (f::g) h else False
def c9(b:Int)(a:J):Int:=jar a (ew b)
theorem r131_2(b:Y)(r:Bool)(c:Int)(L4:Int)(i:Int)(s:Y)(dr:Int)(f:Int)(cr:Bool)(d:J)(m:Nat)(cap:Nat)(L:Int)(j:Int)(jk:Tmps)(R:Exit→J→Ya→Prop):(jbn Tryz.prog G20 noL Tryz.f188.ntmps (ja2 Tryz.f188 2) (tl S131_2.live (V131_2 (b,r,c,L4,i,s,dr,f,cr,d,m,cap,L,j)) jk) (ml S131_2.mid (B131_2 (b,r,c,L4,i,s,dr,f,cr,d,m,cap,L,j))) S131_2.n fun e t' m' _=>S131_2.out R e t' m')=(dy (bw j L) (cl j (m:Int)) (f0 d 390 390) (bif jbg .u8 d (ew j)then mf (bv (c9 j d !=c) (cl (c9 j d) 256&&true) true) (c9 j d !=c&&decide (idxZ (bz ⟨#[44,46,47,66,86]⟩) (c9 j d)<0)) (f0 d 390 390) R [some (.mk lp 5 false),kr [] d 390] (ft b (am c::cq 300 0 4 4::ak L4::ak i::du L j 390 m cap) (B false)) (ft b (am c::cq 300 0 4 4::ak L4::ak i::dp L j 390 m cap) (B r)) (l0 cr s 0 0 0 dr f 0)else False) (R (.exit 2) (ft b (am c::cq 300 0 4 4::ak L4::ak i::du L j 390 m cap) (B r)) [l0 cr s 0 0 0 dr f 0,some (.mk lp 5 false),kr [] d 390])):=by kernel_rfl
theorem l131_2:∀t m n K,S131_2.hA t m n K→Ab.Sem Tryz.prog Tryz.f188.ntmps (.loop (ja2 Tryz.f188 2)) t m n K:=by
 refine jbo ok_G20 hmix (by kernel_rfl) (ja0 _) S131_2 V131_2 B131_2 (fun(b,r,c,L4,i,s,dr,f,cr,d,m,cap,L,j)=>(m-j).toNat) ?_ ?_ ?_
 ·intro vs bs s h;simp only[S131_2]at h;split at h
  all_goals first | (cases h;exact⟨rfl,rfl⟩) | cases h | (split at h<;>first | (rename_i hq;cases h;have hq:=jah hq;subst hq;exact⟨rfl,rfl⟩) | cases h)
 ·exact fun⟨b,r,c,L4,i,s,dr,f,cr,d,m,cap,L,j⟩ hp=>by
   simp only[S131_2,jaf]at hp;simp[V131_2,B131_2,S131_2,jaw,jbs,idsL,ids,jao (jc3.1 hp.1).plain]
 ·intro⟨b,r,c,L4,i,s,dr,f,cr,d,m,cap,L,j⟩ jk Z hp hf;rw[r131_2];delta e7 dy kr am lp ak ie l0 ar ft bp cq du bm mf ax az ct dp f0 ew c9 bv cl bw;simp only[S131_2]at hp hf;simp only[jaf,jae]at hp;obtain⟨hv,hp⟩:=hp;have hV:=hv;have hv:=jc3.1 hv;have k:bz ⟨#[44,46,47,66,86]⟩=k5:=rfl;rw[k,Nat.mul_one,Nat.zero_add];simp only[hv.rlb];apply Ka<;>intro h
  ·have h:=jab h;obtain⟨a1,a2,a3⟩:=hv.at hp.1 (by omega);rw[a3]at hf;rw[jaa a2,idx_neg];have e:drP c (jar d j.toNat::List.drop (j+1).toNat (zc d m))=((jar d j.toNat==c || hasZ k5 (jar d j.toNat)) &&drP c (List.drop (j+1).toNat (zc d m))):=rfl;rw[e]at hf;refine c_t (jaa (by omega)) (c_t a1 (c_t (by cases(jar d j.toNat !=c) <;>rfl) (Ka (fun q=>c_t (hv.good _) ?_) (fun q=>c_t (hv.good _) ?_))))
   ·have q':(jar d j.toNat==c || hasZ k5 (jar d j.toNat))=false:=by
     simp only[jaf,KM,Ks]at q;rw[q.2,Bool.or_false];simpa using q.1
    rw[q',Bool.false_and,cond_false]at hf;exact hf j
   ·have q':(jar d j.toNat==c || hasZ k5 (jar d j.toNat))=true:=by
     cases h1:(jar d j.toNat==c)with
     | true=>rfl
     | false=>
      have h2:(jar d j.toNat !=c)=true:=by rw[bne,h1];rfl
      rw[h2,Bool.true_and,Bool.not_eq_false']at q;rw[q];rfl
    rw[q',Bool.true_and]at hf;rw[w64 (by omega)];exact⟨(b,r,c,L4,i,s,dr,f,cr,d,m,cap,L,j+1),rfl,rfl,by simp only[S131_2,jaf,jae];exact⟨hV,by omega⟩,by simp only;omega,hf⟩
  ·have h:=jac h;rw[hv.end (by omega),drP,List.all_nil,cond_true]at hf;obtain rfl:j=m:=by omega
   exact c_t (hv.good _) hf
theorem lk131:LOK Tryz.prog (oneL 2 S131_2.hA) Tryz.f188.ntmps (ja2 Tryz.f188 0):=lok_one (by kernel_rfl) l131_2
def V131_0:Y×Bool×Int×Int×Y×Int×Int×Bool→J:=fun(b,r,L4,i,s,dr,f,cr)=> [.pointer (some ⟨3,0,some 0⟩),S b,B r,.slice (some ⟨300,0,some 1⟩) 4 4,I L4,I i]
def B131_0:Y×Bool×Int×Int×Y×Int×Int×Bool→Ya:=fun(b,r,L4,i,s,dr,f,cr)=> [some ⟨[S s,B true,I 0,I 0,I 0,B false,.slice none 0 0,C8 dr,I f,B cr,C8 32,I 0],132,true⟩,some ⟨[C8 36,C8 83,C8 43,C8 45],5,false⟩]
def S131_0:LSpecA (Y×Bool×Int×Int×Y×Int×Int×Bool) where
 live:=[0,1,4,14,15,16]
 mid:=[3,300]
 n:=310
 ap:=[(.tmp 14,300)]
 dec vs bs:=match vs,bs with | [.pointer (some ⟨3,0,some 0⟩),.string b,.bool r,.slice (some ⟨300,0,some 1⟩) 4 4,.int .i64 L4,.int .i64 i],[some ⟨[.string s,.bool true,.int .i64 0,.int .i64 0,.int .i64 0,.bool false,.slice none 0 0,.int .u8 dr,.int .i64 f,.bool cr,.int .u8 32,.int .i64 0],132,true⟩,some ⟨[.int .u8 36,.int .u8 83,.int .u8 43,.int .u8 45],5,false⟩]=>some (b,r,L4,i,s,dr,f,cr) | _,_=>none
 pre:=fun(b,r,L4,i,s,dr,f,cr)=>decide (L4=4∧0≤i∧i≤4∧b.size≤100∧0≤dr∧dr<256)
 fin:=fun(b,r,L4,i,s,dr,f,cr) Z=>(bif (jfc (List.drop i.toNat [36,83,43,45]) (bz b) dr f).1 then∀dr' f',jfc (List.drop i.toNat [36,83,43,45]) (bz b) dr f=(true,dr',f')→Z (.exit 0) [.pointer (some ⟨3,0,some 0⟩),S b,B r,.slice (some ⟨300,0,some 1⟩) 4 4,I L4,I 4] [some ⟨[S s,B true,I 0,I 0,I 0,B false,.slice none 0 0,C8 (dr'),I (f'),B cr,C8 32,I 0],132,true⟩,some ⟨[C8 36,C8 83,C8 43,C8 45],5,false⟩]else∀i' dr' f',Z .ret [.pointer (some ⟨3,0,some 0⟩),S b,B false,.slice (some ⟨300,0,some 1⟩) 4 4,I L4,I i'] [some ⟨[S s,B true,I 0,I 0,I 0,B false,.slice none 0 0,C8 (dr'),I (f'),B cr,C8 32,I 0],132,true⟩,some ⟨[C8 36,C8 83,C8 43,C8 45],5,false⟩])
def l4(c:Bool)(a b:Int)(d e:Prop):Prop:=bif cl a b then bif c then d else e else False
def nx(f g:Bool)(a:Y)(b c d e:Nat)(h i:Prop):Prop:=a.size.ble b=true→jt f [(c,d)] (Lib.strCells a) e (bif g then h else Int→i)
def jd(a:Int):Int:=jar lp (ew a)
def pj(a:Bool)(b d:Y)(c:Int):Ya:=[ie true false a b 0 0 0 (jd c) (idxZ (bz d) (jd c)) 32 0 0 0 none,some (.mk lp 5 false)]
def jc(c:Y)(a b:Nat):J:=rlbL [(a,b)] (Lib.strCells c)
def mg(a:Y)(b:Int):Y:=a.extract (idxZ (bz a) (jd b)).toNat (fx (jcc (bz a) (jd b)+1))
def ku(c:Y)(a b:Nat):O:=(zc (jc c a b) c.size).drop (Int.toNat 0)
def jy(a:UInt8):Int:=(bz ⟨#[a]⟩).getD 0 (0:Int)
theorem r131_0(b:Y)(r:Bool)(L4:Int)(i:Int)(s:Y)(dr:Int)(f:Int)(cr:Bool)(jk:Tmps)(R:Exit→J→Ya→Prop):(jbn Tryz.prog G20 (oneL 2 S131_2.hA) Tryz.f188.ntmps (ja2 Tryz.f188 0) (tl S131_0.live (V131_0 (b,r,L4,i,s,dr,f,cr)) jk) (ml S131_0.mid (B131_0 (b,r,L4,i,s,dr,f,cr))) S131_0.n fun e t' m' _=>S131_0.out R e t' m')=(bif bw i L4 then ja (jbg .u8 lp (ew i)) i 4 (bif oneB (Utf8.encode (jd i))then bif decide ((cntZ (bz b) ((bz (Utf8.encode (jd i))).getD 0 (0:Int)):Int)<2)then R .normal (ft b (dp L4 i 300 4 4) (B r)) [l0 cr s 0 0 0 dr f 0,some (.mk lp 5 false)]else bif dr !=0 then R .ret (ft b (du L4 i 300 4 4) (B false)) [l0 cr s 0 0 0 dr f 0,some (.mk lp 5 false)]else l4 (fy b) (jd i) 256 (bif c7 0 0 (idxZ (bz b) (jd i)) (idxZ (bz b) (jd i)) (al b)then bif hasZ (bz (b.extract 0 (idxZ (bz b) (jd i)).toNat)) (jy 86)then R .ret (ft b (du L4 i 300 4 4) (B false)) (pj cr s b i)else bif c7 0 (idxZ (bz b) (jd i)) (fp (jcc (bz b) (jd i)) 1) (fp (jcc (bz b) (jd i)) 1) (al b)then∀a:Nat,nx (S131_2.toLSpec.pre (b,(r,(jd i,(L4,(i,(s,(jd i,(idxZ (bz b) (jd i),(cr,(jc (mg b i) 355 390,((mg b i).size,(a,(natO (mg b i).size,(0:Int))))))))))))))) (drP (jd i) (ku (mg b i) 355 390)) (mg b i) a 355 390 400 (jh (jc (mg b i) 355 390) 400 (R .normal (ft b (dp L4 i 300 4 4) (B r)) (pj cr s b i))) (jh (jc (mg b i) 355 390) 400 (R .ret (ft b (du L4 i 300 4 4) (B false)) (pj cr s b i)))else False else False) False else False) False else R (.exit 0) (ft b (du L4 i 300 4 4) (B r)) [l0 cr s 0 0 0 dr f 0,some (.mk lp 5 false)]):=by kernel_rfl
theorem l131_0:∀t m n K,S131_0.hA t m n K→Ab.Sem Tryz.prog Tryz.f188.ntmps (.loop (ja2 Tryz.f188 0)) t m n K:=by
 refine jbo ok_G20 hmix (by kernel_rfl) lk131 S131_0 V131_0 B131_0 (fun(b,r,L4,i,s,dr,f,cr)=>(4-i).toNat) ?_ ?_ ?_
 ·intro vs bs s h;simp only[S131_0]at h;split at h
  all_goals first | (cases h;exact⟨rfl,rfl⟩) | cases h | (split at h<;>first | (rename_i hq;cases h;have hq:=jah hq;subst hq;exact⟨rfl,rfl⟩) | cases h)
 ·exact fun⟨b,r,L4,i,s,dr,f,cr⟩ hp=>by
   simp[V131_0,B131_0,S131_0,jaw,jbs,idsL,ids]
 ·intro⟨b,r,L4,i,s,dr,f,cr⟩ jk Z hp hf;rw[r131_0];delta am lp ak ie l0 ar ft bp cq du cl ja l4 dx jv jt nx jh ew jd pj jc fx mg ax az ct dp ku c7 al fp jy fy bw;simp only[S131_0]at hp hf;simp only[jae]at hp;have hL4:=hp.1;apply Ka<;>intro h
  ·have h:=jab h;obtain⟨c,c1,c2,c3,c4,c5,c6⟩:=ch_at hp.2.1 (by omega);rw[c1,c2,c4,c3,w64 (n:=i+1) (by omega)];rw[c6,jfc]at hf;clear c1 c2 c3 c4 c6;refine c_t (jaa (by omega)) (c_t rfl (c_t rfl (Ka (fun q=> ?_) (fun q=> ?_))))
   ·rw[q,cond_true]at hf;exact⟨(b,r,L4,i+1,s,dr,f,cr),rfl,rfl,by simp only[S131_0,jae];omega,by simp only;omega,hf⟩
   ·rw[q,cond_false]at hf;have q:=jac q;have hm:=jj9 q;have i1:=jf8 c hm;have i2:=jju c hm;have i3:=jjq (bz b) c;rw[jak]at i1 i3;refine Ka (fun e=> ?_) (fun e=>c_t (jaa (by omega)) (c_t (jaa (by omega)) (c_t (jaa (by omega)) ?_)))
    ·rw[e]at hf;exact hf i dr f
    ·rw[e,cond_false]at hf;have k6:(bz ⟨#[86]⟩).getD 0 0=86:=rfl;have ex:bz (b.extract 0 (idxZ (bz b) c).toNat)=(bz b).take (idxZ (bz b) c).toNat:=by rw[jb5];simp
     have ex2:bz (b.extract (idxZ (bz b) c).toNat (jcc (bz b) c+1).toNat)=((bz b).take (jcc (bz b) c+1).toNat).drop (idxZ (bz b) c).toNat:=jb5 _ _ _;rw[k6,ex,w64 (n:=jcc (bz b) c+1) (by omega)];refine Ka (fun e=> ?_) (fun e=>c_t (jaa (by omega)) (fun cap hcap=> ?_))
     ·rw[drC,e]at hf;exact hf i _ _
     ·obtain⟨v1,v2⟩:=jlt (b.extract (idxZ (bz b) c).toNat (jcc (bz b) c+1).toNat);have v3:=jc3.2 v1
      have hsz:(b.extract (idxZ (bz b) c).toNat (jcc (bz b) c+1).toNat).size≤100:=by
       rw[←jak,ex2,KE,Kp,jak];omega
      have g1:=v1.good;have g2:=v1.rlb;have g3:=jba v1.plain;rw[ex2]at v2;rw[drC,e,Bool.not_false,Bool.true_and,←v2]at hf;simp only[g2];clear ex2;generalize b.extract (idxZ (bz b) c).toNat (jcc (bz b) c+1).toNat=y at*;generalize Lib.strCells y=d at*;refine c_t (by rw[g1,g3];rfl) (c_t ?_ (Ka (fun a=>c_t (by rw[g3];rfl) fun x=> ?_) (fun a j'=>c_t (by rw[g3];rfl) fun x=> ?_)))
      ·simp only[S131_2,jaf,jae];exact⟨v3,by omega,by omega,hsz,jby _⟩
      ·have a:drP c (zc d y.size)=true:=a;rw[a,cond_true]at hf;exact⟨(b,r,L4,i+1,s,c,idxZ (bz b) c,cr),rfl,rfl,by simp only[S131_0,jae];omega,by simp only;omega,hf⟩
      ·have a:drP c (zc d y.size)=false:=a;rw[a]at hf;exact hf i _ _
  ·have h:=jac h;obtain rfl:i=4:=by omega
   subst hL4;exact hf dr f rfl
end Go.Px
end
