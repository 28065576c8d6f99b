/-
  Part 1: the run and laws.
-/
import Derived.Test.YtoofiemfbldebaaGreatDoorC1Ab1
import Derived.Test.YtoofiemfbldebaaGreatDoorC1Ab2
import Derived.Test.YtoofiemfbldebaaGreatDoorC1Ab3
import Derived.Test.YtoofiemfbldebaaGreatDoorC1Ab4
import Derived.Test.YtoofiemfbldebaaGreatDoorC1Ab5
import Derived.Test.YtoofiemfbldebaaGreatDoorC1Ab6
import Derived.Test.YtoofiemfbldebaaGreatDoorC1Ab7
import Derived.Test.YtoofiemfbldebaaGreatDoorC1AbE
import Derived.Test.YtoofiemfbldebaaGreatDoorC1Ab8
import Derived.Test.YtoofiemfbldebaaGreatDoorC1Ab9
import Derived.Test.YtoofiemfbldebaaGreatDoorC1Ab10
import Derived.Test.YtoofiemfbldebaaGreatDoorC1Ab11
import Derived.Test.YtoofiemfbldebaaGreatDoorC1Ab12
import Derived.Test.YtoofiemfbldebaaGreatDoorC1Ab13
import Derived.Test.YtoofiemfbldebaaGreatDoorC1Ab14
import Derived.Test.YtoofiemfbldebaaGreatDoorC1AbW
import Derived.Test.YtoofiemfbldebaaGreatDoorC1Ab15
import Derived.Test.YtoofiemfbldebaaGreatDoorC1Ab16
import Derived.Test.YtoofiemfbldebaaGreatDoorC1Ab17
import Derived.Test.YtoofiemfbldebaaGreatDoorC1Ab18
import Derived.Test.YtoofiemfbldebaaGreatDoorC1Ab19
import Derived.WalkKit
import Derived.ProofKit
import Derived.WideKeyArgs
import Derived.Test.YtoofiemfbldebaaGreatDoorLays
import Derived.Laws.RangeAny
import Derived.Shelf.Strings.LastIndex
import Derived.Shelf.Strconv.Itoa3
import Derived.Shelf.Strconv.AppendUint10
import Derived.Lib.ItoaLen
import Derived.Shelf.Strconv.Atoi
import Derived.Lib.AtoiErrMem
import Derived.Laws.BitsLemmas
import Derived.Lib.Strings
import Derived.JoinedOf
import Derived.SevenTiedAt
import Derived.Test.YtoofiemfbldebaaGreatDoorRows
import Derived.Lay
import Derived.LaidHandle
import Derived.LaidSub
import Derived.Lib.LaidTab
import Derived.Lib.LaidU8
import Derived.LaidMore
import Derived.Test.YtoofiemfbldebaaGreatDoorProg
import Derived.LaidEql
import Derived.Stop.Asserts
import Derived.RowKitTokens
import Derived.Shelf.Small.Strs
import Derived.Deep.Slices
import Derived.Test.YtoofiemfbldebaaGreatDoorLbys
import Derived.HandedShaped
import Derived.Shelf.Vars
set_option linter.unusedVariables false
set_option linter.unusedSimpArgs false
set_option linter.unusedSectionVars false
section
namespace Go.Px
open Go Go.Ab
def bz(s:Y):E:=s.data.toList.map fun b=>(b.toNat:Int)
def sz(l:E):Y:=⟨(l.map fun n=>UInt8.ofNat n.toNat).toArray⟩
def IsB(l:E):Prop:=∀c∈l,0≤c∧c<256
@[simp] theorem ja8 (s:Y):(bz s).length=s.size:=by
 unfold bz;rw[List.length_map,Array.length_toList];rfl
theorem byteAt_eq(s:Y)(i:Nat):jc8 s i=(bz s).getD i 0:=by
 simp only[jc8,bz,List.getD_eq_getElem?_getD,List.getElem?_map]
theorem jje(s:Y):IsB (bz s):=by
 intro c hc;simp only[bz,List.mem_map]at hc;obtain⟨b,_,rfl⟩:=hc;have:=b.toNat_lt;omega
theorem jjf(s:Y):sz (bz s)=s:=by
 simp only[sz,bz,List.map_map]
 have:((fun n:Int=>UInt8.ofNat n.toNat) ∘fun b:UInt8=>(b.toNat:Int))=id:=by
  funext b;simp
 rw[this];simp
theorem bz_sz{l:E}(h:IsB l):bz (sz l)=l:=by
 simp only[sz,bz,List.map_map]
 have:∀n∈l,((fun b:UInt8=>(b.toNat:Int)) ∘fun n:Int=>UInt8.ofNat n.toNat) n=n:=by
  intro n hn;have:=h n hn;simp only[Function.comp,UInt8.toNat_ofNat'];omega
 rw[List.map_congr_left this];simp
theorem bz_inj{a b:Y}(h:bz a=bz b):a=b:=by rw[←jjf a,←jjf b,h]
theorem bz_append(a b:Y):bz (a++b)=bz a++bz b:=by
 simp[bz,ByteArray.data_append]
theorem jdr(s:Y)(i j:Nat):bz (s.extract i j)=((bz s).take j).drop i:=by
 simp[bz,ByteArray.data_extract,List.map_drop,List.map_take,Array.toList_extract,List.extract_eq_take_drop,List.drop_take]
theorem sz_size(l:E):(sz l).size=l.length:=by simp[sz,ByteArray.size]
theorem toList_beq(a b:Y):(a.toList==b.toList)=decide (bz a=bz b):=by
 rw[ByteArray.toList_eq,ByteArray.toList_eq,Bool.eq_iff_iff,beq_iff_eq,jae];constructor
 ·intro h;simp[bz,h]
 ·intro h;have:=bz_inj h;rw[this]
theorem IsB.append{a b:E}(ha:IsB a)(hb:IsB b):IsB (a++b):=fun c hc=>by
 rcases List.mem_append.1 hc with h | h
 ·exact ha c h
 ·exact hb c h
theorem IsB.take{a:E}(ha:IsB a)(n:Nat):IsB (a.take n):=fun c hc=>ha c (List.mem_of_mem_take hc)
theorem IsB.drop{a:E}(ha:IsB a)(n:Nat):IsB (a.drop n):=fun c hc=>ha c (List.mem_of_mem_drop hc)
theorem IsB.nil:IsB []:=fun c hc=>by cases hc
theorem IsB.cons{c:Int}{a:E}(h:0≤c∧c<256)(ha:IsB a):IsB (c::a):=fun d hd=>by
 rcases List.mem_cons.1 hd with rfl | hd
 ·exact h
 ·exact ha d hd
def cz(l:E):U:=l.map fun n=> .int .u8 n
@[simp] theorem cz_length (l:E):(cz l).length=l.length:=by simp[cz]
theorem cz_append(a b:E):cz (a++b)=cz a++cz b:=by simp[cz]
theorem jfv:∀l:E,jas (cz l)=true
 | []=>rfl
 | c::r=>by simpa[cz,jas,plain]using jfv r
theorem jen:∀l:E,jba (cz l)=true
 | []=>rfl
 | c::r=>by simpa[cz,jba]using jen r
theorem cz_bytesL:∀l:E,jcs (cz l)=l.map fun n=>UInt8.ofNat n.toNat
 | []=>rfl
 | c::r=>by
  have:=cz_bytesL r;simp only[cz]at this;simp only[cz,List.map_cons,jcs,this]
theorem bytesOf_cz(l:E)(tail:U):jcm (cz l++tail) 0 l.length=sz l:=by
 simp only[jcm,List.drop_zero];rw[List.take_append_of_le_length (by simp),List.take_of_length_le (by simp),cz_bytesL];rfl
theorem bytesOK_cz(l:E)(tail:U):jd2 (cz l++tail) 0 l.length=true:=by
 simp only[jd2,List.drop_zero,jaf,Nat.ble_eq,List.length_append,cz_length];rw[List.take_append_of_le_length (by simp),List.take_of_length_le (by simp)];exact⟨jen l,by omega⟩
theorem strCells_eq(s:Y):Lib.strCells s=cz (bz s):=by
 simp[Lib.strCells,cz,bz]
theorem je6(l:E)(i:Nat)(h:i<l.length):l.drop i=l.getD i 0::l.drop (i+1):=by
 rw[List.drop_eq_getElem_cons h];simp[List.getD_eq_getElem?_getD,h]
end Go.Px
end
section
namespace Go.Px
open Go Go.Ab Go.Proofs Go.Shelf
def punchedZ:E:=[123,65,66,67,68,69,70,71,72,73,125,74,75,76,77,78,79,80,81,82]
def pow10Z:E:=[1,10,100,1000,10000,100000,1000000,10000000,100000000,1000000000,10000000000,100000000000,1000000000000,10000000000000,100000000000000,1000000000000000,10000000000000000,100000000000000000,1000000000000000000,10000000000000000000]
def jiu:Nat→Option U
 | 2=>some (punchedZ.map fun n=> .int .u8 n)
 | 7=>some (pow10Z.map fun n=> .int .u64 n)
 | 0=>some [.iface 266 (.agg ⟨[.pointer (some ⟨10,132,none⟩)]⟩)]
 | _=>none
instance tabs:Tabs where
 row:=jiu
 plain:=fun b r h=>by
  match b,h with
  | 2,h=>cases h;rfl
  | 7,h=>cases h;rfl
  | 0,h=>cases h;rfl
theorem hmix:Tryz.prog.follows .mixedOrders=true:=by kernel_rfl
structure U8 where n:Int
structure R32 where n:Int
structure U64 where n:Int
instance:Enc U8 where
 enc a:= .int .u8 a.n
 dec | .int .u8 n=>some ⟨n⟩ | _=>none
 dec_some:=by
  intro v a h;split at h
  ·cases h;rfl
  ·cases h
 plain_enc _:=rfl
instance:Enc R32 where
 enc a:= .int .i32 a.n
 dec | .int .i32 n=>some ⟨n⟩ | _=>none
 dec_some:=by
  intro v a h;split at h
  ·cases h;rfl
  ·cases h
 plain_enc _:=rfl
instance:Enc U64 where
 enc a:= .int .u64 a.n
 dec | .int .u64 n=>some ⟨n⟩ | _=>none
 dec_some:=by
  intro v a h;split at h
  ·cases h;rfl
  ·cases h
 plain_enc _:=rfl
theorem pure_shelf{P:Program}{f:FuncId}{s:Ab.Spec}(hc:ja6 P f)
  (h:∀args bs v,s args bs=some (true,v)→jas args=true∧ ∀w,TabsIn w.heap.size w→Calls P f args.toArray w fun e w'=>e= .returned v∧RowKit.Below w.heap.size w w'):jal P f s:=by
 refine⟨hc,fun args v N w0 lk ι w hrel hs hp=> ?_⟩;obtain⟨h1,h2⟩:=h _ _ _ hs;have hren:args.map (ren ι)=args:=by rw[←jbd,jbf _ h1]
 rw[hren];exact h2 w hrel.tabs
theorem jbx{w w':World}(h:w'=w):RowKit.Below w.heap.size w w':=h▸RowKit.Below.refl _ _
section
variable {α β : Type} [Enc α] [Enc β] {P : Program} {f : FuncId}
theorem shelf1(hc:ja6 P f){g:α→Bool×Value}(h:∀a,(g a).1=true→ ∀w,TabsIn w.heap.size w→Calls P f #[Enc.enc a] w fun e w'=>e= .returned (g a).2∧RowKit.Below w.heap.size w w'):jal P f (sp1 g):=by
 refine pure_shelf hc fun args bs v hs=> ?_
 simp only[sp1]at hs;split at hs
 ·split at hs
  ·rename_i ha;simp only[Option.some.injEq]at hs;obtain rfl:=Enc.dec_some ha;exact⟨by simp[jas,Enc.plain_enc],by have q:=h _ (by rw[hs]);rw[hs]at q;exact q⟩
  ·cases hs
 ·cases hs
theorem jct(hc:ja6 P f){g:α→β→Bool×Value}(h:∀a b,(g a b).1=true→ ∀w,TabsIn w.heap.size w→Calls P f #[Enc.enc a,Enc.enc b] w fun e w'=>e= .returned (g a b).2∧RowKit.Below w.heap.size w w'):jal P f (sp2 g):=by
 refine pure_shelf hc fun args bs v hs=> ?_
 simp only[sp2]at hs;split at hs
 ·split at hs
  ·rename_i ha hb;simp only[Option.some.injEq]at hs;obtain rfl:=Enc.dec_some ha;obtain rfl:=Enc.dec_some hb;exact⟨by simp[jas,Enc.plain_enc],by have q:=h _ _ (by rw[hs]);rw[hs]at q;exact q⟩
  ·cases hs
 ·cases hs
end
def idxZ:E→Int→Int
 | [],_=> -1
 | b::l,c=>if b=c then 0 else if idxZ l c= -1 then -1 else idxZ l c+1
def cntZ(l:E)(c:Int):Nat:=(l.filter (· ==c)).length
def sufZ(l p:E):Bool:=decide (p.length≤l.length∧l.drop (l.length-p.length)=p)
def hasZ(l:E)(c:Int):Bool:=l.any (· ==c)
def anyZ(l cs:E):Bool:=l.any (hasZ cs)
def je8(l cs:E):E:=((l.reverse.dropWhile (hasZ cs)).reverse).dropWhile (hasZ cs)
def repZ(l:E):Nat→E
 | 0=> []
 | n+1=>l++repZ l n
def numZ:E→Int→Int
 | [],a=>a
 | c::r,a=>numZ r (a*10+(c-48))
def jiv(c:Int):Bool:=decide (48≤c∧c≤57)
abbrev zl(l:O):E:=l.map fun b=>(b.toNat:Int)
theorem ji2{a b:UInt8}:((a.toNat:Int)=b.toNat)↔a=b:=by
 rw[Int.natCast_inj,UInt8.toNat_inj]
theorem jip(c:UInt8):∀l:O,Lib.indexByte l c=idxZ (zl l) c.toNat
 | []=>rfl
 | b::l=>by
  simp only[Lib.indexByte,zl,List.map_cons,idxZ,jip c l,ji2,beq_iff_eq]
theorem jhr(c:UInt8):∀l:O,l.contains c=hasZ (zl l) c.toNat
 | []=>rfl
 | b::l=>by
  have:=jhr c l;simp only[hasZ,zl]at this;rw[List.contains_cons,this];simp only[hasZ,zl,List.map_cons,List.any_cons];congr 1;rw[Bool.eq_iff_iff,beq_iff_eq,beq_iff_eq,ji2];exact eq_comm
theorem jb2{l:E}{c:Int}:hasZ l c=true↔c∈l:=by simp[hasZ]
theorem jfe(c:Int):∀l:E,-1≤idxZ l c∧(0≤idxZ l c↔c∈l)
 | []=>by simp[idxZ]
 | b::l=>by
  obtain⟨h1,h2⟩:=jfe c l;simp only[idxZ,List.mem_cons];by_cases hb:b=c
  ·simp[hb]
  ·rw[if_neg hb];have hb':¬c=b:=fun h=>hb h.symm
   split
   ·rename_i h;rw[h]at h2;simp only[hb',false_or];exact⟨by omega,by rw[←h2]⟩
   ·exact⟨by omega,by simp only[hb',false_or];rw[←h2];omega⟩
theorem cnt_zl(c:UInt8):∀l:O,Lib.countByte l c=cntZ (zl l) c.toNat
 | []=>rfl
 | b::l=>by
  have ih:=cnt_zl c l;simp only[Lib.countByte,cntZ,zl]at ih;simp only[Lib.countByte,cntZ,zl,List.map_cons,List.count_cons,List.filter_cons,ih];by_cases hb:b=c
  ·simp[hb]
  ·have:((b.toNat:Int)==(c.toNat:Int))=false:=by simpa[ji2]using hb
   simp[hb,this]
theorem zl_inj{a b:O}(h:zl a=zl b):a=b:=by
 have:=bz_inj (a:=⟨a.toArray⟩) (b:=⟨b.toArray⟩) (by simpa[bz]using h);simpa using congrArg (fun s:Y=>s.data.toList) this
theorem suf_zl(s p:O):Lib.hasSuffix s p=sufZ (zl s) (zl p):=by
 rw[Bool.eq_iff_iff];simp only[Lib.hasSuffix,sufZ,List.isSuffixOf_iff_suffix,jae,List.length_map];constructor
 ·rintro ⟨t,rfl⟩;exact⟨by simp,by simp⟩
 ·rintro ⟨h1,h2⟩;rw[←List.map_drop]at h2;have e:=zl_inj h2;exact⟨s.take (s.length-p.length),(congrArg (s.take (s.length-p.length)++ ·) e.symm).trans (List.take_append_drop ..)⟩
theorem jem{p:UInt8→Bool}{q:Int→Bool}(h:∀b:UInt8,p b=q b.toNat):∀l:O,zl (l.dropWhile p)=(zl l).dropWhile q
 | []=>rfl
 | b::l=>by
  simp only[List.dropWhile_cons,zl,List.map_cons,h b];split
  ·exact jem h l
  ·rfl
theorem trim_zl(l cs:O):zl (Lib.trimS l cs)=je8 (zl l) (zl cs):=by
 have h:∀b:UInt8,cs.contains b=hasZ (zl cs) b.toNat:=fun b=>jhr b cs
 simp only[Lib.trimS,Lib.trimLeftS,Lib.trimRightS,je8];rw[jem (q:=hasZ (zl cs)) h];congr 1;rw[zl,List.map_reverse,←List.map_reverse];have:=jem (p:=(cs.contains ·)) (q:=hasZ (zl cs)) h l.reverse;rw[List.map_reverse];simp only[zl,List.map_reverse]at this ⊢;rw[this]
theorem rep_zl(l:O):∀n,zl (Lib.repeatL l n)=repZ (zl l) n
 | 0=>rfl
 | n+1=>by
  have:=rep_zl l n;simp only[zl]at this;simp[Lib.repeatL,repZ,zl,this]
theorem jgh(l:O):(⟨l.toArray⟩:Y)=sz (zl l):=by
 rw[←jjf ⟨l.toArray⟩];simp[bz]
theorem jhu(s:Y):zl s.data.toList=bz s:=rfl
theorem cal {P : Program} {f : FuncId} {fn : Func} (h : P.funcs[f]? = some fn) (hn : (fn.name == "runtime.NumGoroutine") = false) (hb : fn.body.isSome = true) : ja6 P f := ⟨fn, h, hn, by cases hf : fn.body with | none => rw [hf] at hb; cases hb | some c => rfl⟩
theorem c141:ja6 Tryz.prog 140:=cal Tryz.func140 (by kernel_rfl) (by kernel_rfl)
theorem c157:ja6 Tryz.prog 185:=cal Tryz.func185 (by kernel_rfl) (by kernel_rfl)
theorem c130:ja6 Tryz.prog 148:=cal Tryz.func148 (by kernel_rfl) (by kernel_rfl)
theorem c132:ja6 Tryz.prog 150:=cal Tryz.func150 (by kernel_rfl) (by kernel_rfl)
theorem c102:ja6 Tryz.prog 114:=cal Tryz.func114 (by kernel_rfl) (by kernel_rfl)
theorem c89:ja6 Tryz.prog 67:=cal Tryz.func67 (by kernel_rfl) (by kernel_rfl)
theorem c68:ja6 Tryz.prog 118:=cal Tryz.func118 (by kernel_rfl) (by kernel_rfl)
def s141(s:Y)(c:U8):Bool×Value:=(decide (0≤c.n∧c.n<256),.int .i64 (idxZ (bz s) c.n))
theorem ok141:jal Tryz.prog 140 (sp2 s141):=jct c141 fun s c hc w _=>by
 have hc:0≤c.n∧c.n<256:=jab hc;refine(Any.strings_IndexByte Tryz.lays137 s c.n w).mono fun e w' ⟨h1,h2⟩=>⟨?_,jbx h2⟩
 rw[h1,jip];simp only[s141]
 have:((c.n.toNat.toUInt8.toNat:Nat):Int)=c.n:=by
  simp only[Nat.toUInt8,UInt8.toNat_ofNat'];omega
 rw[this,jhu]
def oneB(s:Y):Bool:=Nat.beq s.size 1
theorem je0{s:Y}(h:oneB s=true):∃c:UInt8,s=⟨#[c]⟩∧(c.toNat:Int)=(bz s).getD 0 0:=by
 have h:=jah h;have hl:s.data.toList.length=1:=by simpa using h
 match hm:s.data.toList,hl with
 | [c],_=>
  refine⟨c,?_,by simp[bz,hm]⟩;apply ByteArray.ext;apply Array.ext';simpa using hm
def s157(s t:Y):Bool×Value:=(oneB t,.int .i64 (cntZ (bz s) ((bz t).getD 0 0)))
theorem ok157:jal Tryz.prog 185 (sp2 s157):=jct c157 fun s t hc w _=>by
 obtain⟨c,h1,h2⟩:=je0 hc;have e:Enc.enc t=Value.string ⟨#[c]⟩:=congrArg Value.string h1;rw[e];refine(Any.strings_Count_one Tryz.lays138 s c w).mono fun e w' ⟨h3,h4⟩=>⟨?_,jbx h4⟩
 rw[h3,cnt_zl,h2];rfl
def s132(s t:Y):Bool×Value:=(oneB t,.bool (hasZ (bz s) ((bz t).getD 0 0)))
theorem ok132:jal Tryz.prog 150 (sp2 s132):=jct c132 fun s t hc w _=>by
 obtain⟨c,h1,h2⟩:=je0 hc;have e:Enc.enc t=Value.string ⟨#[c]⟩:=congrArg Value.string h1;rw[e];refine(Any.strings_Contains_one Tryz.lays144 s c w).mono fun e w' ⟨h3,h4⟩=>⟨?_,jbx h4⟩
 rw[h3];simp only[s132];rw[←h2];congr 2;rw[Bool.eq_iff_iff,jae,jip,(jfe _ _).2,jb2,jhu]
def s130(s t:Y):Bool×Value:=(decide (s.size≤9223372036854775807),.bool (sufZ (bz s) (bz t)))
theorem ok130:jal Tryz.prog 148 (sp2 s130):=jct c130 fun s t hc w _=>by
 refine(Any.strings_HasSuffix Tryz.lays100 s t w (jab hc)).mono fun e w' ⟨h3,h4⟩=>⟨?_,jbx h4⟩
 rw[h3,suf_zl];rfl
def asc(l:E):Bool:=l.all fun c=>decide (c<128)
theorem jcz{s:Y}(h:asc (bz s)=true):∀(j:Nat) b,s.data.toList[j]?=some b→b.toNat<128:=fun j b hb=>by
 simp only[asc,bz,List.all_map,List.all_eq_true]at h;have:=h b (List.mem_of_getElem? hb);simp at this;omega
theorem info128:(Tryz.prog.info? (Tryz.lays150_ren.t 116)).map (fun i=>(i.zero,i.size))=some (some (.agg (Array.replicate 256 (.bool false))),256):=by kernel_rfl
theorem jg6:(Tryz.prog.info? (Tryz.lays160_ren.t 116)).map (fun i=>(i.zero,i.size))=some (some (.agg (Array.replicate 256 (.bool false))),256):=by kernel_rfl
theorem indexAny_zl(cs:O):∀l:O,(0≤Lib.indexAny l cs)↔anyZ (zl l) (zl cs)=true
 | []=>by simp[Lib.indexAny,anyZ]
 | b::l=>by
  have ih:=indexAny_zl cs l;have g:=Lib.indexAny_ge cs l;have hb:hasZ (zl cs) b.toNat=cs.contains b:=(jhr b cs).symm;simp only[anyZ,zl,List.map_cons,List.any_cons]at ih hb ⊢;rw[hb];unfold Lib.indexAny;split
  ·simp_all
  ·rename_i hn;have hn:cs.contains b=false:=by simpa using hn
   rw[hn,Bool.false_or,←ih];split
   ·rename_i h;have h:=eq_of_beq h;constructor<;>intro<;>omega
   ·rename_i h;have h:Lib.indexAny l cs≠ -1:=by simpa using h
    constructor<;>intro<;>omega
def s102(s t:Y):Bool×Value:=(decide (s.size≤1000) && (decide (t.size≤1000) && (asc (bz s) &&asc (bz t))),.bool (anyZ (bz s) (bz t)))
theorem ok102:jal Tryz.prog 114 (sp2 s102):=jct c102 fun s t hc w _=>by
 simp only[s102,jaf,jae]at hc;obtain⟨h1,h2,h3,h4⟩:=hc;refine(Any.strings_ContainsAny_laid Tryz.lays150 info128 s t w (by omega) (by omega) (jcz h3) (jcz h4)).mono fun e w' ⟨h5,h6⟩=>⟨?_,h6⟩
 rw[h5];simp only[s102];congr 2;rw[Bool.eq_iff_iff,Lib.containsAny,jae,indexAny_zl];rfl
theorem szO_ex:∃f:E→Y,f=sz:=⟨_,rfl⟩
noncomputable def szO : E → Y := Classical.choose szO_ex
theorem jd3(l:E):szO l=sz l:=by rw[szO,Classical.choose_spec szO_ex]
noncomputable def s89 (s t : Y) : Bool × Value := (decide (s.size ≤ 1000) && (decide (t.size ≤ 1000) && asc (bz t)), .string (szO (je8 (bz s) (bz t))))
theorem ok89:jal Tryz.prog 67 (sp2 s89):=jct c89 fun s t hc w _=>by
 simp only[s89,jaf,jae]at hc;obtain⟨h1,h2,h3⟩:=hc;refine(Any.strings_Trim_laid Tryz.lays160 jg6 s t w (by omega) (by omega) (jcz h3)).mono fun e w' ⟨h5,h6⟩=>⟨?_,h6⟩
 rw[h5,jgh,trim_zl];simp only[s89,jd3];rfl
end Go.Px
end
section
namespace Go.Px
open Go Go.Ab Go.Proofs
abbrev I(n:Int):Value:= .int .i64 n
abbrev B(b:Bool):Value:= .bool b
abbrev C8(n:Int):Value:= .int .u8 n
abbrev S(s:Y):Value:= .string s
def e0:Y:=⟨#[]⟩
theorem c_t{b:Bool}{P Q:Prop}(h:b=true)(hp:P):bif b then P else Q:=by rw[h];exact hp
theorem c_f{b:Bool}{P Q:Prop}(h:b=false)(hq:Q):bif b then P else Q:=by rw[h];exact hq
theorem w64{n:Int}(h: -9223372036854775808≤n∧n≤9223372036854775807):IntKind.wrap .i64 n=n:=by rw[IntKind.wrap_i64];omega
theorem w8e(n:Int):IntKind.wrap .u8 n=n%256:=by
 simp[IntKind.wrap,IntKind.bits,IntKind.signed]
theorem w8{n:Int}(h:0≤n∧n<256):IntKind.wrap .u8 n=n:=by rw[w8e];omega
theorem byte_rng(s:Y)(i:Nat):0≤jc8 s i∧jc8 s i<256:=by
 rw[byteAt_eq,List.getD_eq_getElem?_getD];cases h:(bz s)[i]? with
 | none=>simp
 | some c=>exact jje s c (List.mem_of_getElem? h)
theorem bz_at{s:Y}{i:Int}(h0:0≤i)(h:i<s.size):(bz s).drop i.toNat=jc8 s i.toNat::(bz s).drop (i+1).toNat:=by
 have:=je6 (bz s) i.toNat (by rw[ja8];omega);rw[this,byteAt_eq];congr 2;omega
theorem bz_end{s:Y}{i:Int}(h:s.size≤i):(bz s).drop i.toNat=[]:=List.drop_eq_nil_of_le (by rw[ja8];omega)
def upZ(c:Int):Int:=if 97≤c∧c≤122 then c-32 else c
def twoL(i:Nat)(h:jbg)(j:Nat)(h':jbg):Nat→Option jbg:=fun k=>match Nat.beq k i with | true=>some h | false=>match Nat.beq k j with | true=>some h' | false=>none
theorem lokf_two{P:Program}{fn:Func}{i j:Nat}{h h':jbg}(hij:Nat.beq j i=false)(hb:(match fn.body with | some c=>blks (twoL i h j h') c | none=> [])=[(i,.loop (jbh fn i)),(j,.loop (jbh fn j))])
  (hs:∀t m n K,h t m n K→Ab.Sem P fn.ntmps (.loop (jbh fn i)) t m n K) (hs':∀t m n K,h' t m n K→Ab.Sem P fn.ntmps (.loop (jbh fn j)) t m n K):LOKf P (twoL i h j h') fn:=by
 unfold LOKf;split
 ·rename_i c hc;simp only[hc]at hb;refine jfk c fun p hp k hk=> ?_
  rw[hb]at hp;simp only[List.mem_cons,List.not_mem_nil,or_false]at hp;have e:Nat.beq i i=true:=by simp
  have e':Nat.beq j j=true:=by simp
  rcases hp with rfl | rfl
  ·simp only[twoL,e,Option.some.injEq]at hk;subst hk;exact hs
  ·simp only[twoL,hij,e',Option.some.injEq]at hk;subst hk;exact hs'
 ·trivial
theorem lok_one{P:Program}{nt:Nat}{c b:Code}{id:Nat}{h:jbg}(hb:blks (oneL id h) c=[(id,b)])(hs:∀t m n K,h t m n K→Ab.Sem P nt b t m n K):LOK P (oneL id h) nt c:=by
 refine jfk c fun p hp h' hh=> ?_
 rw[hb]at hp;simp only[List.mem_singleton]at hp;subst hp
 have:h'=h:=by
  simp only[oneL]at hh;have e:Nat.beq id id=true:=by simp
  rw[e]at hh;simpa using hh.symm
 subst this;exact hs
def iv:Value→Int
 | .int _ n=>n
 | _=>0
def zc(c:U)(n:Nat):E:=(c.take n).map iv
def jd4(c:U)(n cap:Nat):Bool:=jba (c.take n) && (jas c&& (Nat.beq c.length cap&& (Nat.ble n cap&&Nat.ble cap 9223372036854775807)))
theorem jix:∀{l:U},jba l=true→cz (l.map iv)=l
 | [],_=>rfl
 | .int .u8 n::r,h=>by
  have:=jix (l:=r) (by simpa[jba]using h);simp only[cz]at this;simp only[List.map_cons,cz,iv,this]
structure RowP (c:U)(n cap:Nat):Prop where
 bytes:jba (c.take n)=true
 plain:jas c=true
 len:c.length=cap
 le:n≤cap
 cap:cap≤9223372036854775807
theorem jbb{c:U}{n cap:Nat}:jd4 c n cap=true↔RowP c n cap:=by
 simp only[jd4,jaf,Nat.ble_eq,Nat.beq_eq];exact⟨fun⟨h1,h2,h3,h4,h5⟩=>⟨h1,h2,h3,h4,h5⟩,fun⟨h1,h2,h3,h4,h5⟩=>⟨h1,h2,h3,h4,h5⟩⟩
theorem jbs{c:U}{n cap:Nat}(h:RowP c n cap):(zc c n).length=n:=by
 have h1:=h.len;have h2:=h.le;simp only[zc,List.length_map,List.length_take];omega
theorem RowP.eq{c:U}{n cap:Nat}(h:RowP c n cap):c=cz (zc c n)++c.drop n:=by
 rw[zc,jix h.bytes,List.take_append_drop]
theorem RowP.take{c:U}{n cap:Nat}(h:RowP c n cap):c.take n=cz (zc c n):=(jix h.bytes).symm
theorem RowP.str{c:U}{n cap:Nat}(h:RowP c n cap):jd2 c 0 n=true∧jcm c 0 n=sz (zc c n):=by
 have hz:=jbs h;have e:=h.eq;have h1:=bytesOK_cz (zc c n) (c.drop n);have h2:=bytesOf_cz (zc c n) (c.drop n);rw[←e,hz]at h1 h2;exact⟨h1,h2⟩
theorem jcx{a b:U}:jas (a++b)=true↔jas a=true∧jas b=true:=by
 simp only[jaw,List.mem_append];exact⟨fun h=>⟨fun v hv=>h v (.inl hv),fun v hv=>h v (.inr hv)⟩,fun⟨h1,h2⟩ v hv=>hv.elim (h1 v) (h2 v)⟩
theorem row_mk(L:E){tail:U}{cap:Nat}(ht:jas tail=true)(hl:L.length+tail.length=cap)(hc:cap≤9223372036854775807):RowP (cz L++tail) L.length cap∧zc (cz L++tail) L.length=L:=by
 have e:(cz L++tail).take L.length=cz L:=by rw[List.take_append_of_le_length (by simp),List.take_of_length_le (by simp)]
 refine⟨⟨by rw[e];exact jen L,jcx.2 ⟨jfv L,ht⟩,by simp[hl],by omega,hc⟩,?_⟩;show List.map iv ((cz L++tail).take L.length)=L;rw[e];simp only[cz,List.map_map];have:(iv∘fun n:Int=>Value.int .u8 n)=id:=by funext n;rfl
 rw[this,List.map_id]
theorem jbl{tail:U}{cap need size:Nat}(h:ja0 tail cap need size=true):jas tail=true∧tail.length+need*size=cap*size∧need≤cap∧cap≤9223372036854775807:=by
 simp only[ja0,jaf,Nat.ble_eq,Nat.beq_eq]at h;exact⟨h.1.1.1,h.1.1.2,h.1.2,h.2⟩
theorem RowP.app{c:U}{n cap:Nat}(h:RowP c n cap)(M:E){tail:U}{cap':Nat}(ht:ja0 tail cap' (n+M.length) 1=true):
  RowP (c.take n++cz M++tail) (n+M.length) cap'∧zc (c.take n++cz M++tail) (n+M.length)=zc c n++M:=by
 obtain⟨t1,t2,t3,t4⟩:=jbl ht;have hz:=jbs h;have:=row_mk (zc c n++M) (tail:=tail) (cap:=cap') t1 (by simp only[List.length_append,hz];omega) t4;simp only[List.length_append,hz,cz_append]at this;rw[h.take];exact this
theorem RowP.app1{c:U}{n cap:Nat}(h:RowP c n cap)(x:Int){tail:U}{cap':Nat}(ht:ja0 tail cap' (n+1) 1=true):
  RowP (c.take (n*1)++ [.int .u8 x]++tail) (n+1) cap'∧zc (c.take (n*1)++ [.int .u8 x]++tail) (n+1)=zc c n++ [x]:=by
 rw[Nat.mul_one];exact h.app [x] ht
theorem RowP.ask{c:U}{n cap:Nat}(h:RowP c n cap){k:Nat}(hk:n+k≤1000000):
  (Nat.beq c.length (cap*1) &&Nat.ble n cap&&Nat.ble cap 9223372036854775807&&true&&jb1 (n+k) 1)=true:=by
 have h1:=h.len;have h2:=h.le;have h3:=h.cap;simp only[jb1,jaf,Nat.ble_eq,Nat.beq_eq,Nat.mul_one];exact⟨⟨⟨⟨h1,h2⟩,h3⟩,trivial⟩,by omega,by omega⟩
theorem row_new(M:E){tail:U}{cap':Nat}(ht:ja0 tail cap' M.length 1=true):RowP (cz M++tail) M.length cap'∧zc (cz M++tail) M.length=M:=by
 obtain⟨t1,t2,t3,t4⟩:=jbl ht;exact row_mk M t1 (by omega) t4
theorem RowP.good{c:U}{n cap:Nat}(h:RowP c n cap)(ps:List (Nat×Nat)):jau ps c=true:=goodL_plain h.plain
theorem RowP.rlb{c:U}{n cap:Nat}(h:RowP c n cap)(ps:List (Nat×Nat)):rlbL ps c=c:=rlbL_plain ps h.plain
theorem jbc{c:U}(h:jas c=true)(n:Nat):jax n c=true:=by
 simp[jax,jar h]
def rep1(c:Int)(n:Nat):E:=List.replicate n c
theorem rep1_succ(c:Int)(n:Nat):[c]++rep1 c n=rep1 c (n+1):=rfl
def tenZ(n:Nat):Int:=10^n
def unK(c:Int):Bool:=hasZ punchedZ c
def unD(c:Int):Int:=if unK c then(idxZ punchedZ c)%10 else 0
def puZ(d:Int)(m:Bool):Int:=if 0≤d∧d≤9 then punchedZ.getD (if m then d+10 else d).toNat 0 else 0
def sgZ(c:Int)(m:Bool):Int:=if c=36 then 36 else if m then(if c=43 then 32 else 45)else if c=45 then 32 else 43
def fmZ(c d:Int)(m:Bool):Int:=if c=89∧d=48 then 32 else if c=84∨(c=73∧m=false)∨(c=82∧m=true)then puZ (d-48) m else d
def letZ(b:Int):Bool:=decide (65≤b∧b≤90∨97≤b∧b≤122)
def oneZ(c b:Int):Bool:=if c=88∨b=32 then true else if c=57 then jiv b else letZ b
def drGo(s:E):E→Int
 | []=>0
 | c::r=>if hasZ [36,83,43,45] c=true∧2≤cntZ s c then c else drGo s r
def drZ(s:E):Int:=drGo s s
def jgj(s:E):Bool:=s.all (fun c=>hasZ [65,88,57] c) && (hasZ s 65 || hasZ s 88)
def crZ(s:E):Bool:=decide (2≤s.length) && (decide (s.drop (s.length-2)=[67,82]) || decide (s.drop (s.length-2)=[68,66]))
theorem has_dr{c:Int}:hasZ [36,83,43,45] c=true↔c=36∨c=83∨c=43∨c=45:=by simp[jb2]
def cdGo:E→Int→Int→Bool×Int×Int
 | [],n,i=>(true,n,i)
 | c::r,n,i=>if jiv c=true then(if 1≤n*10+(c-48)∧n*10+(c-48)≤32 then cdGo r (n*10+(c-48)) (i+1)else(false,0,0))else(true,n,i)
def ctP(l:E)(i:Int):Prop:=(cdGo (l.drop i.toNat) 0 i).1=true∧1≤(cdGo (l.drop i.toNat) 0 i).2.1∧(cdGo (l.drop i.toNat) 0 i).2.2<l.length∧l.getD (cdGo (l.drop i.toNat) 0 i).2.2.toNat 0=41
instance (l:List Int)(i:Int):Decidable (ctP l i):=by unfold ctP;infer_instance
def kL:E:=[57,86,90,42,89,84,73,82,83,43,45,36,44,46,47,66,67,68,65,88]
def xpGo:E→Int→Int→E→E×Bool
 | [],st,_,out=>(out,decide (st=0))
 | c::r,st,n,out=>
  if st=1 then
   (if c=41 then(if 0<n then xpGo r 2 n out else([],false))
   else if jiv c=true∧ ¬(n=0∧c=48)∧10*n+(c-48)≤32 then xpGo r 1 (10*n+(c-48)) out else([],false))
  else if c=41∨st=2∧c=40 then([],false)
  else if c=40 then xpGo r 1 0 out
  else if hasZ kL (upZ c)=true∧(out.length:Int)+(if st=2 then n else 1)≤32 then xpGo r 0 0 (out++rep1 (upZ c) (if st=2 then n else 1).toNat)else([],false)
def exOK(l:E):Bool:=(xpGo l 0 0 []).2&& !(xpGo l 0 0 []).1.isEmpty
def exZ(l:E):E:=if exOK l=true then(xpGo l 0 0 []).1 else []
def mk1(dr:Int)(seen:Bool)(c:Int):Int:=bif hasZ [57,89,84,73,82] c then 100 else bif hasZ [90,42] c || (dr !=0&& (c==dr&&seen))then 99
 else bif c==86 then 118 else bif c==36 then 109 else bif hasZ [83,43,45] c then 115 else 105
def mkGo(dr:Int):Bool→E→E
 | _,[]=> []
 | seen,c::r=>mk1 dr seen c::mkGo dr (seen || (dr !=0&&c==dr)) r
def jam(s:E):E:=if crZ s=true then s.take (s.length-2)else s
def jcg(s:E):E:=mkGo (drZ (jam s)) false (jam s)++(if crZ s=true then [115,115]else [])
def df1(s:E)(dr:Int):E→Int→Int→Int→Bool×Int×Int
 | [],_,f,l=>(true,f,l)
 | c::r,i,f,l=>bif c==dr then df1 s dr r (i+1) (if f<0 then i else f) i
  else bif hasZ [36,83,43,45] c&&decide (2≤cntZ s c)then(false,0,0)else df1 s dr r (i+1) f l
def d2Go(dr f:Int):E→Int→Bool
 | [],_=>true
 | c::r,i=> !(decide (i<f) &&c==86) && (!(decide (i>f) && (c !=dr&& !hasZ [44,46,47,66,86] c)) &&d2Go dr f r (i+1))
def jdd(s:E):Bool:=drZ s==0 || ((df1 s (drZ s) s 0 (-1) (-1)).1&&d2Go (drZ s) (df1 s (drZ s) s 0 (-1) (-1)).2.1 (s.take (df1 s (drZ s) s 0 (-1) (-1)).2.2.toNat) 0)
def ldGo:E→Bool→Bool→Bool→Int→Bool×Bool×Bool×Int
 | [],fm,bh,_,dg=>(true,fm,bh,dg)
 | m::r,fm,bh,pt,dg=>bif m==118 then ldGo r fm bh true dg else bif m==100 then ldGo r true bh pt (dg+1)
  else bif m==99 then(bif fm then(false,false,false,0)else ldGo r fm (bh || pt) pt (dg+1))else ldGo r fm bh pt dg
def jin(b ms:E):Bool:=bif hasZ b 90&&hasZ b 42 then false else bif (hasZ b 90 || hasZ b 42) &&drZ b !=0 then false
 else(ldGo ms false false false 0).1&& (decide (1≤(ldGo ms false false false 0).2.2.2) && (decide ((ldGo ms false false false 0).2.2.2≤9) && !((ldGo ms false false false 0).2.2.1&& (ldGo ms false false false 0).2.1)))
def b2i(b:Bool):Int:=if b then 1 else 0
def jey(s:E):Int:=b2i (crZ s)+b2i (hasZ (jam s) 83)+b2i (hasZ (jam s) 43)+b2i (hasZ (jam s) 45)+cntZ (jam s) 84+cntZ (jam s) 73+cntZ (jam s) 82
def stIn(dr i:Int):E→E→Int→Bool→Bool→Bool×Bool
 | c::cs,m::ms,j,a,b=>bif m==100 || (m==99 || c==dr)then stIn dr i cs ms (j+1) (a || decide (j<i)) (b || decide (j>i))else stIn dr i cs ms (j+1) a b
 | _,_,_,a,b=>(a,b)
def stGo(dr:Int)(body ms:E):E→Int→Bool
 | [],_=>true
 | c::r,i=>(bif !hasZ [36,83,43,45] c || c==dr then true else !((stIn dr i body ms 0 false false).1&& (stIn dr i body ms 0 false false).2)) &&stGo dr body ms r (i+1)
def jhj(body ms:E):Bool:=stGo (drZ body) body ms body 0
def numV(s:E):Bool:= !jgj s&& (!(jam s).any (hasZ [65,88,67,68]) && (decide ((cntZ (jam s) 86:Int)≤1) && (jdd (jam s) && (jin (jam s) (jcg (jam s)) && (decide (jey s≤1) &&jhj (jam s) (jcg (jam s)))))))
def vOK(l:E):Bool:=exOK l&& (jgj (exZ l) || numV (exZ l))
def pN(l:E):Bool:=exOK l&&numV (exZ l)
def pS(l:E):E:=if vOK l=true then exZ l else []
def pW(l:E):Int:=if vOK l=true then(if jgj (exZ l)=true then((exZ l).length:Int)else(exZ l).length-cntZ (exZ l) 86)else 0
def isP(m:Int):Bool:=m==100 || m==99
def pdGo:E→Int
 | []=>0
 | m::r=>(bif isP m then 1 else 0)+pdGo r
def pqGo(s:E):E→Int→Int
 | [],_=>0
 | m::r,i=>(bif isP m&&hasZ (s.take i.toNat) 86 then 1 else 0)+pqGo s r (i+1)
def pD(l:E):Int:=if pN l=true then pdGo (jcg (exZ l))else 0
def pQ(l:E):Int:=if pN l=true then pqGo (exZ l) (jcg (exZ l)) 0 else 0
def pG(l:E):Bool:=pN l&&jey (exZ l)==1
def pE(l:E):Int:=if vOK l=true then 0 else 30
def picV(l:E):Value:= .agg ⟨[.string (sz (pS l)),.bool (pN l),.int .i64 (pW l),.int .i64 (pD l),.int .i64 (pQ l),.bool (pG l)]⟩
theorem up_rng{c:Int}(h:0≤c∧c<256):0≤upZ c∧upZ c<256:=by unfold upZ;split<;>omega
theorem jhg:∀(l:E)(st n:Int)(out:E),IsB l→IsB out→out.length≤32→IsB (xpGo l st n out).1∧(xpGo l st n out).1.length≤32
 | [],st,n,out,_,h2,h3=>⟨h2,h3⟩
 | c::r,st,n,out,h1,h2,h3=>by
  have hc:=h1 c (List.mem_cons_self ..);have hr:IsB r:=fun x hx=>h1 x (List.mem_cons_of_mem _ hx)
  have nil:IsB (([],false):E×Bool).1∧(([],false):E×Bool).1.length≤32:=⟨IsB.nil,Nat.zero_le _⟩
  rw[xpGo];by_cases e1:st=1
  ·rw[if_pos e1];split
   ·split
    ·exact jhg r _ _ out hr h2 h3
    ·exact nil
   ·split
    ·exact jhg r _ _ out hr h2 h3
    ·exact nil
  ·rw[if_neg e1];by_cases e2:c=41∨st=2∧c=40
   ·rw[if_pos e2];exact nil
   ·rw[if_neg e2];by_cases e3:c=40
    ·rw[if_pos e3];exact jhg r _ _ out hr h2 h3
    ·rw[if_neg e3];by_cases hq:hasZ kL (upZ c)=true∧(out.length:Int)+(if st=2 then n else 1)≤32
     ·rw[if_pos hq];refine jhg r _ _ _ hr (h2.append fun x hx=> ?_) ?_
      ·rw[List.eq_of_mem_replicate hx];exact up_rng hc
      ·rw[List.length_append];simp only[rep1,List.length_replicate];have:=hq.2;omega
     ·rw[if_neg hq];exact nil
theorem ex_rng(s:Y):IsB (exZ (bz s))∧(exZ (bz s)).length≤32:=by
 unfold exZ;split
 ·exact jhg _ _ _ _ (jje s) IsB.nil (Nat.zero_le _)
 ·exact⟨IsB.nil,Nat.zero_le _⟩
theorem sz_nil:sz []=⟨#[]⟩:=rfl
structure Pic where
 s:Y
 n:Bool
 w:Int
 d:Int
 q:Int
 g:Bool
instance:Enc Pic where
 enc p:= .agg ⟨[.string p.s,.bool p.n,.int .i64 p.w,.int .i64 p.d,.int .i64 p.q,.bool p.g]⟩
 dec | .agg ⟨[.string a,.bool b,.int .i64 c,.int .i64 d,.int .i64 e,.bool f]⟩=>some ⟨a,b,c,d,e,f⟩ | _=>none
 dec_some:=by
  intro v a h;split at h
  ·cases h;rfl
  ·cases h
 plain_enc _:=rfl
def tyK(l:E):Int:=if vOK l=true then(if pN l=true then 1 else 3)else 0
def tyP(l:E):Int:=if vOK l=true then(if pN l=true then pD l else pW l)else 0
def cuM(n q sc:Int):Int:=if q≥sc then(n.natAbs:Int)/tenZ (q-sc).toNat else n.natAbs*tenZ (sc-q).toNat
def cuV(n q sc d:Int):Int:=cuM n q sc%tenZ d.toNat
def cuN(n q sc d:Int)(g:Bool):Int:=if n<0∧g=true then 0-cuV n q sc d else cuV n q sc d
def cuF(n q sc d:Int)(g:Bool):Bool:=decide (cuM n q sc<tenZ d.toNat) && (decide (n≥0) || (g || cuV n q sc d==0))
def ssZ(c dr:Int)(m:Bool):Int:=bif dr !=0&&c==dr then 32 else bif hasZ [67,82,68,66] c then(bif m then c else 32)else sgZ c m
theorem jik{l:E}(h:pN l=true):vOK l=true:=by
 simp only[pN,jaf]at h;simp[vOK,h.1,h.2]
theorem jhp:∀(ms:E)(fm bh pt:Bool)(dg:Int),(ldGo ms fm bh pt dg).1=true→(ldGo ms fm bh pt dg).2.2.2=dg+pdGo ms
 | [],fm,bh,pt,dg,_=>by simp[ldGo,pdGo]
 | m::r,fm,bh,pt,dg,h=>by
  rw[ldGo]at h ⊢;rw[pdGo];cases h1:(m==118)with
  | true=>
   rw[h1,cond_true]at h;have hm:=eq_of_beq h1;subst hm;simp only[cond_true,isP];rw[jhp r _ _ _ _ h];simp
  | false=>
   rw[h1,cond_false]at h;cases h2:(m==100)with
   | true=>
    rw[h2,cond_true]at h;simp only[cond_true,cond_false,isP,h2,Bool.true_or];rw[jhp r _ _ _ _ h];omega
   | false=>
    rw[h2,cond_false]at h;cases h3:(m==99)with
    | true=>
     rw[h3,cond_true]at h;cases fm with
     | true=>cases h
     | false=>
      rw[cond_false]at h;simp only[cond_true,cond_false,isP,h2,h3,Bool.false_or];rw[jhp r _ _ _ _ h];omega
    | false=>
     rw[h3,cond_false]at h;simp only[cond_false,isP,h2,h3,Bool.false_or];rw[jhp r _ _ _ _ h];omega
theorem pd_app:∀a b:E,pdGo (a++b)=pdGo a+pdGo b
 | [],b=>by simp[pdGo]
 | m::r,b=>by simp only[List.cons_append,pdGo,pd_app r b];omega
theorem body_ncr{s:E}(h:(jam s).any (hasZ [65,88,67,68])=false):crZ (jam s)=false:=by
 cases hc:crZ (jam s)with
 | false=>rfl
 | true=>
  exfalso;simp only[crZ,jaf,Bool.or_eq_true,jae]at hc;have:∀c∈jam s,hasZ [65,88,67,68] c=false:=by simpa using h
  rcases hc.2 with h1 | h1
  ·have hm:(67:Int)∈(jam s).drop ((jam s).length-2):=by rw[h1];simp
   exact absurd (this _ (List.mem_of_mem_drop hm)) (by decide)
  ·have hm:(68:Int)∈(jam s).drop ((jam s).length-2):=by rw[h1];simp
   exact absurd (this _ (List.mem_of_mem_drop hm)) (by decide)
theorem jfc{s:E}(h:(jam s).any (hasZ [65,88,67,68])=false):jcg (jam s)=mkGo (drZ (jam s)) false (jam s):=by
 have hc:=body_ncr h;have gen:∀l:E,crZ l=false→jam l=l:=fun l h=>by simp[jam,h]
 have hb:jam (jam s)=jam s:=gen _ hc;unfold jcg;rw[hb,hc];simp
structure NumP (s:E):Prop where
 nch:jgj s=false
 plain:(jam s).any (hasZ [65,88,67,68])=false
 one:(cntZ (jam s) 86:Int)≤1
 dr:jdd (jam s)=true
 ld:jin (jam s) (mkGo (drZ (jam s)) false (jam s))=true
 sg:jey s≤1
 st:jhj (jam s) (mkGo (drZ (jam s)) false (jam s))=true
theorem numV_iff{s:E}:numV s=true↔NumP s:=by
 constructor
 ·intro h;simp only[numV,jaf,Bool.not_eq_true',jae]at h;obtain⟨h1,h2,h3,h4,h5,h6,h7⟩:=h;rw[jfc h2]at h5 h7;exact⟨h1,h2,h3,h4,h5,h6,h7⟩
 ·rintro ⟨h1,h2,h3,h4,h5,h6,h7⟩;rw[←jfc h2]at h5 h7;simp only[numV,jaf,Bool.not_eq_true',jae];exact⟨h1,h2,h3,h4,h5,h6,h7⟩
theorem pN_num{l:E}(h:pN l=true):NumP (exZ l):=by
 simp only[pN,jaf]at h;exact numV_iff.1 h.2
def digZ:Int→Nat→E
 | _,0=> []
 | v,n+1=>digZ (v/10) n++ [48+v%10]
theorem isBytes_iff{l:U}:jba l=true↔ ∀v∈l,∃n,v= .int .u8 n:=by
 induction l with
 | nil=>simp[jba]
 | cons v r ih=>
  constructor
  ·intro h;unfold jba at h;split at h
   ·rename_i heq;cases heq
   ·rename_i n r' heq;cases heq;intro u hu;rcases List.mem_cons.1 hu with rfl | hu
    ·exact⟨_,rfl⟩
    ·exact ih.1 h u hu
   ·cases h
  ·intro h;obtain⟨n,rfl⟩:=h v (List.mem_cons_self ..);exact ih.2 fun u hu=>h u (List.mem_cons_of_mem _ hu)
theorem RowP.set{c:U}{n cap:Nat}(h:RowP c n cap)(x:Int){i:Nat}(hi:i<n):
  RowP (setL c (0+i*1) [.int .u8 x]) n cap∧zc (setL c (0+i*1) [.int .u8 x]) n=(zc c n).set i x∧Nat.ble (0+i*1+1) c.length=true:=by
 have e:setL c (0+i*1) [.int .u8 x]=c.set i (.int .u8 x):=by simp[setL]
 have h1:=h.len;have h2:=h.le;rw[e];refine⟨⟨?_,?_,by simp[h1],h2,h.cap⟩,?_,Nat.ble_eq_true_of_le (by omega)⟩
 ·rw[List.take_set];refine isBytes_iff.2 fun v hv=> ?_
  rcases List.mem_or_eq_of_mem_set hv with hv | rfl
  ·exact isBytes_iff.1 h.bytes v hv
  ·exact⟨_,rfl⟩
 ·refine jaw.2 fun v hv=> ?_
  rcases List.mem_or_eq_of_mem_set hv with hv | rfl
  ·exact jaw.1 h.plain v hv
  ·rfl
 ·simp only[zc,List.take_set,List.map_set,iv]
def endGo:E→E→Int→Int
 | [],_,o=>o
 | m::r,ds,o=>bif (m==118 || m==100) || (m==99&&ds.headD 0 !=48)then o else endGo r (bif m==99 then ds.tail else ds) (o+1)
def endZ(ms ds:E)(w:Int)(k:Nat):Int:=bif !hasZ ms 99 then 0 else bif !hasZ ms 100&&decide (ds=rep1 48 k)then w else endGo ms ds 0
def fdGo(le fill dr:Int)(neg:Bool):E→E→E→Int→E
 | [],_,_,_=> []
 | m::r,sp,ds,o=>
  bif m==100 then fmZ (sp.headD 0) (ds.headD 0) neg::fdGo le fill dr neg r sp.tail ds.tail (o+1)
  else bif m==99 then(bif decide (o<le)then fill else ds.headD 0)::fdGo le fill dr neg r sp.tail ds.tail (o+1)
  else bif m==105 then(bif sp.headD 0==66 then 32 else bif decide (o<le)then fill else sp.headD 0)::fdGo le fill dr neg r sp.tail ds (o+1)
  else bif m !=118 then ssZ (sp.headD 0) dr neg::fdGo le fill dr neg r sp.tail ds (o+1)
  else fdGo le fill dr neg r sp.tail ds o
def dgL(l:E):Bool:=l.all fun d=>decide (48≤d∧d≤57)
def fdFl(sp:E):Int:=if hasZ sp 42=true then 42 else 32
def fdLe(sp:E)(w:Int)(k:Nat)(n:Int):Int:=endZ (jcg sp) (digZ n.natAbs k) w k
def fdBl(sp:E)(w:Int)(k:Nat)(n:Int):Bool:=decide (fdLe sp w k n>0) && (fdLe sp w k n==w&& (n==0&& !hasZ (jcg sp) 100))
def fdDr(sp:E):Int:=bif !hasZ sp 90&& (!hasZ sp 42&&hasZ (jcg sp) 99)then drZ sp else 0
def fdOut(sp:E)(w:Int)(k:Nat)(n:Int):E:=fdGo (fdLe sp w k n) (fdFl sp) (fdDr sp) (decide (n<0)) (jcg sp) sp (digZ n.natAbs k) 0
def fieldZ(sp:E)(w:Int)(k:Nat)(n:Int):E:=
 bif fdBl sp w k n then rep1 (fdFl sp) w.toNat else bif fdDr sp !=0 then(fdOut sp w k n).set (fdLe sp w k n-1).toNat (sgZ (fdDr sp) (decide (n<0)))else fdOut sp w k n
theorem cnt_app(a b:E)(c:Int):cntZ (a++b) c=cntZ a c+cntZ b c:=by
 simp[cntZ]
theorem jhe(s:E):∃t,s=jam s++t∧(t=[]∧crZ s=false∨(t=[67,82]∨t=[68,66])∧crZ s=true):=by
 unfold jam;by_cases h:crZ s=true
 ·rw[if_pos h];refine⟨s.drop (s.length-2),(List.take_append_drop ..).symm,.inr ⟨?_,h⟩⟩;simp only[crZ,jaf,Bool.or_eq_true,jae]at h;exact h.2
 ·rw[if_neg h];exact⟨[],by simp,.inl ⟨rfl,by simpa using h⟩⟩
theorem jib(s:E):∀r:E,drGo s r=0∨(hasZ [36,83,43,45] (drGo s r)=true∧drGo s r∈r)
 | []=> .inl rfl
 | c::r=>by
  rw[drGo];split
  ·rename_i h;exact .inr ⟨h.1,List.mem_cons_self ..⟩
  ·rcases jib s r with h | ⟨h1,h2⟩
   ·exact .inl h
   ·exact .inr ⟨h1,List.mem_cons_of_mem _ h2⟩
def nv(l:E):Nat:=(l.filter (· !=118)).length
theorem nv_cons(m:Int)(r:E):nv (m::r)=(if m=118 then 0 else 1)+nv r:=by
 unfold nv;by_cases h:m=118
 ·simp[h]
 ·simp[h];omega
theorem nv_app(a b:E):nv (a++b)=nv a+nv b:=by simp[nv]
theorem ji5{dr:Int}(hd:dr=0∨hasZ [36,83,43,45] dr=true)(seen:Bool)(c:Int):mk1 dr seen c=118↔c=86:=by
 constructor
 ·intro h;unfold mk1 at h;cases h1:hasZ [57,89,84,73,82] c with
  | true=>rw[h1]at h;cases h
  | false=>
   rw[h1,cond_false]at h;cases h2:(hasZ [90,42] c || (dr !=0&& (c==dr&&seen)))with
   | true=>rw[h2]at h;cases h
   | false=>
    rw[h2,cond_false]at h;cases h3:(c==86)with
    | true=>exact eq_of_beq h3
    | false=>
     rw[h3,cond_false]at h;cases h4:(c==36) <;>cases h5:hasZ [83,43,45] c<;>rw[h4,h5]at h<;>exact absurd h (by decide)
 ·rintro rfl;unfold mk1;have h1:hasZ [57,89,84,73,82] 86=false:=by decide
  have h2:hasZ [90,42] 86=false:=by decide
  have h3:((86:Int)==dr)=false:=by
   cases e:((86:Int)==dr)with
   | false=>rfl
   | true=>
    rw[←eq_of_beq e]at hd;rcases hd with hd | hd
    ·cases hd
    ·exact absurd hd (by decide)
  rw[h1,h2,h3];simp
theorem mk_nv{dr:Int}(hd:dr=0∨hasZ [36,83,43,45] dr=true):∀(l:E)(seen:Bool),nv (mkGo dr seen l)+cntZ l 86=l.length
 | [],_=>rfl
 | c::r,seen=>by
  have:=mk_nv hd r (seen || (dr !=0&&c==dr));rw[mkGo,nv_cons,List.length_cons]
  have hc:cntZ (c::r) 86=(if c=86 then 1 else 0)+cntZ r 86:=by
   unfold cntZ;by_cases h:c=86
   ·simp[h];omega
   ·simp[h]
  rw[hc];have hm:=ji5 hd seen c;by_cases h:c=86
  ·rw[if_pos h,if_pos (hm.2 h)];omega
  ·rw[if_neg h,if_neg fun e=>h (hm.1 e)];omega
theorem marks_nv(s:E):nv (jcg s)+cntZ s 86=s.length:=by
 obtain⟨t,h,ht⟩:=jhe s;have h1:=mk_nv (dr:=drZ (jam s)) ((jib _ _).imp id And.left) (jam s) false;unfold jcg;rw[nv_app]
 have e:cntZ s 86=cntZ (jam s) 86+cntZ t 86:=by
  conv=>lhs;rw[h]
  exact cnt_app ..
 have el:s.length=(jam s).length+t.length:=by
  conv=>lhs;rw[h]
  simp
 rcases ht with⟨rfl,hc⟩ | ⟨rfl | rfl,hc⟩
 ·rw[if_neg (by simp[hc])];have:cntZ [] 86=0:=rfl;have:nv []=0:=rfl;simp only[List.length_nil]at el;omega
 ·rw[if_pos hc];have:cntZ [67,82] 86=0:=by decide
  have:nv [115,115]=2:=by decide
  simp only[List.length_cons,List.length_nil]at el;omega
 ·rw[if_pos hc];have:cntZ [68,66] 86=0:=by decide
  have:nv [115,115]=2:=by decide
  simp only[List.length_cons,List.length_nil]at el;omega
def rdD(c:Int):Int:=bif unK c then unD c else bif decide (c≥48) &&decide (c≤57)then c-48 else 0
def rdGo:E→E→Int→Int
 | [],_,a=>a
 | m::r,s,a=>bif m==118 then rdGo r s a else rdGo r s.tail (bif m==100 || m==99 then a*10+rdD (s.headD 0)else a)
def rdA(l t:E):Int:=rdGo (jcg (pS l)) t 0
def fdN(l:E)(n:Int):E:=fieldZ (pS l) (pW l) (pD l).toNat n
def rdV(l t:E):Int×Int:=if pN l=true then(if(t.length:Int)=pW l then(if fdN l (rdA l t)=t then(rdA l t,0)else if pG l=true∧rdA l t>0∧fdN l (0-rdA l t)=t then(0-rdA l t,0)else(0,31))else(0,31))else(0,30)
def onGo:E→E→Bool
 | _,[]=>true
 | [],_::_=>false
 | c::r,b::s=>oneZ c b&&onGo r s
def hoZ(l t:E):Bool:=if vOK l=true then(if pN l=true then decide ((rdV l t).2=0)else(decide ((t.length:Int)=pW l) &&onGo (pS l) t))else false
def flZ(l t:E):E:=if(t.length:Int)>pW l then t.take (pW l).toNat else t++rep1 32 (pW l-t.length).toNat
def fiE(l:E):Int:=if vOK l=true∧pN l=false then 0 else 30
def fiS(l t:E):E:=if vOK l=true∧pN l=false then flZ l t else []
def fiF(l t:E):Bool:=if vOK l=true∧pN l=false then hoZ l (flZ l t)else false
end Go.Px
end
noncomputable section
namespace Go.Px
open Go Go.Ab Go.Proofs
inductive Rw where
 | nil
 | own (d:U) (m cap:Nat)
def Rw.v(q:Nat):Rw→Value
 | .nil=> .slice none 0 0
 | .own _ m cap=> .slice (some ⟨q,0,some 1⟩) m cap
def Rw.b:Rw→Option Blk
 | .nil=>none
 | .own d _ _=>some ⟨d,5,true⟩
def Rw.z:Rw→E
 | .nil=> []
 | .own d m _=>zc d m
def Rw.ok:Rw→Bool
 | .nil=>true
 | .own d m cap=>jd4 d m cap
def Rw.is:Rw→Bool
 | .nil=>false
 | .own _ _ _=>true
def G15:Env:=Env.nil
theorem ok_G15:jao Tryz.prog G15:=jbr
theorem w32{n:Int}(h: -2147483648≤n∧n≤2147483647):IntKind.wrap .i32 n=n:=by
 rw[IntKind.wrap_i32];omega
def rpZ(n c:Int):Int×Bool:=if c<48∨c>57∨(n=0∧c=48)then(0,false)else(10*n+(c-48),decide (10*n+(c-48)≤32))
def s113(n:Int)(c:R32):Bool×Value:=(decide (0≤n∧n≤32∧0≤c.n∧c.n≤2147483647),.tuple ⟨[.int .i64 (rpZ n c.n).1,.bool (rpZ n c.n).2]⟩)
theorem fn113:Fn1 Tryz.prog 146 Tryz.f146:= .m Tryz.func146
def ax(a:U):Value:= .tuple ⟨a⟩
def al(a b:Int):Int:=IntKind.i64.wrap (a+b)
def fu(a b:Int):Int:=IntKind.i32.wrap (a-b)
def ak(a:Int):Value:= .int .i64 a
def ar(a b:Int):Bool:=decide (a>b)
def am(a b:Int):Bool:=decide (a<b)
def go(d e:Bool)(a b c:Int):Bool:=am a b || (ar a c || (d || e))
theorem v113(n:Int)(c:R32)(R:Value→Prop):jbe Tryz.prog G15 noL Tryz.f146 [Enc.enc n,Enc.enc c] (fun _=>none) 0 (fun v _ _=>R v)=(bif go (n==0) true (R32.n c) 48 57 then bif am (R32.n c) 48 || (ar (R32.n c) 57 || n==0&&R32.n c==48)then R (ax [ak 0,B false])else R (ax [I (al (IntKind.i64.wrap (10*n)) (IntKind.i64.wrap (fu (R32.n c) 48))),B (decide (al (IntKind.i64.wrap (10*n)) (IntKind.i64.wrap (fu (R32.n c) 48))≤32))])else False):=by kernel_rfl
theorem ok113:jal Tryz.prog 146 (sp2 s113):=by
 refine qure2 ok_G15 hmix fn113 jai jag fun n c hc=> ?_
 rw[jdf,v113];delta ax al fu ak ar am go;have hc:(0≤n∧n≤32∧0≤c.n∧c.n≤2147483647):=jab hc
 try dsimp only[s113]
 obtain⟨c⟩:=c;simp only at hc ⊢;refine c_t (by simp) (cond_intro (fun h=> ?_) (fun h=> ?_))
 ·have h:c<48∨c>57∨(n=0∧c=48):=by simpa using h
  simp[rpZ,h]
 ·have h:¬(c<48∨c>57∨(n=0∧c=48)):=by
   intro q;have:(decide (c<48) || (decide (c>57) || n==0&&c==48))=true:=by simpa using q
   rw[this]at h;cases h
  rw[w64 (n:=10*n) (by omega),w32 (n:=c-48) (by omega),w64 (n:=c-48) (by omega),w64 (by omega)];simp[rpZ,h]
def G16:Env:=Env.nil.add 140 (sp2 s141)
theorem ok_G16:jao Tryz.prog G16:=jak jbr ok141
def V114_0:Blk×Int×Int×Rw×Int→U:=fun(b,c,n,o,i)=> [o.v 400,.int .i32 c,I n,I i]
def B114_0:Blk×Int×Int×Rw×Int→F:=fun(b,c,n,o,i)=> [some b,o.b]
def S114_0:LSpecA (Blk×Int×Int×Rw×Int) where
 live:=[0,1,31,32]
 mid:=[7,400]
 n:=420
 ap:=[(.tmp 0,400)]
 dec vs bs:=match vs,bs with
  | [.slice none 0 0,.int .i32 c,.int .i64 n,.int .i64 i],[some b,none]=>some (b,c,n,.nil,i)
  | [.slice (some ⟨400,0,some 1⟩) m cap,.int .i32 c,.int .i64 n,.int .i64 i],[some b,some ⟨d,5,true⟩]=>some (b,c,n,.own d m cap,i)
  | _,_=>none
 pre:=fun(b,c,n,o,i)=>o.ok&& ((o.is || decide (i<n)) && (jas b.c&&decide (0≤i∧i≤n∧n≤32∧0≤c∧c<128∧o.z.length+(n-i).toNat≤1000)))
 fin:=fun(b,c,n,o,i) Z=>∀d' m' cap',jd4 d' m' cap'=true→zc d' m'=o.z++rep1 c (n-i).toNat→Z (.exit 0) [.slice (some ⟨400,0,some 1⟩) m' cap',.int .i32 c,I n,I n] [some b,some ⟨d',5,true⟩]
def bt(a:Bool)(b:Exit→U→F→Prop)(e:F)(d:U)(c:Nat):Prop:=bif a then b (.exit c) d e else False
def bu:Value:= .slice none 0 0
def bm(a:List (Prod Nat Nat))(b:U):Bool:=jau a b&&true&&true
def dp(a b:Int):U:=[ak a,.int .i64 (al b 1)]
def av(a b c:Nat):J:=some (.mk a b (some c))
def au(a b c d:Nat):Value:= .slice (av a b 1) c d
def il(d:Blk)(e:U)(a b:Nat):Bool:=jau [(a,b)] d.c&& (jau [(a,b)] e&&true)
def jl(a:Blk)(d:Exit→U→F→Prop)(g h i:Int)(b:U)(e f:Nat):Prop:=bif il a b 425 400&&true then d .normal (au 400 0 e f:: .int .i32 g::dp h i) [some (.mk (rlbL [(425,400)] a.c) a.ty a.own),some (.mk (rlbL [(425,400)] b) 5 true)]else False
def gq(a:Int):Value:= .int .u8 (IntKind.u8.wrap a)
def a0(a:U)(b c d:Nat):Prop:=ja0 a b c d=true
theorem r114_0n(b:Blk)(c:Int)(n:Int)(i:Int)(jk:Tmps)(R:Exit→U→F→Prop):(jb7 Tryz.prog G16 noL Tryz.f147.ntmps (jbh Tryz.f147 0) (tl S114_0.live (V114_0 (b,c,n,.nil,i)) jk) (ml S114_0.mid (B114_0 (b,c,n,.nil,i))) S114_0.n fun e t' m' _=>S114_0.out R e t' m')=(bif am i n then∀a:Nat,∀d:U,a0 d a 1 1→jl b R c n i (gq c::d) 1 a else bt (bm [] b.c) R [some (.mk (rlbL [] b.c) b.ty b.own),none] [bu,.int .i32 c,ak n,ak i] 0):=by kernel_rfl
def c9(c:U)(a b:Nat)(d:TypeId):Option Blk:=some (.mk (rlbL [(a,b)] c) d true)
def fk(a:U)(b c:Nat):Prop:=ja0 a b (c+1) 1=true
def jf(a:U)(b c d:Nat):Bool:=a.length.beq (b*1) &&c.ble b&&b.ble 9223372036854775807&&true&&jb1 (c+1) d
theorem r114_0o(b:Blk)(c:Int)(n:Int)(d:U)(m:Nat)(cap:Nat)(i:Int)(jk:Tmps)(R:Exit→U→F→Prop):(jb7 Tryz.prog G16 noL Tryz.f147.ntmps (jbh Tryz.f147 0) (tl S114_0.live (V114_0 (b,c,n,.own d m cap,i)) jk) (ml S114_0.mid (B114_0 (b,c,n,.own d m cap,i))) S114_0.n fun e t' m' _=>S114_0.out R e t' m')=(bif am i n then bif jf d cap m 1 then∀a:Nat,∀e:U,fk e a m→jl b R c n i (d.take (m*1)++ [gq c]++e) (m+1) a else False else bt (il b d 400 400&&true) R [some (.mk (rlbL [(400,400)] b.c) b.ty b.own),c9 d 400 400 5] [au 400 0 m cap,.int .i32 c,ak n,ak i] 0):=by kernel_rfl
theorem l114_0:LOKf Tryz.prog (oneL 0 S114_0.hA) Tryz.f147:=by
 refine jci (h:=S114_0.hA) (by kernel_rfl) (jbz ok_G16 hmix (by kernel_rfl) (jbo _) S114_0 V114_0 B114_0 (fun(b,c,n,o,i)=>(n-i).toNat) ?_ ?_ ?_)
 ·intro vs bs s h;simp only[S114_0]at h;split at h
  all_goals first | (cases h;exact⟨rfl,rfl⟩) | cases h | (split at h<;>first | (rename_i hq;cases h;have hq:=jah hq;subst hq;exact⟨rfl,rfl⟩) | cases h)
 ·exact fun⟨b,c,n,o,i⟩ hp=>by
   simp only[S114_0,jaf]at hp;cases o with
   | nil=>simp[V114_0,B114_0,S114_0,jax,jbk,idsL,ids,Rw.v,Rw.b,jar hp.2.2.1]
   | own d m cap=>simp[V114_0,B114_0,S114_0,jax,jbk,idsL,ids,Rw.v,Rw.b,jar hp.2.2.1,jar (jbb.1 hp.1).plain]
 ·intro⟨b,c,n,o,i⟩ jk Z hp hf;simp only[S114_0]at hp hf;cases o with
  | nil=>
   rw[r114_0n];delta bt ak bu bm al dp av au il jl gq a0 am;simp only[jaf,jae]at hp;obtain⟨-,hi,hb,hp⟩:=hp;have hi:i<n:=jab hi;simp only[Rw.z,List.length_nil]at hp;have eb:∀ps,rlbL ps b.c=b.c:=fun ps=>rlbL_plain ps hb
   have gb:∀ps,jau ps b.c=true:=fun ps=>goodL_plain hb
   refine c_t (jaa hi) (fun cap1 tail ht=> ?_);rw[w8 (n:=c) (by omega)];have hh:=row_new [c] ht;have h1:RowP (.int .u8 c::tail) 1 cap1:=hh.1;have h2:zc (.int .u8 c::tail) 1=[c]:=hh.2;refine c_t (by simp[h1.good,gb]) ?_;rw[h1.rlb,eb,w64 (by omega)];refine⟨(b,c,n,.own _ 1 cap1,i+1),rfl,rfl,by simp only[S114_0,jaf,jae];exact⟨jbb.2 h1,rfl,hb,by omega,by omega,by omega,by omega,by omega,by simp only[Rw.z,h2,List.length_cons,List.length_nil];omega⟩,by simp only;omega,?_⟩;intro d' m' cap' g1 g2;refine hf d' m' cap' g1 ?_;rw[g2];simp only[Rw.z];rw[h2,show(n-i).toNat=(n-(i+1)).toNat+1 by omega,←rep1_succ];rfl
  | own d m cap=>
   rw[r114_0o];delta bt ak av au c9 il al dp jl gq fk jf am;simp only[jaf,jae]at hp;obtain⟨hr,-,hb,hp⟩:=hp;simp only[Rw.z]at hp;have eb:∀ps,rlbL ps b.c=b.c:=fun ps=>rlbL_plain ps hb
   have gb:∀ps,jau ps b.c=true:=fun ps=>goodL_plain hb
   have hr:=jbb.1 hr;have hzl:=jbs hr;apply cond_intro<;>intro h
   ·have h:=jab h;rw[w8 (n:=c) (by omega)];refine c_t (hr.ask (k:=1) (by omega)) (fun cap1 tail ht=> ?_);obtain⟨h1,h2⟩:=hr.app1 c ht;refine c_t (by rw[h1.good,gb];rfl) ?_;rw[h1.rlb,eb,w64 (by omega)];have hl1:(zc (List.take (m*1) d++ [Value.int IntKind.u8 c]++tail) (m+1)).length=m+1:=jbs h1;refine⟨(b,c,n,.own _ (m+1) cap1,i+1),rfl,rfl,by simp only[S114_0,jaf,jae];exact⟨jbb.2 h1,rfl,hb,by omega,by omega,by omega,by omega,by omega,by simp only[Rw.z,hl1];omega⟩,by simp only;omega,?_⟩;intro d' m' cap' g1 g2;refine hf d' m' cap' g1 ?_;rw[g2];simp only[Rw.z];rw[h2,show(n-i).toNat=(n-(i+1)).toNat+1 by omega,←rep1_succ,List.append_assoc]
   ·have h:=jac h;refine c_t (by rw[hr.good,gb];rfl) ?_;rw[hr.rlb,eb];obtain rfl:i=n:=by omega
    exact hf d m cap (jbb.2 hr) (by simp[Rw.z,rep1])
theorem fn114:Fn1 Tryz.prog 147 Tryz.f147:= .m Tryz.func147
def G17:Env:=(Env.nil.add 146 (sp2 s113)).addG 147 (inlQ Tryz.prog G16 (oneL 0 S114_0.hA) Tryz.f147)
theorem ok_G17:jao Tryz.prog G17:=jaq (jak jbr ok113) (jat ok_G16 hmix fn114 l114_0)
theorem dec_cases{s:Y}{p:Int}(h0:0≤p)(h:p<s.size):(jc8 s p.toNat<128→decO s p.toNat=((jc8 s p.toNat).toNat,1))∧(128≤jc8 s p.toNat→128≤(decO s p.toNat).1∧(decO s p.toNat).1≤2147483647∧1≤(decO s p.toNat).2):=by
 rw[decO_eq];have hs:p.toNat<s.size:=by omega
 have e:jc8 s p.toNat=((s[p.toNat]'hs).toNat:Int):=by
  have hl:p.toNat<s.data.toList.length:=by rw[Array.length_toList];exact hs
  simp only[jc8,List.getElem?_eq_getElem hl];rfl
 rw[e];refine⟨fun h=> ?_,fun h=> ?_⟩
 ·rw[decode_ascii s _ hs (by omega)];rfl
 ·have:=decode_high s _ hs (by omega);exact⟨this.1,decode_le s _,this.2⟩
theorem ji6{c:Int}(h:hasZ kL c=true):0≤c∧c<128:=by
 have:∀x∈kL,0≤x∧x<128:=by decide
 exact this c (jb2.1 h)
theorem jhh:∀(l:E)(n m:Int)(out:E),xpGo l 0 n out=xpGo l 0 m out
 | [],_,_,_=>rfl
 | c::r,n,m,out=>by
  simp only[xpGo];rfl
theorem xp_high{c:Int}(h:128≤c)(r:E)(st n:Int)(out:E):xpGo (c::r) st n out=([],false):=by
 have hu:upZ c=c:=by unfold upZ;rw[if_neg (by omega)]
 have hk:¬hasZ kL c=true:=fun q=>by have:=ji6 q;omega
 have hd:¬jiv c=true:=fun q=>by have:=jab q;omega
 rw[xpGo];split
 ·rw[if_neg (by omega),if_neg (fun q=>hd q.1)]
 ·rw[if_neg (by omega),if_neg (by omega),hu,if_neg (fun q=>hk q.1)]
theorem dec_step{s:Y}{p:Int}(h0:0≤p)(h:p<s.size):0≤((decO s p.toNat).1:Int)∧((decO s p.toNat).1:Int)≤2147483647∧1≤((decO s p.toNat).2:Int)∧
  ∀st n out,xpGo ((bz s).drop p.toNat) st n out=xpGo (((decO s p.toNat).1:Int)::(bz s).drop (p+((decO s p.toNat).2:Int)).toNat) st n out:=by
 obtain⟨h1,h2⟩:=dec_cases h0 h;have hb:=byte_rng s p.toNat;by_cases hc:jc8 s p.toNat<128
 ·have e:=h1 hc;rw[e];simp only;rw[Int.toNat_of_nonneg hb.1];refine⟨hb.1,by omega,by omega,fun st n out=> ?_⟩;rw[bz_at h0 h];rfl
 ·obtain⟨q1,q2,q3⟩:=h2 (by omega);refine⟨by omega,by omega,by omega,fun st n out=> ?_⟩;rw[bz_at h0 h,xp_high (by omega),xp_high (by omega)]
theorem x1{c st n:Int}{r out:E}(h:st=1)(hc:c=41)(hn:0<n):xpGo (c::r) st n out=xpGo r 2 n out:=by rw[xpGo,if_pos h,if_pos hc,if_pos hn]
theorem x2{c st n:Int}{r out:E}(h:st=1)(hc:c=41)(hn:¬0<n):xpGo (c::r) st n out=([],false):=by rw[xpGo,if_pos h,if_pos hc,if_neg hn]
theorem x34{c st n:Int}{r out:E}(h:st=1)(hc:¬c=41):xpGo (c::r) st n out=if(rpZ n c).2=true then xpGo r 1 (rpZ n c).1 out else([],false):=by
 rw[xpGo,if_pos h,if_neg hc,rpZ];by_cases q:c<48∨c>57∨(n=0∧c=48)
 ·rw[if_pos q,if_neg,if_neg (by simp)];simp only[jiv,jae];omega
 ·rw[if_neg q];simp only[jiv,jae];by_cases q2:10*n+(c-48)≤32
  ·rw[if_pos (by omega),if_pos q2]
  ·rw[if_neg (by omega),if_neg q2]
theorem rp_rng{n c:Int}(hn:0≤n)(h:(rpZ n c).2=true):0≤(rpZ n c).1∧(rpZ n c).1≤32:=by
 unfold rpZ at h ⊢;split at h
 ·cases h
 ·rename_i q;rw[if_neg q];simp only[jae]at h ⊢;omega
theorem x5{c st n:Int}{r out:E}(h:¬st=1)(hc:c=41∨st=2∧c=40):xpGo (c::r) st n out=([],false):=by rw[xpGo,if_neg h,if_pos hc]
theorem x6{c st n:Int}{r out:E}(h:¬st=1)(hc:¬(c=41∨st=2∧c=40))(h2:c=40):xpGo (c::r) st n out=xpGo r 1 0 out:=by rw[xpGo,if_neg h,if_neg hc,if_pos h2]
theorem x7{c st n:Int}{r out:E}(h:¬st=1)(hc:¬(c=41∨st=2∧c=40))(h2:¬c=40):xpGo (c::r) st n out=if hasZ kL (upZ c)=true∧(out.length:Int)+(if st=2 then n else 1)≤32 then xpGo r 0 0 (out++rep1 (upZ c) (if st=2 then n else 1).toNat)else([],false):=by rw[xpGo,if_neg h,if_neg hc,if_neg h2]
theorem put_gate{u k:Int}{L:Nat}(hu:0≤u∧u≤2147483647)(hk:1≤k∧k≤32)(hL:L≤32):
  (decide (u≥128) || decide (0≤IntKind.wrap IntKind.u8 u∧IntKind.wrap IntKind.u8 u<256) && (decide (idxZ (bz (ByteArray.mk #[57,86,90,42,89,84,73,82,83,43,45,36,44,46,47,66,67,68,65,88])) (IntKind.wrap IntKind.u8 u)<0) || true))=true∧
  (decide (u≥128) || (decide (idxZ (bz (ByteArray.mk #[57,86,90,42,89,84,73,82,83,43,45,36,44,46,47,66,67,68,65,88])) (IntKind.wrap IntKind.u8 u)<0) || decide (IntKind.wrap IntKind.i64 (natO L+k)>32)))= !(decide (hasZ kL u=true∧(L:Int)+k≤32)):=by
 have eb:bz (ByteArray.mk #[57,86,90,42,89,84,73,82,83,43,45,36,44,46,47,66,67,68,65,88])=kL:=by kernel_rfl
 rw[eb,ja1,w64 (by omega)];by_cases h:u≥128
 ·have hh:¬(hasZ kL u=true∧(L:Int)+k≤32):=fun q=>by have:=ji6 q.1;omega
  rw[jaa h,jad hh];exact⟨rfl,rfl⟩
 ·rw[w8 (by omega),jad h,jaa (show 0≤u∧u<256 by omega)];refine⟨by simp,?_⟩;have hi:=jfe u kL;rw[←jb2]at hi;by_cases h1:hasZ kL u=true
  ·rw[h1]at hi ⊢;have hi:=hi.2.2 rfl;rw[jad (show¬idxZ kL u<0 by omega)];by_cases h2:(L:Int)+k≤32
   ·rw[jad (show¬(L:Int)+k>32 by omega),jaa ⟨rfl,h2⟩];rfl
   ·rw[jaa (show(L:Int)+k>32 by omega),jad (fun q=>h2 q.2)];rfl
  ·have hn:idxZ kL u<0:=by
    have:¬0≤idxZ kL u:=fun q=>h1 (hi.2.1 q)
    omega
   rw[jaa hn,jad (show¬(hasZ kL u=true∧(L:Int)+k≤32)from fun q=>h1 q.1)];rfl
theorem jgw{u k:Int}{p:Int}{s:Y}(hu:0≤u∧u≤2147483647)(hk:1≤k∧k≤32){A:Prop}{Q:Nat→Nat→U→Prop}
  (h1:¬(hasZ kL u=true∧((([]:E).length:Nat):Int)+k≤32)→A)
  (h2:hasZ kL u=true∧((([]:E).length:Nat):Int)+k≤32→ ∀d' m' cap',RowP d' m' cap'→zc d' m'=[]++rep1 u k.toNat→Q m' cap' d'):
  bif decide (u≥128) || decide (0≤IntKind.wrap IntKind.u8 u∧IntKind.wrap IntKind.u8 u<256) && (decide (idxZ (bz (ByteArray.mk #[57,86,90,42,89,84,73,82,83,43,45,36,44,46,47,66,67,68,65,88])) (IntKind.wrap IntKind.u8 u)<0) || true)then
   bif decide (u≥128) || (decide (idxZ (bz (ByteArray.mk #[57,86,90,42,89,84,73,82,83,43,45,36,44,46,47,66,67,68,65,88])) (IntKind.wrap IntKind.u8 u)<0) || decide (IntKind.wrap IntKind.i64 (natO 0+k)>32))then A
   else
    bif LSpec.pre (LSpecA.toLSpec S114_0) (Blk.mk [Value.string s,Value.int IntKind.i64 p] 4611686018427387904 true,u,k,Rw.nil,0)then
     ∀(d':U)(m' cap':Nat),jd4 d' m' cap'=true→zc d' m'=Rw.z Rw.nil++rep1 u (Int.toNat (k-0))→
      bif jax 420 d'&&true then∀(_:Tmps),bif jau [(400,200)] d'&&true&&true then Q m' cap' d' else False else False
    else False
  else False:=by
 obtain⟨g1,g2⟩:=put_gate (L:=0) hu hk (by omega);refine c_t g1 ?_;rw[g2];by_cases hq:hasZ kL u=true∧((0:Nat):Int)+k≤32
 ·rw[jaa hq];have hkl:=ji6 hq.1;refine c_f rfl (c_t ?_ fun d' m' cap' r1 r2=> ?_)
  ·simp only[S114_0,jaf,jae,Rw.ok,Rw.is,Rw.z,List.length_nil,Bool.false_or,true_and,jas,plain];exact⟨by omega,jaa (by omega)⟩
  ·have r1:=jbb.1 r1;refine c_t (by rw[jbc r1.plain];rfl) fun x=>c_t (by rw[r1.good];rfl) ?_
   exact h2 hq d' m' cap' r1 (by rw[r2,Int.sub_zero];rfl)
 ·rw[jad hq];exact c_t rfl (h1 hq)
theorem jgv{u k:Int}{p:Int}{s:Y}{d:U}{m cap:Nat}(hr:RowP d m cap)(hm:m≤32)(hu:0≤u∧u≤2147483647)(hk:1≤k∧k≤32){A:Prop}{Q:Nat→Nat→U→Prop}
  (h1:¬(hasZ kL u=true∧((zc d m).length:Int)+k≤32)→A)
  (h2:hasZ kL u=true∧((zc d m).length:Int)+k≤32→ ∀d' m' cap',RowP d' m' cap'→zc d' m'=zc d m++rep1 u k.toNat→Q m' cap' d'):
  bif decide (u≥128) || decide (0≤IntKind.wrap IntKind.u8 u∧IntKind.wrap IntKind.u8 u<256) && (decide (idxZ (bz (ByteArray.mk #[57,86,90,42,89,84,73,82,83,43,45,36,44,46,47,66,67,68,65,88])) (IntKind.wrap IntKind.u8 u)<0) || true)then
   bif decide (u≥128) || (decide (idxZ (bz (ByteArray.mk #[57,86,90,42,89,84,73,82,83,43,45,36,44,46,47,66,67,68,65,88])) (IntKind.wrap IntKind.u8 u)<0) || decide (IntKind.wrap IntKind.i64 (natO m+k)>32))then
    bif jau [] d&&true&&true then A else False
   else
    bif jau [(200,400)] d&&true&&true&& (jax 420 d&&true)then
     bif LSpec.pre (LSpecA.toLSpec S114_0) (Blk.mk [Value.string s,Value.int IntKind.i64 p] 4611686018427387904 true,u,k,Rw.own d m cap,0)then
      ∀(d':U)(m' cap':Nat),jd4 d' m' cap'=true→zc d' m'=Rw.z (Rw.own d m cap)++rep1 u (Int.toNat (k-0))→
       bif jax 420 d'&&true then∀(_:Tmps),bif jau [(400,200)] d'&&true&&true then Q m' cap' d' else False else False
     else False
    else False
  else False:=by
 obtain⟨g1,g2⟩:=put_gate (L:=m) hu hk (by omega);rw[jbs hr]at h1 h2;have hzl:=jbs hr;refine c_t g1 ?_;rw[g2,hr.good,hr.good,jbc hr.plain];by_cases hq:hasZ kL u=true∧(m:Int)+k≤32
 ·rw[jaa hq];have hkl:=ji6 hq.1;refine c_f rfl (c_t rfl (c_t ?_ fun d' m' cap' r1 r2=> ?_))
  ·simp only[S114_0,jaf,jae,Rw.ok,Rw.is,Rw.z,Bool.true_or,true_and,jas,plain];exact⟨jbb.2 hr,jaa (by omega)⟩
  ·have r1:=jbb.1 r1;refine c_t (by rw[jbc r1.plain];rfl) fun x=>c_t (by rw[r1.good];rfl) ?_
   exact h2 hq d' m' cap' r1 (by rw[r2,Int.sub_zero];rfl)
 ·rw[jad hq];exact c_t rfl (c_t rfl (h1 hq))
def V80_0:Y×Bool×Rw×Int×Int×Bool×Y×Int→U:=fun(r,rb,o,st,n,f,s,p)=> [.string r,.bool rb,o.v 200,.int .i64 st,.int .i64 n,.bool f,.pointer (some ⟨7,0,some 0⟩)]
def B80_0:Y×Bool×Rw×Int×Int×Bool×Y×Int→F:=fun(r,rb,o,st,n,f,s,p)=> [some ⟨[.string s,.int .i64 p],itTy,true⟩,o.b]
def S80_0:LSpecA (Y×Bool×Rw×Int×Int×Bool×Y×Int) where
 live:=[2,3,4,5,6,7,11]
 mid:=[7,200]
 n:=210
 ap:=[(.tmp 4,200)]
 dec vs bs:=match vs,bs with
  | [.string r,.bool rb,.slice none 0 0,.int .i64 st,.int .i64 n,.bool f,.pointer (some ⟨7,0,some 0⟩)],[some ⟨[.string s,.int .i64 p],ty,true⟩,none]=>match Nat.beq ty itTy with | true=>some (r,rb,.nil,st,n,f,s,p) | false=>none
  | [.string r,.bool rb,.slice (some ⟨200,0,some 1⟩) m cap,.int .i64 st,.int .i64 n,.bool f,.pointer (some ⟨7,0,some 0⟩)],[some ⟨[.string s,.int .i64 p],ty,true⟩,some ⟨d,5,true⟩]=>match Nat.beq ty itTy with | true=>some (r,rb,.own d m cap,st,n,f,s,p) | false=>none
  | _,_=>none
 pre:=fun(r,rb,o,st,n,f,s,p)=>o.ok&& (f&&decide (0≤p∧s.size≤9223372036854775807∧(st=0∨st=1∨(st=2∧0<n))∧0≤n∧n≤32∧o.z.length≤32))
 fin:=fun(r,rb,o,st,n,f,s,p) Z=>(xpGo ((bz s).drop p.toNat) st n o.z=([],false)→(∀st' n' f' p',Z .ret [.string ⟨#[]⟩,.bool false,.slice none 0 0,.int .i64 st',.int .i64 n',.bool f',.pointer (some ⟨7,0,some 0⟩)] [some ⟨[.string s,.int .i64 p'],itTy,true⟩,none])∧(∀d' m' cap' st' n' f' p',jd4 d' m' cap'=true→Z .ret [.string ⟨#[]⟩,.bool false,.slice (some ⟨200,0,some 1⟩) m' cap',.int .i64 st',.int .i64 n',.bool f',.pointer (some ⟨7,0,some 0⟩)] [some ⟨[.string s,.int .i64 p'],itTy,true⟩,some ⟨d',5,true⟩])∧(∀d' st' n' f' p',jas d'=true→Z .ret [.string ⟨#[]⟩,.bool false,.slice none 0 0,.int .i64 st',.int .i64 n',.bool f',.pointer (some ⟨7,0,some 0⟩)] [some ⟨[.string s,.int .i64 p'],itTy,true⟩,some ⟨d',5,true⟩]))∧(∀st' n' f' p',xpGo ((bz s).drop p.toNat) st n o.z=([],decide (st'=0))→Z (.exit 0) [.string r,.bool rb,.slice none 0 0,.int .i64 st',.int .i64 n',.bool f',.pointer (some ⟨7,0,some 0⟩)] [some ⟨[.string s,.int .i64 p'],itTy,true⟩,none])∧(∀d' m' cap' st' n' f' p',jd4 d' m' cap'=true→xpGo ((bz s).drop p.toNat) st n o.z=(zc d' m',decide (st'=0))→Z (.exit 0) [.string r,.bool rb,.slice (some ⟨200,0,some 1⟩) m' cap',.int .i64 st',.int .i64 n',.bool f',.pointer (some ⟨7,0,some 0⟩)] [some ⟨[.string s,.int .i64 p'],itTy,true⟩,some ⟨d',5,true⟩])
def dw(a:Nat):Value:= .pointer (av a 0 0)
def dl(a b c:Bool)(d e:Prop):Prop:=bif a || b then bif c then d else e else False
def a7(a:Y)(b:Int):Int:=((decO a b.toNat).fst:Int)
def bx(a:Bool)(b:Prop):Prop:=bif a then b else False
def jm(c:Y)(a b d:Int)(e f g h i:Prop):Prop:=bif a==1 then bx (decide (0≤b∧b≤32∧0≤a7 c d∧a7 c d≤2147483647)) e else dl (a7 c d==41) (a==2 || true) (a7 c d==41 || a==2&&a7 c d==40) f (bif a7 c d==40 then g else bif a==2 then h else i)
def j4(a:Int):Bool:=decide (idxZ (bz ⟨#[57,86,90,42,89,84,73,82,83,43,45,36,44,46,47,66,67,68,65,88]⟩) (IntKind.u8.wrap a)<0)
def b6(a b:Int):Bool:=decide (0≤a∧a<b)
def j3(e:Bool)(a c:Int)(b:Nat)(d f:Prop):Prop:=bif decide (a≥128) || b6 (IntKind.u8.wrap a) 256&& (j4 a || true)then bif decide (a≥128) || (j4 a || ar (al (natO b) c) 32)then d else bx e f else False
def j5(f h:Bool)(a:Y)(b d:Int)(c:Nat)(e g i:Prop):Prop:=bif decide (a7 a b≥97) || true then bif decide (a7 a b≥97) &&decide (a7 a b≤122)then j3 f (fu (a7 a b) 32) d c e g else j3 h (a7 a b) d c e i else False
def bw(a:Bool)(b:Exit→U→F→Prop)(d:F)(c:U):Prop:=bif a then b .normal c d else False
def fw(a:Y)(b:Int):Blk:= .mk [.string a,.int .i64 (b+((decO a b.toNat).snd:Int))] 4611686018427387904 true
def dt(c:U)(a b:Nat):Bool:=jau [(a,b)] c&&true&&true
def bn(b:U)(a:Nat):Bool:=jax a b&&true
def jd(i:Bool)(h l:Y)(g:Exit→U→F→Prop)(e f j k m:Int)(d:Px.Rw):Prop:=∀a:U,∀b:Nat,∀c:Nat,jd4 a b c=true→zc a b=Rw.z d++rep1 e (Int.toNat (f-0))→(bif bn a 420 then Tmps→bw (dt a 400 200) g [some (fw l m),c9 a 400 200 5] [.string h,.bool i,au 200 0 b c,ak j,ak k,.bool true,dw 7]else False)
def dx:Value:= .string ⟨#[]⟩
def iq(g:Y)(a:Exit→U→F→Prop)(e f h:Int)(c d:Nat)(b:J)(i:Option Blk):Prop:=a .ret [dx,.bool false,.slice b c d,ak e,ak f,.bool false,dw 7] [some (fw g h),i]
def je(a:Y)(b c d:Int)(e:Px.Rw):Bool:=S114_0.toLSpec.pre (fw a b,(c,(d,(e,(0:Int)))))
def j9(g:Bool)(a h:Y)(d:Exit→U→F→Prop)(b c e f:Int):Prop:=j5 (je a b (fu (a7 a b) 32) c Rw.nil) (je a b (a7 a b) c Rw.nil) a b c 0 (iq a d e f b 0 0 none none) (jd g h a d (fu (a7 a b) 32) c e f b Rw.nil) (jd g h a d (a7 a b) c e f b Rw.nil)
def fp(i:Blk)(a:Bool)(b:Exit→U→F→Prop)(f g n:Int)(j:F)(h:U)(c d e k l m:Value):Prop:=bif a then b .ret (c::d::e::ak f::ak g::h) (some i::j)else b .normal (k::l::m::ak f::ak n::h) (some i::j)
def b4(a:Y):Int:=(a.size:Int)
theorem r80_0n(r:Y)(rb:Bool)(st:Int)(n:Int)(f:Bool)(s:Y)(p:Int)(jk:Tmps)(R:Exit→U→F→Prop):(jb7 Tryz.prog G17 noL Tryz.f113.ntmps (jbh Tryz.f113 0) (tl S80_0.live (V80_0 (r,rb,.nil,st,n,f,s,p)) jk) (ml S80_0.mid (B80_0 (r,rb,.nil,st,n,f,s,p))) S80_0.n fun e t' m' _=>S80_0.out R e t' m')=(bif decide (0≤p)then bif am p (b4 s)then dl (st==1) true (st==1&&a7 s p==41) (fp (fw s p) (!ar n 0) R 2 n n [none] [B (ar n 0),dw 7] dx (B false) bu (S r) (B rb) bu) (jm s st n p (fp (fw s p) (!(rpZ n (a7 s p)).snd) R st (rpZ n (a7 s p)).fst (rpZ n (a7 s p)).fst [none] [B (rpZ n (a7 s p)).snd,dw 7] dx (B false) bu (S r) (B rb) bu) (iq s R st n p 0 0 none none) (fp (fw s p) (!f) R 1 0 0 [none] [B f,dw 7] dx (B false) bu (S r) (B rb) bu) (j9 rb s r R p n 0 n) (j9 rb s r R p 1 st n))else R (.exit 0) [S r,B rb,bu,ak st,ak n,B f,dw 7] [some (.mk [S s,ak p] 4611686018427387904 true),none]else False):=by kernel_rfl
def aq(a:U):U:=rlbL [] a
def dm(b:U)(a:Nat):Bool:=jax a b&&true
def kc(j:Bool)(b k:Y)(f:Exit→U→F→Prop)(c d g h:Int)(a:U)(e i:Nat):Prop:=j5 (dt a 200 400&&dm (rlbL [(200,400)] a) 420) (dt a 200 400&&dm (rlbL [(200,400)] a) 420) b c d e (bif bm [] a then iq b f g h c 0 0 none (some (.mk (aq a) 5 true))else False) (bif je b c (fu (a7 b c) 32) d (Rw.own (rlbL [(200,400)] a) e i)then jd j k b f (fu (a7 b c) 32) d g h c (Rw.own (rlbL [(200,400)] a) e i)else False) (bif je b c (a7 b c) d (Rw.own (rlbL [(200,400)] a) e i)then jd j k b f (a7 b c) d g h c (Rw.own (rlbL [(200,400)] a) e i)else False)
def jn(a k:Bool)(h j:Y)(c:Exit→U→F→Prop)(f g i:Int)(b:U)(d e:Nat):Prop:=bif !a then bif dt b 200 200 then c .ret [dx,.bool false,au 200 0 d e,ak f,ak g,.bool a,dw 7] [some (fw h i),c9 b 200 200 5]else False else bw (dt b 200 200) c [some (fw h i),c9 b 200 200 5] [.string j,.bool k,au 200 0 d e,ak f,ak g,.bool a,dw 7]
theorem r80_0o(r:Y)(rb:Bool)(d:U)(m:Nat)(cap:Nat)(st:Int)(n:Int)(f:Bool)(s:Y)(p:Int)(jk:Tmps)(R:Exit→U→F→Prop):(jb7 Tryz.prog G17 noL Tryz.f113.ntmps (jbh Tryz.f113 0) (tl S80_0.live (V80_0 (r,rb,.own d m cap,st,n,f,s,p)) jk) (ml S80_0.mid (B80_0 (r,rb,.own d m cap,st,n,f,s,p))) S80_0.n fun e t' m' _=>S80_0.out R e t' m')=(bif decide (0≤p)then bif am p (b4 s)then dl (st==1) true (st==1&&a7 s p==41) (jn (ar n 0) rb s r R 2 n p d m cap) (jm s st n p (jn (rpZ n (a7 s p)).snd rb s r R st (rpZ n (a7 s p)).fst p d m cap) (bif dt d 200 200 then iq s R st n p m cap (av 200 0 1) (c9 d 200 200 5)else False) (jn f rb s r R 1 0 p d m cap) (kc rb s r R p n 0 n d m cap) (kc rb s r R p 1 st n d m cap))else bt (dt d 200 200) R [some (.mk [S s,ak p] 4611686018427387904 true),c9 d 200 200 5] [S r,B rb,au 200 0 m cap,ak st,ak n,B f,dw 7] 0 else False):=by kernel_rfl
theorem l80_0:LOKf Tryz.prog (oneL 0 S80_0.hA) Tryz.f113:=by
 refine jci (h:=S80_0.hA) (by kernel_rfl) (jbz ok_G17 hmix (by kernel_rfl) (jbo _) S80_0 V80_0 B80_0 (fun(r,rb,o,st,n,f,s,p)=>(s.size-p).toNat) ?_ ?_ ?_)
 ·intro vs bs s h;simp only[S80_0]at h;split at h
  all_goals first | (cases h;exact⟨rfl,rfl⟩) | cases h | (split at h<;>first | (rename_i hq;cases h;have hq:=jah hq;subst hq;exact⟨rfl,rfl⟩) | cases h)
 ·exact fun⟨r,rb,o,st,n,f,s,p⟩ hp=>by
   simp only[S80_0,jaf]at hp;cases o with
   | nil=>simp[V80_0,B80_0,S80_0,jax,jbk,idsL,ids,Rw.v,Rw.b]
   | own d m cap=>simp[V80_0,B80_0,S80_0,jax,jbk,idsL,ids,Rw.v,Rw.b,jar (jbb.1 hp.1).plain]
 ·intro⟨r,rb,o,st,n,f,s,p⟩ jk Z hp hf;simp only[S80_0]at hp hf;cases o with
  | nil=>
   rw[r80_0n];delta ak av dw bu dl a7 bx jm ar al j4 b6 j3 fu j5 bw au c9 fw dt bn jd dx iq je j9 fp am b4;simp only[jaf,jae]at hp;obtain⟨-,rfl,hp⟩:=hp;simp only[Rw.z]at hp hf;refine c_t (jaa hp.1) (cond_intro (fun h=> ?_) (fun h=> ?_))
   ·have h:=jab h;obtain⟨k1,k2,k3,k4⟩:=dec_step hp.1 h;simp only[k4]at hf;clear k4;generalize ((decO s p.toNat).1:Int)=c at k1 k2 hf ⊢;generalize ((decO s p.toNat).2:Int)=k at k3 hf ⊢;have mu:(s.size-(p+k)).toNat<(s.size-p).toNat:=by omega
    refine c_t (by simp) (cond_intro (fun a=> ?_) (fun a=> ?_))
    ·have a:st=1∧c=41:=by simpa using a
     apply cond_intro<;>intro b
     ·have b:¬0<n:=by simpa using b
      exact(hf.1 (x2 a.1 a.2 b)).1 _ _ _ _
     ·have b:0<n:=by simpa using b
      rw[x1 a.1 a.2 b]at hf;rw[jaa b];exact⟨(r,rb,.nil,2,n,true,s,p+k),rfl,rfl,by simp only[S80_0,jaf,jae];exact⟨rfl,trivial,by omega,hp.2.1,.inr (.inr ⟨trivial,b⟩),by omega,by omega,Nat.zero_le _⟩,mu,hf⟩
    ·refine cond_intro (fun b=>c_t (jaa ⟨by omega,by omega,k1,k2⟩) ?_) (fun b=> ?_)
     ·have b:st=1:=by simpa using b
      have a:¬c=41:=fun q=>by rw[b,q]at a;cases a
      rw[x34 b a]at hf;apply cond_intro<;>intro g
      ·have g:(rpZ n c).2=false:=by simpa using g
       rw[if_neg (by rw[g];simp)]at hf;exact(hf.1 rfl).1 _ _ _ _
      ·have g:(rpZ n c).2=true:=by simpa using g
       have gr:=rp_rng hp.2.2.2.1 g;rw[if_pos g]at hf;rw[g,b];exact⟨(r,rb,.nil,1,(rpZ n c).1,true,s,p+k),rfl,rfl,by simp only[S80_0,jaf,jae];exact⟨rfl,trivial,by omega,hp.2.1,.inr (.inl trivial),by omega,by omega,Nat.zero_le _⟩,mu,hf⟩
     ·have b:¬st=1:=by simpa using b
      have hst:st=0∨st=2∧0<n:=by omega
      refine c_t (by simp) (cond_intro (fun g=> ?_) (fun g=> ?_))
      ·have g:c=41∨st=2∧c=40:=by simpa using g
       exact(hf.1 (x5 b g)).1 _ _ _ _
      ·have g:¬(c=41∨st=2∧c=40):=by
        intro q;have:(c==41 || st==2&&c==40)=true:=by simpa using q
        rw[this]at g;cases g
       refine cond_intro (fun q=>c_f rfl (?_)) (fun q=> ?_)
       ·have q:c=40:=by simpa using q
        rw[x6 b g q]at hf;exact⟨(r,rb,.nil,1,0,true,s,p+k),rfl,rfl,by simp only[S80_0,jaf,jae];exact⟨rfl,trivial,by omega,hp.2.1,.inr (.inl trivial),by omega,by omega,Nat.zero_le _⟩,mu,hf⟩
       ·have q:¬c=40:=by simpa using q
        rw[x7 b g q]at hf;apply cond_intro<;>intro v
        ·have v:st=2:=by simpa using v
         rw[if_pos v]at hf;refine c_t (by simp) (cond_intro (fun y=> ?_) (fun y=> ?_))
         ·have y:97≤c∧c≤122:=by simpa using y
          have hu:upZ c=c-32:=by unfold upZ;rw[if_pos y]
          rw[hu]at hf;rw[w32 (by omega)];refine jgw ?_ ?_ (fun e=> ?_) (fun e d' m' cap' r1 r2=> ?_)
          ·omega
          ·omega
          ·rw[if_neg e]at hf;exact(hf.1 rfl).1 _ _ _ _
          ·rw[r1.rlb];rw[if_pos e,←r2,jhh _ 0 n]at hf;have hl:=jbs r1;have hl2:=congrArg List.length r2;simp only[List.length_append,rep1,List.length_replicate]at hl2;simp only[List.length_nil]at e hl2;exact⟨(r,rb,.own d' m' cap',0,n,true,s,p+k),rfl,rfl,by simp only[S80_0,jaf,jae];exact⟨jbb.2 r1,trivial,by omega,hp.2.1,.inl trivial,hp.2.2.2.1,hp.2.2.2.2.1,by simp only[Rw.z,hl];omega⟩,mu,hf⟩
         ·have y:¬(97≤c∧c≤122):=by
           intro q;have:(decide (c≥97) &&decide (c≤122))=true:=by simpa using q
           rw[this]at y;cases y
          have hu:upZ c=c:=by unfold upZ;rw[if_neg y]
          rw[hu]at hf;refine jgw ?_ ?_ (fun e=> ?_) (fun e d' m' cap' r1 r2=> ?_)
          ·omega
          ·omega
          ·rw[if_neg e]at hf;exact(hf.1 rfl).1 _ _ _ _
          ·rw[r1.rlb];rw[if_pos e,←r2,jhh _ 0 n]at hf;have hl:=jbs r1;have hl2:=congrArg List.length r2;simp only[List.length_append,rep1,List.length_replicate]at hl2;simp only[List.length_nil]at e hl2;exact⟨(r,rb,.own d' m' cap',0,n,true,s,p+k),rfl,rfl,by simp only[S80_0,jaf,jae];exact⟨jbb.2 r1,trivial,by omega,hp.2.1,.inl trivial,hp.2.2.2.1,hp.2.2.2.2.1,by simp only[Rw.z,hl];omega⟩,mu,hf⟩
        ·have v:¬st=2:=by simpa using v
         have v0:st=0:=by omega
         rw[if_neg v]at hf;refine c_t (by simp) (cond_intro (fun y=> ?_) (fun y=> ?_))
         ·have y:97≤c∧c≤122:=by simpa using y
          have hu:upZ c=c-32:=by unfold upZ;rw[if_pos y]
          rw[hu]at hf;rw[w32 (by omega),v0];refine jgw ?_ ?_ (fun e=> ?_) (fun e d' m' cap' r1 r2=> ?_)
          ·omega
          ·omega
          ·rw[if_neg e]at hf;exact(hf.1 rfl).1 _ _ _ _
          ·rw[r1.rlb];rw[if_pos e,←r2,jhh _ 0 n]at hf;have hl:=jbs r1;have hl2:=congrArg List.length r2;simp only[List.length_append,rep1,List.length_replicate]at hl2;simp only[List.length_nil]at e hl2;exact⟨(r,rb,.own d' m' cap',0,n,true,s,p+k),rfl,rfl,by simp only[S80_0,jaf,jae];exact⟨jbb.2 r1,trivial,by omega,hp.2.1,.inl trivial,hp.2.2.2.1,hp.2.2.2.2.1,by simp only[Rw.z,hl];omega⟩,mu,hf⟩
         ·have y:¬(97≤c∧c≤122):=by
           intro q;have:(decide (c≥97) &&decide (c≤122))=true:=by simpa using q
           rw[this]at y;cases y
          have hu:upZ c=c:=by unfold upZ;rw[if_neg y]
          rw[hu]at hf;rw[v0];refine jgw ?_ ?_ (fun e=> ?_) (fun e d' m' cap' r1 r2=> ?_)
          ·omega
          ·omega
          ·rw[if_neg e]at hf;exact(hf.1 rfl).1 _ _ _ _
          ·rw[r1.rlb];rw[if_pos e,←r2,jhh _ 0 n]at hf;have hl:=jbs r1;have hl2:=congrArg List.length r2;simp only[List.length_append,rep1,List.length_replicate]at hl2;simp only[List.length_nil]at e hl2;exact⟨(r,rb,.own d' m' cap',0,n,true,s,p+k),rfl,rfl,by simp only[S80_0,jaf,jae];exact⟨jbb.2 r1,trivial,by omega,hp.2.1,.inl trivial,hp.2.2.2.1,hp.2.2.2.2.1,by simp only[Rw.z,hl];omega⟩,mu,hf⟩
   ·have h:=jac h;rw[bz_end (by omega)]at hf;exact hf.2.1 st n _ p rfl
  | own d m cap=>
   rw[r80_0o];delta bt av dw ak au c9 dt dl a7 bx jm ar al j4 b6 j3 fu j5 bw fw bn jd je dx iq aq bm dm kc jn am b4;simp only[jaf,jae]at hp;obtain⟨hR,rfl,hp⟩:=hp;have hr:=jbb.1 hR;have hzl:=jbs hr;simp only[Rw.z]at hp hf;have hL:(Rw.own d m cap).z.length≤32:=by simp only[Rw.z];exact hp.2.2.2.2.2
   have hm:m≤32:=by have:=hp.2.2.2.2.2;omega
   simp only[hr.rlb];have hg:∀ps,(jau ps d&&true&&true)=true:=fun ps=>by rw[hr.good];rfl
   refine c_t (jaa hp.1) (cond_intro (fun h=> ?_) (fun h=> ?_))
   ·have h:=jab h;obtain⟨k1,k2,k3,k4⟩:=dec_step hp.1 h;simp only[k4]at hf;clear k4;generalize ((decO s p.toNat).1:Int)=c at k1 k2 hf ⊢;generalize ((decO s p.toNat).2:Int)=k at k3 hf ⊢;have mu:(s.size-(p+k)).toNat<(s.size-p).toNat:=by omega
    refine c_t (by simp) (cond_intro (fun a=> ?_) (fun a=> ?_))
    ·have a:st=1∧c=41:=by simpa using a
     refine cond_intro (fun b=>c_t (hg _) ?_) (fun b=>c_t (hg _) ?_)
     ·have b:¬0<n:=by simpa using b
      exact(hf.1 (x2 a.1 a.2 b)).2.1 d m cap _ _ _ _ hR
     ·have b:0<n:=by simpa using b
      rw[x1 a.1 a.2 b]at hf;rw[jaa b];exact⟨(r,rb,.own d m cap,2,n,true,s,p+k),rfl,rfl,by simp only[S80_0,jaf,jae];exact⟨hR,trivial,by omega,hp.2.1,.inr (.inr ⟨trivial,b⟩),by omega,by omega,hL⟩,mu,hf⟩
    ·refine cond_intro (fun b=>c_t (jaa ⟨by omega,by omega,k1,k2⟩) ?_) (fun b=> ?_)
     ·have b:st=1:=by simpa using b
      have a:¬c=41:=fun q=>by rw[b,q]at a;cases a
      rw[x34 b a]at hf;refine cond_intro (fun g=>c_t (hg _) ?_) (fun g=>c_t (hg _) ?_)
      ·have g:(rpZ n c).2=false:=by simpa using g
       rw[if_neg (by rw[g];simp)]at hf;exact(hf.1 rfl).2.1 d m cap _ _ _ _ hR
      ·have g:(rpZ n c).2=true:=by simpa using g
       have gr:=rp_rng hp.2.2.2.1 g;rw[if_pos g]at hf;rw[g,b];exact⟨(r,rb,.own d m cap,1,(rpZ n c).1,true,s,p+k),rfl,rfl,by simp only[S80_0,jaf,jae];exact⟨hR,trivial,by omega,hp.2.1,.inr (.inl trivial),by omega,by omega,hL⟩,mu,hf⟩
     ·have b:¬st=1:=by simpa using b
      have hst:st=0∨st=2∧0<n:=by omega
      refine c_t (by simp) (cond_intro (fun g=>c_t (hg _) ?_) (fun g=> ?_))
      ·have g:c=41∨st=2∧c=40:=by simpa using g
       exact(hf.1 (x5 b g)).2.1 d m cap _ _ _ _ hR
      ·have g:¬(c=41∨st=2∧c=40):=by
        intro q;have:(c==41 || st==2&&c==40)=true:=by simpa using q
        rw[this]at g;cases g
       refine cond_intro (fun q=>c_f rfl (c_t (hg _) ?_)) (fun q=> ?_)
       ·have q:c=40:=by simpa using q
        rw[x6 b g q]at hf;exact⟨(r,rb,.own d m cap,1,0,true,s,p+k),rfl,rfl,by simp only[S80_0,jaf,jae];exact⟨hR,trivial,by omega,hp.2.1,.inr (.inl trivial),by omega,by omega,hL⟩,mu,hf⟩
       ·have q:¬c=40:=by simpa using q
        rw[x7 b g q]at hf;apply cond_intro<;>intro v
        ·have v:st=2:=by simpa using v
         rw[if_pos v]at hf;refine c_t (by simp) (cond_intro (fun y=> ?_) (fun y=> ?_))
         ·have y:97≤c∧c≤122:=by simpa using y
          have hu:upZ c=c-32:=by unfold upZ;rw[if_pos y]
          rw[hu]at hf;rw[w32 (by omega)];refine jgv hr hm ?_ ?_ (fun e=> ?_) (fun e d' m' cap' r1 r2=> ?_)
          ·omega
          ·omega
          ·rw[if_neg e]at hf;exact(hf.1 rfl).2.2 d _ _ _ _ hr.plain
          ·rw[r1.rlb];rw[if_pos e,←r2,jhh _ 0 n]at hf;have hl:=jbs r1;have hl2:=congrArg List.length r2;simp only[List.length_append,rep1,List.length_replicate]at hl2;simp only[hzl]at e hl2;exact⟨(r,rb,.own d' m' cap',0,n,true,s,p+k),rfl,rfl,by simp only[S80_0,jaf,jae];exact⟨jbb.2 r1,trivial,by omega,hp.2.1,.inl trivial,hp.2.2.2.1,hp.2.2.2.2.1,by simp only[Rw.z,hl];omega⟩,mu,hf⟩
         ·have y:¬(97≤c∧c≤122):=by
           intro q;have:(decide (c≥97) &&decide (c≤122))=true:=by simpa using q
           rw[this]at y;cases y
          have hu:upZ c=c:=by unfold upZ;rw[if_neg y]
          rw[hu]at hf;refine jgv hr hm ?_ ?_ (fun e=> ?_) (fun e d' m' cap' r1 r2=> ?_)
          ·omega
          ·omega
          ·rw[if_neg e]at hf;exact(hf.1 rfl).2.2 d _ _ _ _ hr.plain
          ·rw[r1.rlb];rw[if_pos e,←r2,jhh _ 0 n]at hf;have hl:=jbs r1;have hl2:=congrArg List.length r2;simp only[List.length_append,rep1,List.length_replicate]at hl2;simp only[hzl]at e hl2;exact⟨(r,rb,.own d' m' cap',0,n,true,s,p+k),rfl,rfl,by simp only[S80_0,jaf,jae];exact⟨jbb.2 r1,trivial,by omega,hp.2.1,.inl trivial,hp.2.2.2.1,hp.2.2.2.2.1,by simp only[Rw.z,hl];omega⟩,mu,hf⟩
        ·have v:¬st=2:=by simpa using v
         have v0:st=0:=by omega
         rw[if_neg v]at hf;refine c_t (by simp) (cond_intro (fun y=> ?_) (fun y=> ?_))
         ·have y:97≤c∧c≤122:=by simpa using y
          have hu:upZ c=c-32:=by unfold upZ;rw[if_pos y]
          rw[hu]at hf;rw[w32 (by omega),v0];refine jgv hr hm ?_ ?_ (fun e=> ?_) (fun e d' m' cap' r1 r2=> ?_)
          ·omega
          ·omega
          ·rw[if_neg e]at hf;exact(hf.1 rfl).2.2 d _ _ _ _ hr.plain
          ·rw[r1.rlb];rw[if_pos e,←r2,jhh _ 0 n]at hf;have hl:=jbs r1;have hl2:=congrArg List.length r2;simp only[List.length_append,rep1,List.length_replicate]at hl2;simp only[hzl]at e hl2;exact⟨(r,rb,.own d' m' cap',0,n,true,s,p+k),rfl,rfl,by simp only[S80_0,jaf,jae];exact⟨jbb.2 r1,trivial,by omega,hp.2.1,.inl trivial,hp.2.2.2.1,hp.2.2.2.2.1,by simp only[Rw.z,hl];omega⟩,mu,hf⟩
         ·have y:¬(97≤c∧c≤122):=by
           intro q;have:(decide (c≥97) &&decide (c≤122))=true:=by simpa using q
           rw[this]at y;cases y
          have hu:upZ c=c:=by unfold upZ;rw[if_neg y]
          rw[hu]at hf;rw[v0];refine jgv hr hm ?_ ?_ (fun e=> ?_) (fun e d' m' cap' r1 r2=> ?_)
          ·omega
          ·omega
          ·rw[if_neg e]at hf;exact(hf.1 rfl).2.2 d _ _ _ _ hr.plain
          ·rw[r1.rlb];rw[if_pos e,←r2,jhh _ 0 n]at hf;have hl:=jbs r1;have hl2:=congrArg List.length r2;simp only[List.length_append,rep1,List.length_replicate]at hl2;simp only[hzl]at e hl2;exact⟨(r,rb,.own d' m' cap',0,n,true,s,p+k),rfl,rfl,by simp only[S80_0,jaf,jae];exact⟨jbb.2 r1,trivial,by omega,hp.2.1,.inl trivial,hp.2.2.2.1,hp.2.2.2.2.1,by simp only[Rw.z,hl];omega⟩,mu,hf⟩
   ·have h:=jac h;rw[bz_end (by omega)]at hf;exact c_t (hg _) (hf.2.2 d m cap st n _ p hR rfl)
def s80(s:Y):Bool×Value:=(decide (s.size≤9223372036854775807),.tuple ⟨[.string (sz (xpGo (bz s) 0 0 []).1),.bool (exOK (bz s))]⟩)
theorem fn80:Fn1 Tryz.prog 113 Tryz.f113:= .m Tryz.func113
def g9(a:Prop):Prop:=Int→Bool→Int→a
def b7(a:Bool)(c:Value)(b:Value→Prop):Prop:=bif a then b c else False
def jo(c:Bool)(a:Y)(b:E):Prop:=xpGo ((bz a).drop (Int.toNat 0)) 0 0 (Rw.z Rw.nil)=(b,c)
def ek(a:Bool)(c:Value)(b:Value→Prop):Prop:=bif a then Tmps→b c else False
def jp:Value:= .tuple ⟨[dx,.bool false]⟩
theorem v80(s:Y)(R:Value→Prop):jbe Tryz.prog G17 (oneL 0 S80_0.hA) Tryz.f113 [Enc.enc s] (fun _=>none) 0 (fun v _ _=>R v)=(bif S80_0.toLSpec.pre (ByteArray.mk #[],(false,(Rw.nil,((0:Int),((0:Int),(true,(s,(0:Int))))))))then(jo false s []→(Int→g9 (Tmps→R jp))∧(∀a:U,∀b:Nat,∀c:Nat,Int→g9 (jd4 a b c=true→ek (bn a 210) jp R))∧(∀a:U,Int→g9 (jas a=true→ek (bn a 210) jp R)))∧(∀a:Int,g9 (jo (decide (a=0)) s []→Tmps→b7 (a==0 || true) (ax [S (bif a==0 then ByteArray.empty else ByteArray.empty),B (a==0&&ar (natO 0) 0)]) R))∧(∀a:U,∀b:Nat,∀c:Nat,∀d:Int,g9 (jd4 a b c=true→jo (decide (d=0)) s (zc a b)→(bif bn a 210 then Tmps→b7 (jd2 a 0 b&& (d==0 || true)) (ax [S (bif d==0 then jcm a 0 b else jcm a 0 b),B (d==0&&ar (natO b) 0)]) R else False)))else False):=by kernel_rfl
theorem ok80:jal Tryz.prog 113 (sp1 s80):=by
 refine je9 ok_G17 hmix fn80 l80_0 jag fun s hc=> ?_
 rw[jdf,v80];delta g9 b7 ax ar bn jo ek dx jp;have hc:(s.size≤9223372036854775807):=jab hc
 try dsimp only[s80]
 refine c_t ?_ ⟨fun h=> ?_,fun st' n' f' p' h x=> ?_,fun d' m' cap' st' n' f' p' hr h=> ?_⟩
 ·simp only[S80_0,Rw.ok,Rw.z,Bool.true_and];exact jaa ⟨by omega,by omega,.inl trivial,by omega,by omega,by simp⟩
 ·have h:xpGo (bz s) 0 0 []=([],false):=h;have e:exOK (bz s)=false:=by simp[exOK,h]
  rw[h,e];exact⟨fun _ _ _ _ _=>rfl,fun d' m' cap' _ _ _ _ hr=>c_t (by rw[jbc (jbb.1 hr).plain];rfl) fun _=>rfl,fun d' _ _ _ _ hp=>c_t (by rw[jbc hp];rfl) fun _=>rfl⟩
 ·have h:xpGo (bz s) 0 0 []=([],decide (st'=0)):=h;have e:exOK (bz s)=false:=by simp[exOK,h]
  rw[h,e];refine c_t (by simp) ?_;rw[ja1];have e1:(bif st'==0 then ByteArray.empty else ByteArray.empty)=sz []:=by cases st'==0<;>rfl
  have e2:(st'==0&&decide (((0:Nat):Int)>0))=false:=by simp
  rw[e1,e2]
 ·have h:xpGo (bz s) 0 0 []=(zc d' m',decide (st'=0)):=h;have hr:=jbb.1 hr;have hl:=jbs hr;refine c_t (by rw[jbc hr.plain];rfl) fun x=>c_t (by rw[hr.str.1];simp) ?_
  rw[hr.str.2,ja1];have e1:(bif st'==0 then sz (zc d' m')else sz (zc d' m'))=sz (zc d' m'):=by cases st'==0<;>rfl
  have e2:exOK (bz s)=(st'==0&&decide ((m':Int)>0)):=by
   rw[exOK,h];simp only;rw[Bool.eq_iff_iff];simp only[jaf,jae,beq_iff_eq,Bool.not_eq_true',List.isEmpty_eq_false_iff];constructor
   ·rintro ⟨a,b⟩;have:=List.length_pos_iff.2 b;exact⟨a,by omega⟩
   ·rintro ⟨a,b⟩;exact⟨a,fun q=>by rw[q]at hl;simp at hl;omega⟩
  rw[e1,e2,h]
end Go.Px
end
noncomputable section
namespace Go.Px
open Go Go.Ab Go.Proofs Go.Shelf
theorem c280:ja6 Tryz.prog 103:=cal Tryz.func103 (by kernel_rfl) (by kernel_rfl)
def jbp:E→Int→Int
 | [],_=> -1
 | b::l,c=>if jbp l c= -1 then(if b=c then 0 else -1)else jbp l c+1
theorem jdn(c:Int):∀l:E,(jbp l c= -1∧ ∀j,j<l.length→l.getD j 0≠c)∨(∃i:Nat,i<l.length∧jbp l c=i∧l.getD i 0=c∧ ∀j,i<j→j<l.length→l.getD j 0≠c)
 | []=> .inl ⟨rfl,fun j h=>by simp at h⟩
 | b::l=>by
  rcases jdn c l with⟨e,h⟩ | ⟨i,hi,e,hc,h⟩
  ·simp only[jbp,e,if_true];by_cases hb:b=c
   ·rw[if_pos hb];refine .inr ⟨0,by simp,rfl,by simpa using hb,fun j h1 h2=> ?_⟩;obtain⟨j,rfl⟩:∃k,j=k+1:=⟨j-1,by omega⟩
    simpa using h j (by simpa using h2)
   ·rw[if_neg hb];refine .inl ⟨rfl,fun j h1=> ?_⟩;cases j with
    | zero=>simpa using hb
    | succ j=>simpa using h j (by simpa using h1)
  ·simp only[jbp];rw[if_neg (by omega),e];refine .inr ⟨i+1,by simpa using hi,by omega,by simpa using hc,fun j h1 h2=> ?_⟩;obtain⟨j,rfl⟩:∃k,j=k+1:=⟨j-1,by omega⟩
   simpa using h j (by omega) (by simpa using h2)
theorem last_zl(s:Y)(c:Int):Lib.lastIndexByte s c=jbp (bz s) c:=by
 have hd:∀j,j<s.size→((s.data[j]!).toNat:Int)=(bz s).getD j 0:=fun j hj=>by
  have hj':j<s.data.size:=hj;rw[getElem!_pos s.data j hj'];simp only[bz,List.getD_eq_getElem?_getD,List.getElem?_map,Array.getElem?_toList];rw[Array.getElem?_eq_getElem hj'];rfl
 rcases Lib.lastIndexByte_spec s c with⟨e,h⟩ | ⟨i,hi,e,hc,h⟩ <;>rcases jdn c (bz s)with⟨e',h'⟩ | ⟨i',hi',e',hc',h'⟩
 ·rw[e,e']
 ·rw[ja8]at hi';exact absurd hc' (by rw[←hd i' hi'];exact h i' hi')
 ·rw[hd i hi]at hc;exact absurd hc (h' i (by rw[ja8];exact hi))
 ·rw[ja8]at hi' h';rw[hd i hi]at hc;rw[e,e'];rcases Nat.lt_trichotomy i i' with q | q | q
  ·exact absurd hc' (by rw[←hd i' hi'];exact h i' q hi')
  ·rw[q]
  ·exact absurd hc (h' i q hi)
theorem jg2(l:E)(c:Int): -1≤jbp l c∧jbp l c<l.length:=by
 rcases jdn c l with⟨e,_⟩ | ⟨i,hi,e,_⟩ <;>omega
def s280(s:Y)(c:U8):Bool×Value:=(decide (s.size≤1000),.int .i64 (jbp (bz s) c.n))
theorem ok280:jal Tryz.prog 103 (sp2 s280):=jct c280 fun s c hc w _=>by
 refine(Any.strings_LastIndexByte Tryz.lays149 s c.n (by have:s.size≤1000:=jab hc;omega) w).mono fun e w' ⟨h1,h2⟩=>⟨?_,jbx h2⟩
 rw[h1,last_zl];rfl
structure VwP (d:U)(m:Nat):Prop where
 bytes:jba d=true
 len:d.length=m
 rng:IsB (d.map iv)
def vwOK(d:U)(m:Nat):Bool:=jba d&& (Nat.beq d.length m&& (d.map iv).all fun c=>decide (0≤c∧c<256))
theorem jcp{d:U}{m:Nat}:vwOK d m=true↔VwP d m:=by
 simp only[vwOK,jaf,Nat.beq_eq,List.all_eq_true,jae];exact⟨fun⟨a,b,c⟩=>⟨a,b,c⟩,fun⟨a,b,c⟩=>⟨a,b,c⟩⟩
theorem isBytes_plain{d:U}(h:jba d=true):jas d=true:=by
 rw[←jix h];exact jfv _
theorem VwP.plain{d:U}{m:Nat}(h:VwP d m):jas d=true:=isBytes_plain h.bytes
theorem ji0(s:Y):VwP (Lib.strCells s) s.size∧zc (Lib.strCells s) s.size=bz s:=by
 rw[strCells_eq]
 have e:(cz (bz s)).map iv=bz s:=by
  rw[cz,List.map_map];have:(iv∘fun n:Int=>Value.int .u8 n)=id:=by funext n;rfl
  rw[this,List.map_id]
 refine⟨⟨jen _,by simp,by rw[e];exact jje s⟩,?_⟩;rw[zc,List.take_of_length_le (by simp),e]
theorem VwP.zlen{d:U}{m:Nat}(h:VwP d m):(zc d m).length=m:=by
 simp only[zc,List.length_map,List.length_take,h.len];omega
theorem at_bytes:∀{d:U}{j:Nat},jba d=true→j<d.length→jap .u8 d j=true∧jaj d j=(d.map iv).getD j 0
 | .int .u8 n::r,0,_,_=>⟨rfl,rfl⟩
 | .int .u8 n::r,j+1,h,hj=>by
  have:=at_bytes (d:=r) (j:=j) (by simpa[jba]using h) (by simpa using hj);simpa[jap,jaj]using this
theorem VwP.at{d:U}{m:Nat}(h:VwP d m){j:Int}(h0:0≤j)(hj:j<m):jap .u8 d j.toNat=true∧(0≤jaj d j.toNat∧jaj d j.toNat<256)∧(zc d m).drop j.toNat=jaj d j.toNat::(zc d m).drop (j+1).toNat:=by
 have hl:=h.len;obtain⟨q1,q2⟩:=at_bytes h.bytes (j:=j.toNat) (by omega);refine⟨q1,?_,?_⟩
 ·rw[q2,List.getD_eq_getElem?_getD];cases hh:(d.map iv)[j.toNat]? with
  | none=>simp
  | some c=>exact h.rng c (List.mem_of_getElem? hh)
 have e:zc d m=d.map iv:=by rw[zc,List.take_of_length_le (by omega)]
 rw[e,q2,je6 _ _ (by rw[List.length_map];omega),show(j+1).toNat=j.toNat+1 by omega]
theorem VwP.good{d:U}{m:Nat}(h:VwP d m)(ps:List (Nat×Nat)):(jau ps d&&true&&true)=true:=by rw[goodL_plain h.plain];rfl
theorem VwP.rlb{d:U}{m:Nat}(h:VwP d m)(ps:List (Nat×Nat)):rlbL ps d=d:=rlbL_plain ps h.plain
theorem VwP.end{d:U}{m:Nat}(h:VwP d m){j:Int}(hj:(m:Int)≤j):(zc d m).drop j.toNat=[]:=List.drop_eq_nil_of_le (by rw[h.zlen];omega)
def k5:E:=[44,46,47,66,86]
theorem idx_neg(l:E)(c:Int):decide (idxZ l c<0)= !hasZ l c:=by
 have:=jfe c l;rw[←jb2]at this;cases h:hasZ l c with
 | true=>rw[h]at this;have:=this.2.2 rfl;simp;omega
 | false=>
  rw[h]at this;have:¬0≤idxZ l c:=fun q=>by have:=this.2.1 q;cases this
  simp;omega
theorem ch_at{i:Int}(h0:0≤i)(h:i<4):∃c,jaj [Value.int IntKind.u8 36,Value.int IntKind.u8 83,Value.int IntKind.u8 43,Value.int IntKind.u8 45] (0+i.toNat*1)=c∧
  jap IntKind.u8 [Value.int IntKind.u8 36,Value.int IntKind.u8 83,Value.int IntKind.u8 43,Value.int IntKind.u8 45] (0+i.toNat*1)=true∧
  oneB (Utf8.encode c)=true∧(bz (Utf8.encode c)).getD 0 0=c∧(0<c∧c<128)∧List.drop i.toNat [36,83,43,45]=c::List.drop (i+1).toNat [36,83,43,45]:=by
 have:i=0∨i=1∨i=2∨i=3:=by omega
 rcases this with rfl | rfl | rfl | rfl
 ·exact⟨36,rfl,rfl,by kernel_rfl,by kernel_rfl,by omega,rfl⟩
 ·exact⟨83,rfl,rfl,by kernel_rfl,by kernel_rfl,by omega,rfl⟩
 ·exact⟨43,rfl,rfl,by kernel_rfl,by kernel_rfl,by omega,rfl⟩
 ·exact⟨45,rfl,rfl,by kernel_rfl,by kernel_rfl,by omega,rfl⟩
theorem je5(c:Int):∀{l:E},c∈l→0≤idxZ l c∧idxZ l c<l.length
 | b::l,h=>by
  simp only[idxZ];by_cases hb:b=c
  ·rw[if_pos hb];simp only[List.length_cons];omega
  ·rw[if_neg hb];have:=je5 c (l:=l) (by rcases List.mem_cons.1 h with q | q;exact absurd q.symm hb;exact q);rw[if_neg (by omega)];simp only[List.length_cons];omega
theorem jg7(c:Int):∀{l:E},c∈l→idxZ l c≤jbp l c
 | b::l,h=>by
  simp only[idxZ,jbp];have:=jg2 l c;by_cases hl:c∈l
  ·have ih:=jg7 c hl;have i1:=je5 c hl;rw[if_neg (show¬jbp l c= -1 by omega)];split
   ·omega
   ·split<;>omega
  ·have hb:b=c:=by rcases List.mem_cons.1 h with q | q;exact q.symm;exact absurd q hl
   rw[if_pos hb,if_pos hb];split<;>omega
theorem jhd{l:E}{c:Int}(h:¬(cntZ l c:Int)<2):c∈l:=by
 have:0<cntZ l c:=by omega
 unfold cntZ at this;obtain⟨x,hx⟩:=List.exists_mem_of_length_pos this;obtain⟨h1,h2⟩:=List.mem_filter.1 hx;exact eq_of_beq h2▸h1
def drP(c:Int)(l:E):Bool:=l.all fun x=>x==c || hasZ k5 x
def drC(b:E)(c:Int):Bool:= !hasZ (b.take (idxZ b c).toNat) 86&&drP c ((b.take (jbp b c+1).toNat).drop (idxZ b c).toNat)
def jd6:E→E→Int→Int→Bool×Int×Int
 | [],_,d,f=>(true,d,f)
 | c::r,b,d,f=>bif decide ((cntZ b c:Int)<2)then jd6 r b d f else bif d !=0 then(false,0,0)else bif drC b c then jd6 r b c (idxZ b c)else(false,0,0)
def G20:Env:=(((Env.nil.add 140 (sp2 s141)).add 185 (sp2 s157)).add 150 (sp2 s132)).add 103 (sp2 s280)
theorem ok_G20:jao Tryz.prog G20:=jak (jak (jak (jak jbr ok141) ok157) ok132) ok280
def V131_2:Y×Bool×Int×Int×Int×Y×Int×Int×Bool×U×Nat×Nat×Int×Int→U:=fun(b,r,c,L4,i,s,dr,f,cr,d,m,cap,L,j)=> [.pointer (some ⟨3,0,some 0⟩),S b,B r,C8 c,.slice (some ⟨300,0,some 1⟩) 4 4,I L4,I i,.slice (some ⟨390,0,some 1⟩) m cap,I L,I j]
def B131_2:Y×Bool×Int×Int×Int×Y×Int×Int×Bool×U×Nat×Nat×Int×Int→F:=fun(b,r,c,L4,i,s,dr,f,cr,d,m,cap,L,j)=> [some ⟨[S s,B true,I 0,I 0,I 0,B false,.slice none 0 0,C8 dr,I f,B cr,C8 32,I 0],119,true⟩,some ⟨[C8 36,C8 83,C8 43,C8 45],5,false⟩,some ⟨d,5,false⟩]
def S131_2:LSpecA (Y×Bool×Int×Int×Int×Y×Int×Int×Bool×U×Nat×Nat×Int×Int) where
 live:=[0,1,4,6,14,15,16,58,59,60]
 mid:=[3,300,390]
 n:=400
 ap:=[(.tmp 58,390)]
 dec vs bs:=match vs,bs with | [.pointer (some ⟨3,0,some 0⟩),.string b,.bool r,.int .u8 c,.slice (some ⟨300,0,some 1⟩) 4 4,.int .i64 L4,.int .i64 i,.slice (some ⟨390,0,some 1⟩) m cap,.int .i64 L,.int .i64 j],[some ⟨[.string s,.bool true,.int .i64 0,.int .i64 0,.int .i64 0,.bool false,.slice none 0 0,.int .u8 dr,.int .i64 f,.bool cr,.int .u8 32,.int .i64 0],119,true⟩,some ⟨[.int .u8 36,.int .u8 83,.int .u8 43,.int .u8 45],5,false⟩,some ⟨d,5,false⟩]=>some (b,r,c,L4,i,s,dr,f,cr,d,m,cap,L,j) | _,_=>none
 pre:=fun(b,r,c,L4,i,s,dr,f,cr,d,m,cap,L,j)=>vwOK d m&&decide (0≤j∧j≤m∧m≤100∧L=m)
 fin:=fun(b,r,c,L4,i,s,dr,f,cr,d,m,cap,L,j) Z=>(bif drP c ((zc d m).drop j.toNat)then Z (.exit 2) [.pointer (some ⟨3,0,some 0⟩),S b,B r,C8 c,.slice (some ⟨300,0,some 1⟩) 4 4,I L4,I i,.slice (some ⟨390,0,some 1⟩) m cap,I L,I m] [some ⟨[S s,B true,I 0,I 0,I 0,B false,.slice none 0 0,C8 dr,I f,B cr,C8 32,I 0],119,true⟩,some ⟨[C8 36,C8 83,C8 43,C8 45],5,false⟩,some ⟨d,5,false⟩]else∀j',Z .ret [.pointer (some ⟨3,0,some 0⟩),S b,B false,C8 c,.slice (some ⟨300,0,some 1⟩) 4 4,I L4,I i,.slice (some ⟨390,0,some 1⟩) m cap,I L,I j'] [some ⟨[S s,B true,I 0,I 0,I 0,B false,.slice none 0 0,C8 dr,I f,B cr,C8 32,I 0],119,true⟩,some ⟨[C8 36,C8 83,C8 43,C8 45],5,false⟩,some ⟨d,5,false⟩])
def cv:Value:= .pointer (av 3 0 0)
def ay(a:Y)(c:U)(b:Value):U:=cv:: .string a::b::c
def bp(e f:Int)(a b c d:Nat):U:=[au a b c d,ak e,ak f]
def fx(b:U)(a:Nat):Option Blk:=some (.mk (rlbL [(a,a)] b) 5 false)
def jh:U:=[.int .u8 36,.int .u8 83,.int .u8 43,.int .u8 45]
def gu:Option Blk:=some (.mk jh 5 false)
def az(b f l:Bool)(a:Y)(c d e j k m n:Int)(h i:Nat)(g:J):Option Blk:=some (.mk [.string a,.bool b,ak c,ak d,ak e,.bool f,.slice g h i,.int .u8 j,ak k,.bool l,.int .u8 m,ak n] 119 true)
def ia(a:Bool)(b:Y)(c d:Int):Option Blk:=az true false a b 0 0 0 c d 32 0 0 0 none
def cu(a:Int)(b:Nat):Bool:=decide (0≤a∧a<(b:Int))
def bv(c:Bool)(a:Int)(b:Nat)(d:Prop):Prop:=bif cu a b then bx c d else False
def b5(e f:Int)(a b c d:Nat):U:=au a b c d::dp e f
def bq(a:Int):Nat:=0+a.toNat*1
def b9(b:Int)(a:U):Int:=jaj a (bq b)
theorem r131_2(b:Y)(r:Bool)(c:Int)(L4:Int)(i:Int)(s:Y)(dr:Int)(f:Int)(cr:Bool)(d:U)(m:Nat)(cap:Nat)(L:Int)(j:Int)(jk:Tmps)(R:Exit→U→F→Prop):(jb7 Tryz.prog G20 noL Tryz.f149.ntmps (jbh Tryz.f149 2) (tl S131_2.live (V131_2 (b,r,c,L4,i,s,dr,f,cr,d,m,cap,L,j)) jk) (ml S131_2.mid (B131_2 (b,r,c,L4,i,s,dr,f,cr,d,m,cap,L,j))) S131_2.n fun e t' m' _=>S131_2.out R e t' m')=(bif am j L then bv (jap .u8 d (bq j)) j m (bif bif b9 j d !=c then b6 (b9 j d) 256&&true else true then bif b9 j d !=c&&am (idxZ (bz ⟨#[44,46,47,66,86]⟩) (b9 j d)) 0 then bif dt d 390 390 then R .ret (ay b (.int .u8 c::au 300 0 4 4::ak L4::ak i::bp L j 390 0 m cap) (B false)) [ia cr s dr f,gu,fx d 390]else False else bw (dt d 390 390) R [ia cr s dr f,gu,fx d 390] (ay b (.int .u8 c::au 300 0 4 4::ak L4::ak i::b5 L j 390 0 m cap) (B r))else False)else bt (dt d 390 390) R [ia cr s dr f,gu,fx d 390] (ay b (.int .u8 c::au 300 0 4 4::ak L4::ak i::bp L j 390 0 m cap) (B r)) 2):=by kernel_rfl
theorem l131_2:∀t m n K,S131_2.hA t m n K→Ab.Sem Tryz.prog Tryz.f149.ntmps (.loop (jbh Tryz.f149 2)) t m n K:=by
 refine jbz ok_G20 hmix (by kernel_rfl) (jbo _) S131_2 V131_2 B131_2 (fun(b,r,c,L4,i,s,dr,f,cr,d,m,cap,L,j)=>(m-j).toNat) ?_ ?_ ?_
 ·intro vs bs s h;simp only[S131_2]at h;split at h
  all_goals first | (cases h;exact⟨rfl,rfl⟩) | cases h | (split at h<;>first | (rename_i hq;cases h;have hq:=jah hq;subst hq;exact⟨rfl,rfl⟩) | cases h)
 ·exact fun⟨b,r,c,L4,i,s,dr,f,cr,d,m,cap,L,j⟩ hp=>by
   simp only[S131_2,jaf]at hp;simp[V131_2,B131_2,S131_2,jax,jbk,idsL,ids,jar (jcp.1 hp.1).plain]
 ·intro⟨b,r,c,L4,i,s,dr,f,cr,d,m,cap,L,j⟩ jk Z hp hf;rw[r131_2];delta bt av cv ay ak au bp fx jh gu az ia dt bx cu bv bw al dp b5 am bq b9 b6;simp only[S131_2]at hp hf;simp only[jaf,jae]at hp;obtain⟨hv,hp⟩:=hp;have hV:=hv;have hv:=jcp.1 hv;have k:bz ⟨#[44,46,47,66,86]⟩=k5:=rfl;rw[k,Nat.mul_one,Nat.zero_add];simp only[hv.rlb];apply cond_intro<;>intro h
  ·have h:=jab h;obtain⟨a1,a2,a3⟩:=hv.at hp.1 (by omega);rw[a3]at hf;rw[jaa a2,idx_neg];have e:drP c (jaj d j.toNat::List.drop (j+1).toNat (zc d m))=((jaj d j.toNat==c || hasZ k5 (jaj d j.toNat)) &&drP c (List.drop (j+1).toNat (zc d m))):=rfl;rw[e]at hf;refine c_t (jaa (by omega)) (c_t a1 (c_t (by cases(jaj d j.toNat !=c) <;>rfl) (cond_intro (fun q=>c_t (hv.good _) ?_) (fun q=>c_t (hv.good _) ?_))))
   ·have q':(jaj d j.toNat==c || hasZ k5 (jaj d j.toNat))=false:=by
     simp only[jaf,bne_iff_ne,Bool.not_eq_true']at q;rw[q.2,Bool.or_false];simpa using q.1
    rw[q',Bool.false_and,cond_false]at hf;exact hf j
   ·have q':(jaj d j.toNat==c || hasZ k5 (jaj d j.toNat))=true:=by
     cases h1:(jaj d j.toNat==c)with
     | true=>rfl
     | false=>
      have h2:(jaj d j.toNat !=c)=true:=by rw[bne,h1];rfl
      rw[h2,Bool.true_and,Bool.not_eq_false']at q;rw[q];rfl
    rw[q',Bool.true_and]at hf;rw[w64 (by omega)];exact⟨(b,r,c,L4,i,s,dr,f,cr,d,m,cap,L,j+1),rfl,rfl,by simp only[S131_2,jaf,jae];exact⟨hV,by omega⟩,by simp only;omega,hf⟩
  ·have h:=jac h;rw[hv.end (by omega),drP,List.all_nil,cond_true]at hf;obtain rfl:j=m:=by omega
   exact c_t (hv.good _) hf
theorem lk131:LOK Tryz.prog (oneL 2 S131_2.hA) Tryz.f149.ntmps (jbh Tryz.f149 0):=lok_one (by kernel_rfl) l131_2
def V131_0:Y×Bool×Int×Int×Y×Int×Int×Bool→U:=fun(b,r,L4,i,s,dr,f,cr)=> [.pointer (some ⟨3,0,some 0⟩),S b,B r,.slice (some ⟨300,0,some 1⟩) 4 4,I L4,I i]
def B131_0:Y×Bool×Int×Int×Y×Int×Int×Bool→F:=fun(b,r,L4,i,s,dr,f,cr)=> [some ⟨[S s,B true,I 0,I 0,I 0,B false,.slice none 0 0,C8 dr,I f,B cr,C8 32,I 0],119,true⟩,some ⟨[C8 36,C8 83,C8 43,C8 45],5,false⟩]
def S131_0:LSpecA (Y×Bool×Int×Int×Y×Int×Int×Bool) where
 live:=[0,1,4,14,15,16]
 mid:=[3,300]
 n:=310
 ap:=[(.tmp 14,300)]
 dec vs bs:=match vs,bs with | [.pointer (some ⟨3,0,some 0⟩),.string b,.bool r,.slice (some ⟨300,0,some 1⟩) 4 4,.int .i64 L4,.int .i64 i],[some ⟨[.string s,.bool true,.int .i64 0,.int .i64 0,.int .i64 0,.bool false,.slice none 0 0,.int .u8 dr,.int .i64 f,.bool cr,.int .u8 32,.int .i64 0],119,true⟩,some ⟨[.int .u8 36,.int .u8 83,.int .u8 43,.int .u8 45],5,false⟩]=>some (b,r,L4,i,s,dr,f,cr) | _,_=>none
 pre:=fun(b,r,L4,i,s,dr,f,cr)=>decide (L4=4∧0≤i∧i≤4∧b.size≤100∧0≤dr∧dr<256)
 fin:=fun(b,r,L4,i,s,dr,f,cr) Z=>(bif (jd6 (List.drop i.toNat [36,83,43,45]) (bz b) dr f).1 then∀dr' f',jd6 (List.drop i.toNat [36,83,43,45]) (bz b) dr f=(true,dr',f')→Z (.exit 0) [.pointer (some ⟨3,0,some 0⟩),S b,B r,.slice (some ⟨300,0,some 1⟩) 4 4,I L4,I 4] [some ⟨[S s,B true,I 0,I 0,I 0,B false,.slice none 0 0,C8 (dr'),I (f'),B cr,C8 32,I 0],119,true⟩,some ⟨[C8 36,C8 83,C8 43,C8 45],5,false⟩]else∀i' dr' f',Z .ret [.pointer (some ⟨3,0,some 0⟩),S b,B false,.slice (some ⟨300,0,some 1⟩) 4 4,I L4,I i'] [some ⟨[S s,B true,I 0,I 0,I 0,B false,.slice none 0 0,C8 (dr'),I (f'),B cr,C8 32,I 0],119,true⟩,some ⟨[C8 36,C8 83,C8 43,C8 45],5,false⟩])
def b8(a b c:Bool)(d e:Prop):Prop:=bif a&&b then bif c then d else e else False
def ib(a:U)(b:Nat)(c:Prop):Prop:=bif dm a b then Tmps→c else False
def dq(a:Int):Int:=jaj jh (bq a)
def jq(a:Bool)(b d:Y)(c:Int):F:=[az true false a b 0 0 0 (dq c) (idxZ (bz d) (dq c)) 32 0 0 0 none,gu]
def cw(c:Y)(a b:Nat):U:=rlbL [(a,b)] (Lib.strCells c)
def du(a:Int):Nat:=(IntKind.i64.wrap a).toNat
def fq(a:Y)(b:Int):Y:=a.extract (idxZ (bz a) (dq b)).toNat (du (jbp (bz a) (dq b)+1))
def fy(a:U)(b:Nat):E:=(zc a b).drop (Int.toNat 0)
def ck(a b:Int)(c:Nat):Bool:=decide (0≤a∧a≤b∧b≤(c:Int))
def jg(a:UInt8):Int:=(bz ⟨#[a]⟩).getD 0 (0:Int)
def ft(a:Y):Bool:=decide (a.size≤1000)
theorem r131_0(b:Y)(r:Bool)(L4:Int)(i:Int)(s:Y)(dr:Int)(f:Int)(cr:Bool)(jk:Tmps)(R:Exit→U→F→Prop):(jb7 Tryz.prog G20 (oneL 2 S131_2.hA) Tryz.f149.ntmps (jbh Tryz.f149 0) (tl S131_0.live (V131_0 (b,r,L4,i,s,dr,f,cr)) jk) (ml S131_0.mid (B131_0 (b,r,L4,i,s,dr,f,cr))) S131_0.n fun e t' m' _=>S131_0.out R e t' m')=(bif am i L4 then bif b6 i 4 then bif jap .u8 jh (bq i)then bif oneB (Utf8.encode (dq i))then bif am (cntZ (bz b) ((bz (Utf8.encode (dq i))).getD 0 (0:Int)):Int) 2 then R .normal (ay b (b5 L4 i 300 0 4 4) (B r)) [ia cr s dr f,gu]else bif dr !=0 then R .ret (ay b (bp L4 i 300 0 4 4) (B false)) [ia cr s dr f,gu]else bif b6 (dq i) 256 then bif ft b then bif ck 0 (idxZ (bz b) (dq i)) b.size then bif hasZ (bz (b.extract 0 (idxZ (bz b) (dq i)).toNat)) (jg 86)then R .ret (ay b (bp L4 i 300 0 4 4) (B false)) (jq cr s b i)else bif ck (idxZ (bz b) (dq i)) (al (jbp (bz b) (dq i)) 1) b.size then∀a:Nat,(fq b i).size.ble a=true→b8 (bm [(355,390)] (Lib.strCells (fq b i))) (dm (cw (fq b i) 355 390) 400) (S131_2.toLSpec.pre (b,(r,(dq i,(L4,(i,(s,(dq i,(idxZ (bz b) (dq i),(cr,(cw (fq b i) 355 390,((fq b i).size,(a,(natO (fq b i).size,(0:Int))))))))))))))) (bif drP (dq i) (fy (cw (fq b i) 355 390) (fq b i).size)then ib (cw (fq b i) 355 390) 400 (R .normal (ay b (b5 L4 i 300 0 4 4) (B r)) (jq cr s b i))else Int→ib (cw (fq b i) 355 390) 400 (R .ret (ay b (bp L4 i 300 0 4 4) (B false)) (jq cr s b i))) False else False else False else False else False else False else False else False else R (.exit 0) (ay b (bp L4 i 300 0 4 4) (B r)) [ia cr s dr f,gu]):=by kernel_rfl
theorem l131_0:∀t m n K,S131_0.hA t m n K→Ab.Sem Tryz.prog Tryz.f149.ntmps (.loop (jbh Tryz.f149 0)) t m n K:=by
 refine jbz ok_G20 hmix (by kernel_rfl) lk131 S131_0 V131_0 B131_0 (fun(b,r,L4,i,s,dr,f,cr)=>(4-i).toNat) ?_ ?_ ?_
 ·intro vs bs s h;simp only[S131_0]at h;split at h
  all_goals first | (cases h;exact⟨rfl,rfl⟩) | cases h | (split at h<;>first | (rename_i hq;cases h;have hq:=jah hq;subst hq;exact⟨rfl,rfl⟩) | cases h)
 ·exact fun⟨b,r,L4,i,s,dr,f,cr⟩ hp=>by
   simp[V131_0,B131_0,S131_0,jax,jbk,idsL,ids]
 ·intro⟨b,r,L4,i,s,dr,f,cr⟩ jk Z hp hf;rw[r131_0];delta jh gu ak az ia av cv ay au bp b8 dm ib bq dq jq cw du fq al dp b5 fy bm ck jg ft b6 am;simp only[S131_0]at hp hf;simp only[jae]at hp;have hL4:=hp.1;apply cond_intro<;>intro h
  ·have h:=jab h;obtain⟨c,c1,c2,c3,c4,c5,c6⟩:=ch_at hp.2.1 (by omega);rw[c1,c2,c4,c3,w64 (n:=i+1) (by omega)];rw[c6,jd6]at hf;clear c1 c2 c3 c4 c6;refine c_t (jaa (by omega)) (c_t rfl (c_t rfl (cond_intro (fun q=> ?_) (fun q=> ?_))))
   ·rw[q,cond_true]at hf;exact⟨(b,r,L4,i+1,s,dr,f,cr),rfl,rfl,by simp only[S131_0,jae];omega,by simp only;omega,hf⟩
   ·rw[q,cond_false]at hf;have q:=jac q;have hm:=jhd q;have i1:=je5 c hm;have i2:=jg7 c hm;have i3:=jg2 (bz b) c;rw[ja8]at i1 i3;refine cond_intro (fun e=> ?_) (fun e=>c_t (jaa (by omega)) (c_t (jaa (by omega)) (c_t (jaa (by omega)) ?_)))
    ·rw[e]at hf;exact hf i dr f
    ·rw[e,cond_false]at hf;have k6:(bz ⟨#[86]⟩).getD 0 0=86:=rfl;have ex:bz (b.extract 0 (idxZ (bz b) c).toNat)=(bz b).take (idxZ (bz b) c).toNat:=by rw[jdr];simp
     have ex2:bz (b.extract (idxZ (bz b) c).toNat (jbp (bz b) c+1).toNat)=((bz b).take (jbp (bz b) c+1).toNat).drop (idxZ (bz b) c).toNat:=jdr _ _ _;rw[k6,ex,w64 (n:=jbp (bz b) c+1) (by omega)];refine cond_intro (fun e=> ?_) (fun e=>c_t (jaa (by omega)) (fun cap hcap=> ?_))
     ·rw[drC,e]at hf;exact hf i _ _
     ·obtain⟨v1,v2⟩:=ji0 (b.extract (idxZ (bz b) c).toNat (jbp (bz b) c+1).toNat);have v3:=jcp.2 v1
      have hsz:(b.extract (idxZ (bz b) c).toNat (jbp (bz b) c+1).toNat).size≤100:=by
       rw[←ja8,ex2,List.length_drop,List.length_take,ja8];omega
      have g1:=v1.good;have g2:=v1.rlb;have g3:=jbc v1.plain;rw[ex2]at v2;rw[drC,e,Bool.not_false,Bool.true_and,←v2]at hf;simp only[g2];clear ex2;generalize b.extract (idxZ (bz b) c).toNat (jbp (bz b) c+1).toNat=y at*;generalize Lib.strCells y=d at*;refine c_t (by rw[g1,g3];rfl) (c_t ?_ (cond_intro (fun a=>c_t (by rw[g3];rfl) fun x=> ?_) (fun a j'=>c_t (by rw[g3];rfl) fun x=> ?_)))
      ·simp only[S131_2,jaf,jae];exact⟨v3,by omega,by omega,hsz,ja1 _⟩
      ·have a:drP c (zc d y.size)=true:=a;rw[a,cond_true]at hf;exact⟨(b,r,L4,i+1,s,c,idxZ (bz b) c,cr),rfl,rfl,by simp only[S131_0,jae];omega,by simp only;omega,hf⟩
      ·have a:drP c (zc d y.size)=false:=a;rw[a]at hf;exact hf i _ _
  ·have h:=jac h;obtain rfl:i=4:=by omega
   subst hL4;exact hf dr f rfl
theorem fn131:Fn1 Tryz.prog 149 Tryz.f149:= .m Tryz.func149
theorem lok131:LOKf Tryz.prog (oneL 0 S131_0.hA) Tryz.f149:=jci (by kernel_rfl) l131_0
theorem fn160:Fn1 Tryz.prog 192 Tryz.f192:= .m Tryz.func192
def G21:Env:=Env.nil.add 140 (sp2 s141)
theorem ok_G21:jao Tryz.prog G21:=jak jbr ok141
def G22:Env:=Env.nil.addG 192 (inlQ Tryz.prog G21 noL Tryz.f192)
theorem ok_G22:jao Tryz.prog G22:=jaq jbr (jat ok_G21 hmix fn160 jai)
def ci(l:E):U:=l.map fun n=> .int .i64 n
@[simp] theorem ci_length (l:E):(ci l).length=l.length:=by simp[ci]
theorem ci_append(a b:E):ci (a++b)=ci a++ci b:=by simp[ci]
theorem ci_plain:∀l:E,jas (ci l)=true
 | []=>rfl
 | c::r=>by simpa[ci,jas,plain]using ci_plain r
def isInts:U→Bool
 | []=>true
 | .int .i64 _::r=>isInts r
 | _=>false
theorem ci_isInts:∀l:E,isInts (ci l)=true
 | []=>rfl
 | c::r=>by simpa[ci,isInts]using ci_isInts r
theorem jjz:∀{l:U},isInts l=true→ci (l.map iv)=l
 | [],_=>rfl
 | .int .i64 n::r,h=>by
  have:=jjz (l:=r) (by simpa[isInts]using h);simp only[ci]at this;simp only[List.map_cons,ci,iv,this]
def jcr(c:U)(n cap:Nat):Bool:=isInts (c.take n) && (jas c&& (Nat.beq c.length cap&& (Nat.ble n cap&&Nat.ble cap 9223372036854775807)))
structure RowI (c:U)(n cap:Nat):Prop where
 bytes:isInts (c.take n)=true
 plain:jas c=true
 len:c.length=cap
 le:n≤cap
 cap:cap≤9223372036854775807
theorem jay{c:U}{n cap:Nat}:jcr c n cap=true↔RowI c n cap:=by
 simp only[jcr,jaf,Nat.ble_eq,Nat.beq_eq];exact⟨fun⟨h1,h2,h3,h4,h5⟩=>⟨h1,h2,h3,h4,h5⟩,fun⟨h1,h2,h3,h4,h5⟩=>⟨h1,h2,h3,h4,h5⟩⟩
theorem ja7{c:U}{n cap:Nat}(h:RowI c n cap):(zc c n).length=n:=by
 have h1:=h.len;have h2:=h.le;simp only[zc,List.length_map,List.length_take];omega
theorem RowI.eq{c:U}{n cap:Nat}(h:RowI c n cap):c=ci (zc c n)++c.drop n:=by
 rw[zc,jjz h.bytes,List.take_append_drop]
theorem RowI.take{c:U}{n cap:Nat}(h:RowI c n cap):c.take n=ci (zc c n):=(jjz h.bytes).symm
theorem rowI_mk(L:E){tail:U}{cap:Nat}(ht:jas tail=true)(hl:L.length+tail.length=cap)(hc:cap≤9223372036854775807):RowI (ci L++tail) L.length cap∧zc (ci L++tail) L.length=L:=by
 have e:(ci L++tail).take L.length=ci L:=by rw[List.take_append_of_le_length (by simp),List.take_of_length_le (by simp)]
 refine⟨⟨by rw[e];exact ci_isInts L,jcx.2 ⟨ci_plain L,ht⟩,by simp[hl],by omega,hc⟩,?_⟩;show List.map iv ((ci L++tail).take L.length)=L;rw[e];simp only[ci,List.map_map];have:(iv∘fun n:Int=>Value.int .i64 n)=id:=by funext n;rfl
 rw[this,List.map_id]
theorem RowI.app{c:U}{n cap:Nat}(h:RowI c n cap)(M:E){tail:U}{cap':Nat}(ht:ja0 tail cap' (n+M.length) 1=true):
  RowI (c.take n++ci M++tail) (n+M.length) cap'∧zc (c.take n++ci M++tail) (n+M.length)=zc c n++M:=by
 obtain⟨t1,t2,t3,t4⟩:=jbl ht;have hz:=ja7 h;have:=rowI_mk (zc c n++M) (tail:=tail) (cap:=cap') t1 (by simp only[List.length_append,hz];omega) t4;simp only[List.length_append,hz,ci_append]at this;rw[h.take];exact this
theorem RowI.app1{c:U}{n cap:Nat}(h:RowI c n cap)(x:Int){tail:U}{cap':Nat}(ht:ja0 tail cap' (n+1) 1=true):
  RowI (c.take (n*1)++ [.int .i64 x]++tail) (n+1) cap'∧zc (c.take (n*1)++ [.int .i64 x]++tail) (n+1)=zc c n++ [x]:=by
 rw[Nat.mul_one];exact h.app [x] ht
theorem RowI.ask{c:U}{n cap:Nat}(h:RowI c n cap){k:Nat}(hk:n+k≤1000000):
  (Nat.beq c.length (cap*1) &&Nat.ble n cap&&Nat.ble cap 9223372036854775807&&true&&jb1 (n+k) 8)=true:=by
 have h1:=h.len;have h2:=h.le;have h3:=h.cap;simp only[jb1,jaf,Nat.ble_eq,Nat.beq_eq,Nat.mul_one];exact⟨⟨⟨⟨h1,h2⟩,h3⟩,trivial⟩,by omega,by omega⟩
theorem jeh(M:E){tail:U}{cap':Nat}(ht:ja0 tail cap' M.length 1=true):RowI (ci M++tail) M.length cap'∧zc (ci M++tail) M.length=M:=by
 obtain⟨t1,t2,t3,t4⟩:=jbl ht;exact rowI_mk M t1 (by omega) t4
theorem RowI.good{c:U}{n cap:Nat}(h:RowI c n cap)(ps:List (Nat×Nat)):jau ps c=true:=goodL_plain h.plain
theorem RowI.rlb{c:U}{n cap:Nat}(h:RowI c n cap)(ps:List (Nat×Nat)):rlbL ps c=c:=rlbL_plain ps h.plain
def Rw.bi:Rw→Option Blk
 | .nil=>none
 | .own d _ _=>some ⟨d,197,true⟩
def Rw.oki:Rw→Bool
 | .nil=>true
 | .own d m cap=>jcr d m cap
theorem jfo{b:Bool}{P Q P' Q':Prop}(h:bif b then P else Q)(h1:P→P')(h2:Q→Q'):bif b then P' else Q':=by
 cases b
 ·exact h2 h
 ·exact h1 h
theorem jh7(l:E)(c:Int):decide (idxZ l c≥0)=hasZ l c:=by
 have:=idx_neg l c;rw[Bool.eq_iff_iff,jae]at*;cases h:hasZ l c with
 | true=>
  rw[h]at this;have h2:¬idxZ l c<0:=fun q=>by have:=this.1 q;cases this
  simp;omega
 | false=>
  rw[h]at this;have h2:idxZ l c<0:=this.2 rfl;simp;omega
def roP(dr f c i:Int):Int:=bif hasZ [57,89,84,73,82] c then 0 else bif c==90 || (c==42 || (c==dr&&i !=f))then 1 else bif c==86 then 2 else bif c==36 then 5 else bif c==83 || (c==43 || c==45)then 4 else 3
def ja5(dr f:Int):E→Int→E
 | [],_=> []
 | c::r,i=>roP dr f c i::ja5 dr f r (i+1)
structure PlS where
 pts:Int
 bh:Bool
 w:Int
 dg:Int
 q:Int
 fm:Int
def plGo:E→PlS→Bool×PlS
 | [],a=>(true,a)
 | r::rs,a=>bif r==2 then plGo rs ⟨a.pts+1,a.bh,a.w,a.dg,a.q,a.fm⟩else bif r==0 then plGo rs ⟨a.pts,a.bh,a.w+1,a.dg+1,a.q+a.pts,a.fm+1⟩
  else bif r==1 then(bif decide (a.fm>0)then(false,a)else plGo rs ⟨a.pts,a.bh || decide (a.pts>0),a.w+1,a.dg+1,a.q+a.pts,a.fm⟩)else plGo rs ⟨a.pts,a.bh,a.w+1,a.dg,a.q,a.fm⟩
def V133_0:Y×Bool×Int×Bool×U×Nat×Nat×Int×Int×Y×Int×Int×Int×Rw×Int×Int×Bool×Int→U:=fun(b,r,pts,bh,d,m,cap,L,i,s,w,dg,q,o,dr,f,cr,fm)=> [.pointer (some ⟨3,0,some 0⟩),S b,B r,I (pts),B (bh),.slice (some ⟨400,0,some 1⟩) m cap,I L,I (i)]
def B133_0:Y×Bool×Int×Bool×U×Nat×Nat×Int×Int×Y×Int×Int×Int×Rw×Int×Int×Bool×Int→F:=fun(b,r,pts,bh,d,m,cap,L,i,s,w,dg,q,o,dr,f,cr,fm)=> [some ⟨[.string s,.bool true,.int .i64 (w),.int .i64 (dg),.int .i64 (q),.bool false,o.v 401,.int .u8 dr,.int .i64 f,.bool cr,.int .u8 32,.int .i64 (fm)],119,true⟩,some ⟨d,5,false⟩,o.bi]
def S133_0:LSpecA (Y×Bool×Int×Bool×U×Nat×Nat×Int×Int×Y×Int×Int×Int×Rw×Int×Int×Bool×Int) where
 live:=[0,1,4,5,6,11,12,13]
 mid:=[3,400,401]
 n:=410
 ap:=[(.tmp 11,400),(.cell 3 6,401)]
 dec vs bs:=match vs,bs with
  | [.pointer (some ⟨3,0,some 0⟩),.string b,.bool r,.int .i64 pts,.bool bh,.slice (some ⟨400,0,some 1⟩) m cap,.int .i64 L,.int .i64 i],[some ⟨[.string s,.bool true,.int .i64 w,.int .i64 dg,.int .i64 q,.bool false,.slice none 0 0,.int .u8 dr,.int .i64 f,.bool cr,.int .u8 32,.int .i64 fm],119,true⟩,some ⟨d,5,false⟩,none]=>some (b,r,pts,bh,d,m,cap,L,i,s,w,dg,q,.nil,dr,f,cr,fm)
  | [.pointer (some ⟨3,0,some 0⟩),.string b,.bool r,.int .i64 pts,.bool bh,.slice (some ⟨400,0,some 1⟩) m cap,.int .i64 L,.int .i64 i],[some ⟨[.string s,.bool true,.int .i64 w,.int .i64 dg,.int .i64 q,.bool false,.slice (some ⟨401,0,some 1⟩) m2 cap2,.int .u8 dr,.int .i64 f,.bool cr,.int .u8 32,.int .i64 fm],119,true⟩,some ⟨d,5,false⟩,some ⟨d2,197,true⟩]=>some (b,r,pts,bh,d,m,cap,L,i,s,w,dg,q,.own d2 m2 cap2,dr,f,cr,fm)
  | _,_=>none
 pre:=fun(b,r,pts,bh,d,m,cap,L,i,s,w,dg,q,o,dr,f,cr,fm)=>o.oki&& (vwOK d m&&decide (0≤i∧i≤m∧m≤100∧L=m∧0≤pts∧pts≤i∧0≤w∧w≤i∧0≤dg∧dg≤i∧0≤fm∧fm≤i∧0≤q∧q≤i*100∧o.z.length≤i))
 fin:=fun(b,r,pts,bh,d,m,cap,L,i,s,w,dg,q,o,dr,f,cr,fm) Z=>(bif (plGo (ja5 dr f ((zc d m).drop i.toNat) i) ⟨pts,bh,w,dg,q,fm⟩).1 then(o.is=false→(zc d m).drop i.toNat=[]→Z (.exit 0) [.pointer (some ⟨3,0,some 0⟩),S b,B r,I (pts),B (bh),.slice (some ⟨400,0,some 1⟩) m cap,I L,I (m)] [some ⟨[.string s,.bool true,.int .i64 (w),.int .i64 (dg),.int .i64 (q),.bool false,.slice none 0 0,.int .u8 dr,.int .i64 f,.bool cr,.int .u8 32,.int .i64 (fm)],119,true⟩,some ⟨d,5,false⟩,none])∧ ∀pts' bh' w' dg' q' fm' d' m' cap',jcr d' m' cap'=true→zc d' m'=o.z++ja5 dr f ((zc d m).drop i.toNat) i→plGo (ja5 dr f ((zc d m).drop i.toNat) i) ⟨pts,bh,w,dg,q,fm⟩=(true,⟨pts',bh',w',dg',q',fm'⟩)→Z (.exit 0) [.pointer (some ⟨3,0,some 0⟩),S b,B r,I (pts'),B (bh'),.slice (some ⟨400,0,some 1⟩) m cap,I L,I (m)] [some ⟨[.string s,.bool true,.int .i64 (w'),.int .i64 (dg'),.int .i64 (q'),.bool false,.slice (some ⟨401,0,some 1⟩) m' cap',.int .u8 dr,.int .i64 f,.bool cr,.int .u8 32,.int .i64 (fm')],119,true⟩,some ⟨d,5,false⟩,some ⟨d',197,true⟩]else∀pts' bh' i' w' dg' q' fm' d' m' cap',jcr d' m' cap'=true→Z .ret [.pointer (some ⟨3,0,some 0⟩),S b,B false,I (pts'),B (bh'),.slice (some ⟨400,0,some 1⟩) m cap,I L,I (i')] [some ⟨[.string s,.bool true,.int .i64 (w'),.int .i64 (dg'),.int .i64 (q'),.bool false,.slice (some ⟨401,0,some 1⟩) m' cap',.int .u8 dr,.int .i64 f,.bool cr,.int .u8 32,.int .i64 (fm')],119,true⟩,some ⟨d,5,false⟩,some ⟨d',197,true⟩])
def bk(a c:Int)(b:U):Bool:=b9 a b==c
def jr(b e f:Int)(a:U)(c:Nat)(d g h i j k:Prop):Prop:=bv (jap .u8 a (bq b)) b c (bif b6 (b9 b a) 256 then bif decide (idxZ (bz ⟨#[57,89,84,73,82]⟩) (b9 b a)≥0)then d else dl (bk b 90 a) (bk b 42 a || (bk b e a || true)) (bk b 90 a || (bk b 42 a || bk b e a&&b !=f)) g (bif bk b 86 a then h else bif bk b 36 a then i else bif bk b 83 a || (bk b 43 a || true)then bif bk b 83 a || (bk b 43 a || bk b 45 a)then j else k else False)else False)
def gk(a:Nat):List (Prod Nat Nat):=[(400,400),(a,401)]
def iw(b c:U)(a:Nat):Bool:=jau (gk a) b&& (jau (gk a) c&&true)
def f0(g l:Bool)(e:Y)(d:Exit→U→F→Prop)(f h i:Int)(n:F)(a b:U)(c j k:Nat)(m:Option Blk):Prop:=bif iw a b c&&true then d .normal (ay e (ak f:: .bool g::b5 h i 400 0 j k) (.bool l)) (m::n)else False
def jt(c:Int)(b d:U)(a:Nat):F:=[some (.mk (rlbL (gk a) b) 5 false),some (.mk (rlbL (gk a) (ak c::d)) 197 true)]
def ir(b d:Bool)(e:Y)(f:Exit→U→F→Prop)(g h i j:Int)(k:U)(a l m n:Nat)(o:Option Blk):Prop:=∀c:U,a0 c a 1 1→f0 b d e f g h i (jt j k c l) k (ak j::c) l m n o
def cl:J:=some (.mk 401 0 (some 1))
def dn(a:Bool)(b:Y)(c d e f g h:Int)(i j:Nat):Option Blk:=az true false a b c d e f g 32 h i j cl
theorem r133_0n(b:Y)(r:Bool)(pts:Int)(bh:Bool)(d:U)(m:Nat)(cap:Nat)(L:Int)(i:Int)(s:Y)(w:Int)(dg:Int)(q:Int)(dr:Int)(f:Int)(cr:Bool)(fm:Int)(jk:Tmps)(R:Exit→U→F→Prop):(jb7 Tryz.prog G22 noL Tryz.f151.ntmps (jbh Tryz.f151 0) (tl S133_0.live (V133_0 (b,r,pts,bh,d,m,cap,L,i,s,w,dg,q,.nil,dr,f,cr,fm)) jk) (ml S133_0.mid (B133_0 (b,r,pts,bh,d,m,cap,L,i,s,w,dg,q,.nil,dr,f,cr,fm))) S133_0.n fun e t' m' _=>S133_0.out R e t' m')=(bif am i L then jr i dr f d m (∀a:Nat,ir bh r b R pts L i 0 d a 434 m cap (az true false cr s (al w 1) (al dg 1) (al q pts) dr f 32 (al fm 1) 1 a cl)) (∀a:Nat,∀c:U,a0 c a 1 1→(bif ar fm 0 then bif iw d (ak 1::c) 457&&true then R .ret (ay b (ak pts::B bh::bp L i 400 0 m cap) (B false)) (dn cr s w dg q dr f fm 1 a::jt 1 d c 457)else False else bif bh || true then f0 (bh || ar pts 0) r b R pts L i (jt 1 d c 457) d (ak 1::c) 457 m cap (az true false cr s (al w 1) (al dg 1) (al q pts) dr f 32 fm 1 a cl)else False)) (∀a:Nat,ir bh r b R (al pts 1) L i 2 d a 460 m cap (dn cr s w dg q dr f fm 1 a)) (∀a:Nat,ir bh r b R pts L i 5 d a 463 m cap (az true false cr s (al w 1) dg q dr f 32 fm 1 a cl)) (∀a:Nat,ir bh r b R pts L i 4 d a 474 m cap (az true false cr s (al w 1) dg q dr f 32 fm 1 a cl)) (∀a:Nat,ir bh r b R pts L i 3 d a 474 m cap (az true false cr s (al w 1) dg q dr f 32 fm 1 a cl))else bt (dt d 400 400) R [az true false cr s w dg q dr f 32 fm 0 0 none,fx d 400,none] (ay b (ak pts::B bh::bp L i 400 0 m cap) (B r)) 0):=by kernel_rfl
def gv(a:U)(b c:Nat)(d:Prop):Prop:=bif jf a b c 8 then d else False
def e9(c:Int)(b d:U)(a:Nat):U:=b.take (a*1)++ [ak c]++d
def ic(e:Int)(b d f:U)(a c:Nat):F:=[some (.mk (rlbL (gk a) b) 5 false),some (.mk (rlbL (gk a) (e9 e d f c)) 197 true)]
theorem r133_0o(b:Y)(r:Bool)(pts:Int)(bh:Bool)(d:U)(m:Nat)(cap:Nat)(L:Int)(i:Int)(s:Y)(w:Int)(dg:Int)(q:Int)(d2:U)(m2:Nat)(cap2:Nat)(dr:Int)(f:Int)(cr:Bool)(fm:Int)(jk:Tmps)(R:Exit→U→F→Prop):(jb7 Tryz.prog G22 noL Tryz.f151.ntmps (jbh Tryz.f151 0) (tl S133_0.live (V133_0 (b,r,pts,bh,d,m,cap,L,i,s,w,dg,q,.own d2 m2 cap2,dr,f,cr,fm)) jk) (ml S133_0.mid (B133_0 (b,r,pts,bh,d,m,cap,L,i,s,w,dg,q,.own d2 m2 cap2,dr,f,cr,fm))) S133_0.n fun e t' m' _=>S133_0.out R e t' m')=(bif am i L then jr i dr f d m (gv d2 cap2 m2 (∀a:Nat,∀c:U,fk c a m2→f0 bh r b R pts L i (ic 0 d d2 c 434 m2) d (e9 0 d2 c m2) 434 m cap (az true false cr s (al w 1) (al dg 1) (al q pts) dr f 32 (al fm 1) (m2+1) a cl))) (gv d2 cap2 m2 (∀a:Nat,∀c:U,fk c a m2→(bif ar fm 0 then bif iw d (e9 1 d2 c m2) 457&&true then R .ret (ay b (ak pts::B bh::bp L i 400 0 m cap) (B false)) (az true false cr s w dg q dr f 32 fm (m2+1) a cl::ic 1 d d2 c 457 m2)else False else bif bh || true then f0 (bh || ar pts 0) r b R pts L i (ic 1 d d2 c 457 m2) d (e9 1 d2 c m2) 457 m cap (az true false cr s (al w 1) (al dg 1) (al q pts) dr f 32 fm (m2+1) a cl)else False))) (gv d2 cap2 m2 (∀a:Nat,∀c:U,fk c a m2→f0 bh r b R (al pts 1) L i (ic 2 d d2 c 460 m2) d (e9 2 d2 c m2) 460 m cap (az true false cr s w dg q dr f 32 fm (m2+1) a cl))) (gv d2 cap2 m2 (∀a:Nat,∀c:U,fk c a m2→f0 bh r b R pts L i (ic 5 d d2 c 463 m2) d (e9 5 d2 c m2) 463 m cap (az true false cr s (al w 1) dg q dr f 32 fm (m2+1) a cl))) (gv d2 cap2 m2 (∀a:Nat,∀c:U,fk c a m2→f0 bh r b R pts L i (ic 4 d d2 c 474 m2) d (e9 4 d2 c m2) 474 m cap (az true false cr s (al w 1) dg q dr f 32 fm (m2+1) a cl))) (gv d2 cap2 m2 (∀a:Nat,∀c:U,fk c a m2→f0 bh r b R pts L i (ic 3 d d2 c 474 m2) d (e9 3 d2 c m2) 474 m cap (az true false cr s (al w 1) dg q dr f 32 fm (m2+1) a cl)))else bt (iw d d2 401&&true) R [dn cr s w dg q dr f fm m2 cap2,some (.mk (rlbL (gk 401) d) 5 false),some (.mk (rlbL (gk 401) d2) 197 true)] (ay b (ak pts::B bh::bp L i 400 0 m cap) (B r)) 0):=by kernel_rfl
theorem l133_0:LOKf Tryz.prog (oneL 0 S133_0.hA) Tryz.f151:=by
 refine jci (h:=S133_0.hA) (by kernel_rfl) (jbz ok_G22 hmix (by kernel_rfl) (jbo _) S133_0 V133_0 B133_0 (fun(b,r,pts,bh,d,m,cap,L,i,s,w,dg,q,o,dr,f,cr,fm)=>(m-i).toNat) ?_ ?_ ?_)
 ·intro vs bs s h;simp only[S133_0]at h;split at h
  all_goals first | (cases h;exact⟨rfl,rfl⟩) | cases h | (split at h<;>first | (rename_i hq;cases h;have hq:=jah hq;subst hq;exact⟨rfl,rfl⟩) | cases h)
 ·exact fun⟨b,r,pts,bh,d,m,cap,L,i,s,w,dg,q,o,dr,f,cr,fm⟩ hp=>by
   simp only[S133_0,jaf]at hp;have hv:=jcp.1 hp.2.1;cases o with
   | nil=>simp[V133_0,B133_0,S133_0,jax,jbk,idsL,ids,Rw.v,Rw.bi,jar hv.plain]
   | own d2 m2 cap2=>simp[V133_0,B133_0,S133_0,jax,jbk,idsL,ids,Rw.v,Rw.bi,jar hv.plain,jar (jay.1 hp.1).plain]
 ·intro⟨b,r,pts,bh,d,m,cap,L,i,s,w,dg,q,o,dr,f,cr,fm⟩ jk Z hp hf;simp only[S133_0]at hp hf;cases o with
  | nil=>
   rw[r133_0n];delta bt av cv ay ak au bp fx az dt bx cu bv dl bq b9 bk b6 jr al dp b5 gk iw f0 jt a0 ir cl dn ar am;simp only[jaf,jae]at hp;obtain⟨-,hV,hp⟩:=hp;have hv:=jcp.1 hV;simp only[Rw.z,List.length_nil]at hp hf;have k1:bz ⟨#[57,89,84,73,82]⟩=[57,89,84,73,82]:=rfl;have e0:0+i.toNat*1=i.toNat:=by omega
   rw[k1,e0];apply cond_intro<;>intro h
   ·have h:=jab h;obtain⟨a1,a2,a3⟩:=hv.at hp.1 (by omega);rw[a3]at hf;rw[a1,w64 (n:=i+1) (by omega)];generalize jaj d i.toNat=c at*;refine c_t (jaa (by omega)) (c_t rfl (c_t (jaa a2) ?_));rw[jh7];refine cond_intro (fun q0=> ?_) (fun q0=>c_t (by simp) (cond_intro (fun q1=> ?_) (fun q1=>cond_intro (fun q2=> ?_) (fun q2=>cond_intro (fun q3=> ?_) (fun q3=>c_t (by simp) (cond_intro (fun q4=> ?_) (fun q4=> ?_)))))))
    ·have e:roP dr f c i=0:=by
      unfold roP;rw[q0];rfl
     rw[ja5,e]at hf;intro cap1 tail ht;obtain⟨h1,h2⟩:RowI (Value.int IntKind.i64 0::tail) 1 cap1∧zc (Value.int IntKind.i64 0::tail) 1=[0]:=jeh [0] ht;have hl1:=ja7 h1;generalize Value.int IntKind.i64 0::tail=d' at*;refine c_t (by rw[goodL_plain hv.plain,goodL_plain h1.plain];rfl) ?_;rw[hv.rlb,rlbL_plain _ h1.plain];rw[w64 (n:=w+1) (by omega)];rw[w64 (n:=dg+1) (by omega)];rw[w64 (n:=q+pts) (by omega)];rw[w64 (n:=fm+1) (by omega)];exact⟨(b,r,pts,bh,d,m,cap,L,i+1,s,w+1,dg+1,q+pts,.own d' (1) cap1,dr,f,cr,fm+1),rfl,rfl,by simp only[S133_0,jaf,jae];exact⟨jay.2 h1,hV,by simp only[Rw.z,hl1];omega⟩,by simp only;omega,by simp only[S133_0];refine jfo hf ?_ (fun g=>g);rintro ⟨-,g⟩;exact⟨fun q=>(by cases q),fun pts' bh' w' dg' q' fm' d'' m'' cap'' g1 g2 g3=>g pts' bh' w' dg' q' fm' d'' m'' cap'' g1 (by rw[g2];simp[Rw.z,h2]) g3⟩⟩
    ·have e:roP dr f c i=1:=by
      unfold roP;rw[q0,q1];rfl
     rw[ja5,e]at hf;intro cap1 tail ht;obtain⟨h1,h2⟩:RowI (Value.int IntKind.i64 1::tail) 1 cap1∧zc (Value.int IntKind.i64 1::tail) 1=[1]:=jeh [1] ht;have hl1:=ja7 h1;generalize Value.int IntKind.i64 1::tail=d' at*;have e2:plGo (1::ja5 dr f (List.drop (i+1).toNat (zc d m)) (i+1)) ⟨pts,bh,w,dg,q,fm⟩=bif decide (fm>0)then(false,⟨pts,bh,w,dg,q,fm⟩)else plGo (ja5 dr f (List.drop (i+1).toNat (zc d m)) (i+1)) ⟨pts,bh || decide (pts>0),w+1,dg+1,q+pts,fm⟩:=rfl;rw[e2]at hf;refine cond_intro (fun z=>c_t (by rw[goodL_plain hv.plain,goodL_plain h1.plain];rfl) ?_) (fun z=>c_t (by simp) ?_)
     ·rw[hv.rlb,rlbL_plain _ h1.plain];rw[z,cond_true]at hf;exact hf _ _ _ _ _ _ _ d' _ _ (jay.2 h1)
     ·rw[z,cond_false]at hf;refine c_t (by rw[goodL_plain hv.plain,goodL_plain h1.plain];rfl) ?_;rw[hv.rlb,rlbL_plain _ h1.plain];rw[w64 (n:=w+1) (by omega)];rw[w64 (n:=dg+1) (by omega)];rw[w64 (n:=q+pts) (by omega)];exact⟨(b,r,pts,bh || decide (pts>0),d,m,cap,L,i+1,s,w+1,dg+1,q+pts,.own d' (1) cap1,dr,f,cr,fm),rfl,rfl,by simp only[S133_0,jaf,jae];exact⟨jay.2 h1,hV,by simp only[Rw.z,hl1];omega⟩,by simp only;omega,by simp only[S133_0];refine jfo hf ?_ (fun g=>g);rintro ⟨-,g⟩;exact⟨fun q=>(by cases q),fun pts' bh' w' dg' q' fm' d'' m'' cap'' g1 g2 g3=>g pts' bh' w' dg' q' fm' d'' m'' cap'' g1 (by rw[g2];simp[Rw.z,h2]) g3⟩⟩
    ·have e:roP dr f c i=2:=by
      unfold roP;rw[q0,q1,q2];rfl
     rw[ja5,e]at hf;intro cap1 tail ht;obtain⟨h1,h2⟩:RowI (Value.int IntKind.i64 2::tail) 1 cap1∧zc (Value.int IntKind.i64 2::tail) 1=[2]:=jeh [2] ht;have hl1:=ja7 h1;generalize Value.int IntKind.i64 2::tail=d' at*;refine c_t (by rw[goodL_plain hv.plain,goodL_plain h1.plain];rfl) ?_;rw[hv.rlb,rlbL_plain _ h1.plain];rw[w64 (n:=pts+1) (by omega)];exact⟨(b,r,pts+1,bh,d,m,cap,L,i+1,s,w,dg,q,.own d' (1) cap1,dr,f,cr,fm),rfl,rfl,by simp only[S133_0,jaf,jae];exact⟨jay.2 h1,hV,by simp only[Rw.z,hl1];omega⟩,by simp only;omega,by simp only[S133_0];refine jfo hf ?_ (fun g=>g);rintro ⟨-,g⟩;exact⟨fun q=>(by cases q),fun pts' bh' w' dg' q' fm' d'' m'' cap'' g1 g2 g3=>g pts' bh' w' dg' q' fm' d'' m'' cap'' g1 (by rw[g2];simp[Rw.z,h2]) g3⟩⟩
    ·have e:roP dr f c i=5:=by
      unfold roP;rw[q0,q1,q2,q3];rfl
     rw[ja5,e]at hf;intro cap1 tail ht;obtain⟨h1,h2⟩:RowI (Value.int IntKind.i64 5::tail) 1 cap1∧zc (Value.int IntKind.i64 5::tail) 1=[5]:=jeh [5] ht;have hl1:=ja7 h1;generalize Value.int IntKind.i64 5::tail=d' at*;refine c_t (by rw[goodL_plain hv.plain,goodL_plain h1.plain];rfl) ?_;rw[hv.rlb,rlbL_plain _ h1.plain];rw[w64 (n:=w+1) (by omega)];exact⟨(b,r,pts,bh,d,m,cap,L,i+1,s,w+1,dg,q,.own d' (1) cap1,dr,f,cr,fm),rfl,rfl,by simp only[S133_0,jaf,jae];exact⟨jay.2 h1,hV,by simp only[Rw.z,hl1];omega⟩,by simp only;omega,by simp only[S133_0];refine jfo hf ?_ (fun g=>g);rintro ⟨-,g⟩;exact⟨fun q=>(by cases q),fun pts' bh' w' dg' q' fm' d'' m'' cap'' g1 g2 g3=>g pts' bh' w' dg' q' fm' d'' m'' cap'' g1 (by rw[g2];simp[Rw.z,h2]) g3⟩⟩
    ·have e:roP dr f c i=4:=by
      unfold roP;rw[q0,q1,q2,q3,q4];rfl
     rw[ja5,e]at hf;intro cap1 tail ht;obtain⟨h1,h2⟩:RowI (Value.int IntKind.i64 4::tail) 1 cap1∧zc (Value.int IntKind.i64 4::tail) 1=[4]:=jeh [4] ht;have hl1:=ja7 h1;generalize Value.int IntKind.i64 4::tail=d' at*;refine c_t (by rw[goodL_plain hv.plain,goodL_plain h1.plain];rfl) ?_;rw[hv.rlb,rlbL_plain _ h1.plain];rw[w64 (n:=w+1) (by omega)];exact⟨(b,r,pts,bh,d,m,cap,L,i+1,s,w+1,dg,q,.own d' (1) cap1,dr,f,cr,fm),rfl,rfl,by simp only[S133_0,jaf,jae];exact⟨jay.2 h1,hV,by simp only[Rw.z,hl1];omega⟩,by simp only;omega,by simp only[S133_0];refine jfo hf ?_ (fun g=>g);rintro ⟨-,g⟩;exact⟨fun q=>(by cases q),fun pts' bh' w' dg' q' fm' d'' m'' cap'' g1 g2 g3=>g pts' bh' w' dg' q' fm' d'' m'' cap'' g1 (by rw[g2];simp[Rw.z,h2]) g3⟩⟩
    ·have e:roP dr f c i=3:=by
      unfold roP;rw[q0,q1,q2,q3,q4];rfl
     rw[ja5,e]at hf;intro cap1 tail ht;obtain⟨h1,h2⟩:RowI (Value.int IntKind.i64 3::tail) 1 cap1∧zc (Value.int IntKind.i64 3::tail) 1=[3]:=jeh [3] ht;have hl1:=ja7 h1;generalize Value.int IntKind.i64 3::tail=d' at*;refine c_t (by rw[goodL_plain hv.plain,goodL_plain h1.plain];rfl) ?_;rw[hv.rlb,rlbL_plain _ h1.plain];rw[w64 (n:=w+1) (by omega)];exact⟨(b,r,pts,bh,d,m,cap,L,i+1,s,w+1,dg,q,.own d' (1) cap1,dr,f,cr,fm),rfl,rfl,by simp only[S133_0,jaf,jae];exact⟨jay.2 h1,hV,by simp only[Rw.z,hl1];omega⟩,by simp only;omega,by simp only[S133_0];refine jfo hf ?_ (fun g=>g);rintro ⟨-,g⟩;exact⟨fun q=>(by cases q),fun pts' bh' w' dg' q' fm' d'' m'' cap'' g1 g2 g3=>g pts' bh' w' dg' q' fm' d'' m'' cap'' g1 (by rw[g2];simp[Rw.z,h2]) g3⟩⟩
   ·have h:=jac h;rw[hv.end (by omega),ja5,plGo,cond_true]at hf;obtain rfl:i=m:=by omega
    refine c_t (by rw[goodL_plain hv.plain];rfl) ?_;rw[hv.rlb];exact hf.1 rfl rfl
  | own d2 m2 cap2=>
   rw[r133_0o];delta bt av cv ay ak au bp gk az cl dn iw bx cu bv dl bq b9 bk b6 jr jf gv al dp b5 f0 e9 ic fk ar am;simp only[jaf,jae]at hp;obtain⟨hR,hV,hp⟩:=hp;have hv:=jcp.1 hV;have hr:=jay.1 hR;have hzl:=ja7 hr;simp only[Rw.z,hzl]at hp hf;have k1:bz ⟨#[57,89,84,73,82]⟩=[57,89,84,73,82]:=rfl;have e0:0+i.toNat*1=i.toNat:=by omega
   rw[k1,e0];apply cond_intro<;>intro h
   ·have h:=jab h;obtain⟨a1,a2,a3⟩:=hv.at hp.1 (by omega);rw[a3]at hf;rw[a1,w64 (n:=i+1) (by omega)];generalize jaj d i.toNat=c at*;refine c_t (jaa (by omega)) (c_t rfl (c_t (jaa a2) ?_));rw[jh7];refine cond_intro (fun q0=> ?_) (fun q0=>c_t (by simp) (cond_intro (fun q1=> ?_) (fun q1=>cond_intro (fun q2=> ?_) (fun q2=>cond_intro (fun q3=> ?_) (fun q3=>c_t (by simp) (cond_intro (fun q4=> ?_) (fun q4=> ?_)))))))
    ·have e:roP dr f c i=0:=by
      unfold roP;rw[q0];rfl
     rw[ja5,e]at hf;refine c_t (hr.ask (k:=1) (by omega)) (fun cap1 tail ht=> ?_);obtain⟨h1,h2⟩:=hr.app1 0 ht;have hl1:=ja7 h1;generalize List.take (m2*1) d2++ [Value.int IntKind.i64 0]++tail=d' at*;refine c_t (by rw[goodL_plain hv.plain,goodL_plain h1.plain];rfl) ?_;rw[hv.rlb,rlbL_plain _ h1.plain];rw[w64 (n:=w+1) (by omega)];rw[w64 (n:=dg+1) (by omega)];rw[w64 (n:=q+pts) (by omega)];rw[w64 (n:=fm+1) (by omega)];exact⟨(b,r,pts,bh,d,m,cap,L,i+1,s,w+1,dg+1,q+pts,.own d' (m2+1) cap1,dr,f,cr,fm+1),rfl,rfl,by simp only[S133_0,jaf,jae];exact⟨jay.2 h1,hV,by simp only[Rw.z,hl1];omega⟩,by simp only;omega,by simp only[S133_0];refine jfo hf ?_ (fun g=>g);rintro ⟨-,g⟩;exact⟨fun q=>(by cases q),fun pts' bh' w' dg' q' fm' d'' m'' cap'' g1 g2 g3=>g pts' bh' w' dg' q' fm' d'' m'' cap'' g1 (by rw[g2];simp[Rw.z,h2]) g3⟩⟩
    ·have e:roP dr f c i=1:=by
      unfold roP;rw[q0,q1];rfl
     rw[ja5,e]at hf;refine c_t (hr.ask (k:=1) (by omega)) (fun cap1 tail ht=> ?_);obtain⟨h1,h2⟩:=hr.app1 1 ht;have hl1:=ja7 h1;generalize List.take (m2*1) d2++ [Value.int IntKind.i64 1]++tail=d' at*;have e2:plGo (1::ja5 dr f (List.drop (i+1).toNat (zc d m)) (i+1)) ⟨pts,bh,w,dg,q,fm⟩=bif decide (fm>0)then(false,⟨pts,bh,w,dg,q,fm⟩)else plGo (ja5 dr f (List.drop (i+1).toNat (zc d m)) (i+1)) ⟨pts,bh || decide (pts>0),w+1,dg+1,q+pts,fm⟩:=rfl;rw[e2]at hf;refine cond_intro (fun z=>c_t (by rw[goodL_plain hv.plain,goodL_plain h1.plain];rfl) ?_) (fun z=>c_t (by simp) ?_)
     ·rw[hv.rlb,rlbL_plain _ h1.plain];rw[z,cond_true]at hf;exact hf _ _ _ _ _ _ _ d' _ _ (jay.2 h1)
     ·rw[z,cond_false]at hf;refine c_t (by rw[goodL_plain hv.plain,goodL_plain h1.plain];rfl) ?_;rw[hv.rlb,rlbL_plain _ h1.plain];rw[w64 (n:=w+1) (by omega)];rw[w64 (n:=dg+1) (by omega)];rw[w64 (n:=q+pts) (by omega)];exact⟨(b,r,pts,bh || decide (pts>0),d,m,cap,L,i+1,s,w+1,dg+1,q+pts,.own d' (m2+1) cap1,dr,f,cr,fm),rfl,rfl,by simp only[S133_0,jaf,jae];exact⟨jay.2 h1,hV,by simp only[Rw.z,hl1];omega⟩,by simp only;omega,by simp only[S133_0];refine jfo hf ?_ (fun g=>g);rintro ⟨-,g⟩;exact⟨fun q=>(by cases q),fun pts' bh' w' dg' q' fm' d'' m'' cap'' g1 g2 g3=>g pts' bh' w' dg' q' fm' d'' m'' cap'' g1 (by rw[g2];simp[Rw.z,h2]) g3⟩⟩
    ·have e:roP dr f c i=2:=by
      unfold roP;rw[q0,q1,q2];rfl
     rw[ja5,e]at hf;refine c_t (hr.ask (k:=1) (by omega)) (fun cap1 tail ht=> ?_);obtain⟨h1,h2⟩:=hr.app1 2 ht;have hl1:=ja7 h1;generalize List.take (m2*1) d2++ [Value.int IntKind.i64 2]++tail=d' at*;refine c_t (by rw[goodL_plain hv.plain,goodL_plain h1.plain];rfl) ?_;rw[hv.rlb,rlbL_plain _ h1.plain];rw[w64 (n:=pts+1) (by omega)];exact⟨(b,r,pts+1,bh,d,m,cap,L,i+1,s,w,dg,q,.own d' (m2+1) cap1,dr,f,cr,fm),rfl,rfl,by simp only[S133_0,jaf,jae];exact⟨jay.2 h1,hV,by simp only[Rw.z,hl1];omega⟩,by simp only;omega,by simp only[S133_0];refine jfo hf ?_ (fun g=>g);rintro ⟨-,g⟩;exact⟨fun q=>(by cases q),fun pts' bh' w' dg' q' fm' d'' m'' cap'' g1 g2 g3=>g pts' bh' w' dg' q' fm' d'' m'' cap'' g1 (by rw[g2];simp[Rw.z,h2]) g3⟩⟩
    ·have e:roP dr f c i=5:=by
      unfold roP;rw[q0,q1,q2,q3];rfl
     rw[ja5,e]at hf;refine c_t (hr.ask (k:=1) (by omega)) (fun cap1 tail ht=> ?_);obtain⟨h1,h2⟩:=hr.app1 5 ht;have hl1:=ja7 h1;generalize List.take (m2*1) d2++ [Value.int IntKind.i64 5]++tail=d' at*;refine c_t (by rw[goodL_plain hv.plain,goodL_plain h1.plain];rfl) ?_;rw[hv.rlb,rlbL_plain _ h1.plain];rw[w64 (n:=w+1) (by omega)];exact⟨(b,r,pts,bh,d,m,cap,L,i+1,s,w+1,dg,q,.own d' (m2+1) cap1,dr,f,cr,fm),rfl,rfl,by simp only[S133_0,jaf,jae];exact⟨jay.2 h1,hV,by simp only[Rw.z,hl1];omega⟩,by simp only;omega,by simp only[S133_0];refine jfo hf ?_ (fun g=>g);rintro ⟨-,g⟩;exact⟨fun q=>(by cases q),fun pts' bh' w' dg' q' fm' d'' m'' cap'' g1 g2 g3=>g pts' bh' w' dg' q' fm' d'' m'' cap'' g1 (by rw[g2];simp[Rw.z,h2]) g3⟩⟩
    ·have e:roP dr f c i=4:=by
      unfold roP;rw[q0,q1,q2,q3,q4];rfl
     rw[ja5,e]at hf;refine c_t (hr.ask (k:=1) (by omega)) (fun cap1 tail ht=> ?_);obtain⟨h1,h2⟩:=hr.app1 4 ht;have hl1:=ja7 h1;generalize List.take (m2*1) d2++ [Value.int IntKind.i64 4]++tail=d' at*;refine c_t (by rw[goodL_plain hv.plain,goodL_plain h1.plain];rfl) ?_;rw[hv.rlb,rlbL_plain _ h1.plain];rw[w64 (n:=w+1) (by omega)];exact⟨(b,r,pts,bh,d,m,cap,L,i+1,s,w+1,dg,q,.own d' (m2+1) cap1,dr,f,cr,fm),rfl,rfl,by simp only[S133_0,jaf,jae];exact⟨jay.2 h1,hV,by simp only[Rw.z,hl1];omega⟩,by simp only;omega,by simp only[S133_0];refine jfo hf ?_ (fun g=>g);rintro ⟨-,g⟩;exact⟨fun q=>(by cases q),fun pts' bh' w' dg' q' fm' d'' m'' cap'' g1 g2 g3=>g pts' bh' w' dg' q' fm' d'' m'' cap'' g1 (by rw[g2];simp[Rw.z,h2]) g3⟩⟩
    ·have e:roP dr f c i=3:=by
      unfold roP;rw[q0,q1,q2,q3,q4];rfl
     rw[ja5,e]at hf;refine c_t (hr.ask (k:=1) (by omega)) (fun cap1 tail ht=> ?_);obtain⟨h1,h2⟩:=hr.app1 3 ht;have hl1:=ja7 h1;generalize List.take (m2*1) d2++ [Value.int IntKind.i64 3]++tail=d' at*;refine c_t (by rw[goodL_plain hv.plain,goodL_plain h1.plain];rfl) ?_;rw[hv.rlb,rlbL_plain _ h1.plain];rw[w64 (n:=w+1) (by omega)];exact⟨(b,r,pts,bh,d,m,cap,L,i+1,s,w+1,dg,q,.own d' (m2+1) cap1,dr,f,cr,fm),rfl,rfl,by simp only[S133_0,jaf,jae];exact⟨jay.2 h1,hV,by simp only[Rw.z,hl1];omega⟩,by simp only;omega,by simp only[S133_0];refine jfo hf ?_ (fun g=>g);rintro ⟨-,g⟩;exact⟨fun q=>(by cases q),fun pts' bh' w' dg' q' fm' d'' m'' cap'' g1 g2 g3=>g pts' bh' w' dg' q' fm' d'' m'' cap'' g1 (by rw[g2];simp[Rw.z,h2]) g3⟩⟩
   ·have h:=jac h;rw[hv.end (by omega),ja5,plGo,cond_true]at hf;obtain rfl:i=m:=by omega
    refine c_t (by rw[goodL_plain hv.plain,goodL_plain hr.plain];rfl) ?_;rw[hv.rlb,rlbL_plain _ hr.plain];exact hf.2 pts bh w dg q fm d2 m2 cap2 hR (by simp) rfl
theorem fn133:Fn1 Tryz.prog 151 Tryz.f151:= .m Tryz.func151
def G23:Env:=Env.nil.add 140 (sp2 s141)
theorem ok_G23:jao Tryz.prog G23:=jak jbr ok141
theorem at_ints:∀{d:U}{n j:Nat},isInts (d.take n)=true→j<n→n≤d.length→jap .i64 d j=true∧jaj d j=(d.map iv).getD j 0
 | .int .i64 k::r,n+1,0,_,_,_=>⟨rfl,rfl⟩
 | .int .i64 k::r,n+1,j+1,h,hj,hn=>by
  have:=at_ints (d:=r) (n:=n) (j:=j) (by simpa[isInts]using h) (by omega) (by simpa using hn);simpa[jap,jaj]using this
 | [],n+1,j,_,hj,hn=>by simp at hn
 | .bool _::r,n+1,j,h,_,_ | .string _::r,n+1,j,h,_,_ | .float _ _::r,n+1,j,h,_,_ | .complex _ _ _::r,n+1,j,h,_,_ | .pointer _::r,n+1,j,h,_,_ | .slice _ _ _::r,n+1,j,h,_,_
 | .agg _::r,n+1,j,h,_,_ | .tuple _::r,n+1,j,h,_,_ | .iface _ _::r,n+1,j,h,_,_ | .func _ _ _::r,n+1,j,h,_,_ | .map _::r,n+1,j,h,_,_ | .chan _::r,n+1,j,h,_,_ | .nilFunc::r,n+1,j,h,_,_ | .nilIface::r,n+1,j,h,_,_=>by
  simp[isInts]at h
 | .int .i8 _::r,n+1,j,h,_,_ | .int .i16 _::r,n+1,j,h,_,_ | .int .i32 _::r,n+1,j,h,_,_ | .int .u8 _::r,n+1,j,h,_,_ | .int .u16 _::r,n+1,j,h,_,_ | .int .u32 _::r,n+1,j,h,_,_ | .int .u64 _::r,n+1,j,h,_,_=>by
  simp[isInts]at h
theorem RowI.at{d:U}{m cap:Nat}(h:RowI d m cap){j:Int}(h0:0≤j)(hj:j<m):jap .i64 d j.toNat=true∧(zc d m).drop j.toNat=jaj d j.toNat::(zc d m).drop (j+1).toNat:=by
 have hl:=h.len;have hle:=h.le;obtain⟨q1,q2⟩:=at_ints h.bytes (j:=j.toNat) (by omega) (by omega);refine⟨q1,?_⟩;rw[je6 (zc d m) _ (by rw[ja7 h];omega),show(j+1).toNat=j.toNat+1 by omega,q2];congr 1;simp only[zc,List.getD_eq_getElem?_getD,List.getElem?_map,List.getElem?_take];rw[if_pos (by omega)]
theorem RowI.end{d:U}{m cap:Nat}(h:RowI d m cap){j:Int}(hj:(m:Int)≤j):(zc d m).drop j.toNat=[]:=List.drop_eq_nil_of_le (by rw[ja7 h];omega)
def loGo(f:Int):E→Int→Int→Int
 | [],_,a=>a
 | r::rs,i,a=>loGo f rs (i+1) (bif r==0 || (r==1 || i==f)then imin a i else a)
def hiGo(f:Int):E→Int→Int→Int
 | [],_,a=>a
 | r::rs,i,a=>hiGo f rs (i+1) (bif r==0 || (r==1 || i==f)then imax a i else a)
def stP(f lo hi:Int):E→Int→Bool
 | [],_=>true
 | r::rs,i=> !((r==4 || r==5) && (i !=f&& (decide (i>lo) &&decide (i<hi)))) &&stP f lo hi rs (i+1)
def siGo:E→E→Int
 | c::cs,r::rs=>(bif r==4 || hasZ [84,73,82] c then 1 else 0)+siGo cs rs
 | _,_=>0
def V134_0:Y×Bool×Int×Int×Nat×Nat×Int×Int×Y×Int×Int×Int×U×Nat×Nat×Int×Int×Bool×Int→U:=fun(b,r,lo,hi,m3,cap3,L,i,s,w,dg,q,d2,m2,cap2,dr,f,cr,fm)=> [.pointer (some ⟨3,0,some 0⟩),S b,B r,I lo,I hi,.slice (some ⟨401,0,some 1⟩) m3 cap3,I L,I i]
def B134_0:Y×Bool×Int×Int×Nat×Nat×Int×Int×Y×Int×Int×Int×U×Nat×Nat×Int×Int×Bool×Int→F:=fun(b,r,lo,hi,m3,cap3,L,i,s,w,dg,q,d2,m2,cap2,dr,f,cr,fm)=> [some ⟨[.string s,.bool true,.int .i64 w,.int .i64 dg,.int .i64 q,.bool false,.slice (some ⟨401,0,some 1⟩) m2 cap2,.int .u8 dr,.int .i64 f,.bool cr,.int .u8 32,.int .i64 fm],119,true⟩,some ⟨d2,197,true⟩]
def S134_0:LSpecA (Y×Bool×Int×Int×Nat×Nat×Int×Int×Y×Int×Int×Int×U×Nat×Nat×Int×Int×Bool×Int) where
 live:=[0,1,4,5,6,16,17,18]
 mid:=[3,401]
 n:=520
 ap:=[]
 dec vs bs:=match vs,bs with | [.pointer (some ⟨3,0,some 0⟩),.string b,.bool r,.int .i64 lo,.int .i64 hi,.slice (some ⟨401,0,some 1⟩) m3 cap3,.int .i64 L,.int .i64 i],[some ⟨[.string s,.bool true,.int .i64 w,.int .i64 dg,.int .i64 q,.bool false,.slice (some ⟨401,0,some 1⟩) m2 cap2,.int .u8 dr,.int .i64 f,.bool cr,.int .u8 32,.int .i64 fm],119,true⟩,some ⟨d2,197,true⟩]=>some (b,r,lo,hi,m3,cap3,L,i,s,w,dg,q,d2,m2,cap2,dr,f,cr,fm) | _,_=>none
 pre:=fun(b,r,lo,hi,m3,cap3,L,i,s,w,dg,q,d2,m2,cap2,dr,f,cr,fm)=>jcr d2 m2 cap2&&decide (0≤i∧i≤m2∧m2≤1000∧L=m2∧m3=m2)
 fin:=fun(b,r,lo,hi,m3,cap3,L,i,s,w,dg,q,d2,m2,cap2,dr,f,cr,fm) Z=>∀lo' hi',loGo f ((zc d2 m2).drop i.toNat) i lo=lo'→hiGo f ((zc d2 m2).drop i.toNat) i hi=hi'→Z (.exit 0) [.pointer (some ⟨3,0,some 0⟩),S b,B r,I lo',I hi',.slice (some ⟨401,0,some 1⟩) m3 cap3,I L,I m2] [some ⟨[.string s,.bool true,.int .i64 w,.int .i64 dg,.int .i64 q,.bool false,.slice (some ⟨401,0,some 1⟩) m2 cap2,.int .u8 dr,.int .i64 f,.bool cr,.int .u8 32,.int .i64 fm],119,true⟩,some ⟨d2,197,true⟩]
def ie(a:U):F:=[some (.mk (aq a) 197 true)]
theorem r134_0(b:Y)(r:Bool)(lo:Int)(hi:Int)(m3:Nat)(cap3:Nat)(L:Int)(i:Int)(s:Y)(w:Int)(dg:Int)(q:Int)(d2:U)(m2:Nat)(cap2:Nat)(dr:Int)(f:Int)(cr:Bool)(fm:Int)(jk:Tmps)(R:Exit→U→F→Prop):(jb7 Tryz.prog G23 noL Tryz.f152.ntmps (jbh Tryz.f152 0) (tl S134_0.live (V134_0 (b,r,lo,hi,m3,cap3,L,i,s,w,dg,q,d2,m2,cap2,dr,f,cr,fm)) jk) (ml S134_0.mid (B134_0 (b,r,lo,hi,m3,cap3,L,i,s,w,dg,q,d2,m2,cap2,dr,f,cr,fm))) S134_0.n fun e t' m' _=>S134_0.out R e t' m')=(bif am i L then bv (jap .i64 d2 (bq i)) i m3 (dl (bk i 0 d2) (bk i 1 d2 || true) (bk i 0 d2 || (bk i 1 d2 || i==f)) (bw (bm [] d2) R (dn cr s w dg q dr f fm m2 cap2::ie d2) (ay b (I (imin lo i)::I (imax hi i)::b5 L i 401 0 m3 cap3) (B r))) (bw (bm [] d2) R (dn cr s w dg q dr f fm m2 cap2::ie d2) (ay b (ak lo::ak hi::b5 L i 401 0 m3 cap3) (B r))))else bt (bm [] d2) R (dn cr s w dg q dr f fm m2 cap2::ie d2) (ay b (ak lo::ak hi::bp L i 401 0 m3 cap3) (B r)) 0):=by kernel_rfl
theorem l134_0:∀t m n K,S134_0.hA t m n K→Ab.Sem Tryz.prog Tryz.f152.ntmps (.loop (jbh Tryz.f152 0)) t m n K:=by
 refine jbz ok_G23 hmix (by kernel_rfl) (jbo _) S134_0 V134_0 B134_0 (fun(b,r,lo,hi,m3,cap3,L,i,s,w,dg,q,d2,m2,cap2,dr,f,cr,fm)=>(m2-i).toNat) ?_ ?_ ?_
 ·intro vs bs s h;simp only[S134_0]at h;split at h
  all_goals first | (cases h;exact⟨rfl,rfl⟩) | cases h | (split at h<;>first | (rename_i hq;cases h;have hq:=jah hq;subst hq;exact⟨rfl,rfl⟩) | cases h)
 ·exact fun⟨b,r,lo,hi,m3,cap3,L,i,s,w,dg,q,d2,m2,cap2,dr,f,cr,fm⟩ hp=>by
   simp only[S134_0,jaf]at hp;have hr:=jay.1 hp.1;simp[V134_0,B134_0,S134_0,jax,jbk,idsL,ids,jar hr.plain]
 ·intro⟨b,r,lo,hi,m3,cap3,L,i,s,w,dg,q,d2,m2,cap2,dr,f,cr,fm⟩ jk Z hp hf;rw[r134_0];delta bt av cv ay ak au bp aq ie az cl dn bm bx cu bv dl bw al dp b5 bq b9 bk am;simp only[S134_0]at hp hf;simp only[jaf,jae]at hp;obtain⟨hR,hp⟩:=hp;have hr:=jay.1 hR;have hzl:=ja7 hr;have e0:0+i.toNat*1=i.toNat:=by omega
  rw[e0];simp only[hr.rlb];have hg:∀ps,(jau ps d2&&true&&true)=true:=fun ps=>by rw[hr.good];rfl
  apply cond_intro<;>intro h
  ·have h:=jab h;obtain⟨a1,a3⟩:=hr.at hp.1 (by omega);rw[a3,loGo,hiGo]at hf;rw[a1,w64 (n:=i+1) (by omega)];generalize jaj d2 i.toNat=c at*;refine c_t (jaa (by omega)) (c_t rfl (c_t (by simp) (cond_intro (fun z=>c_t (hg _) ?_) (fun z=>c_t (hg _) ?_))))
   ·rw[z,cond_true,cond_true]at hf;exact⟨(b,r,imin lo i,imax hi i,m3,cap3,L,i+1,s,w,dg,q,d2,m2,cap2,dr,f,cr,fm),rfl,rfl,by simp only[S134_0,jaf,jae];exact⟨hR,by omega⟩,by simp only;omega,hf⟩
   ·rw[z,cond_false,cond_false]at hf;exact⟨(b,r,lo,hi,m3,cap3,L,i+1,s,w,dg,q,d2,m2,cap2,dr,f,cr,fm),rfl,rfl,by simp only[S134_0,jaf,jae];exact⟨hR,by omega⟩,by simp only;omega,hf⟩
  ·have h:=jac h;rw[hr.end (by omega),loGo,hiGo]at hf;obtain rfl:i=m2:=by omega
   exact c_t (hg _) (hf lo hi rfl rfl)
def V134_2:Y×Bool×Int×Int×Nat×Nat×Int×Int×Y×Int×Int×Int×U×Nat×Nat×Int×Int×Bool×Int→U:=fun(b,r,lo,hi,m3,cap3,L,i,s,w,dg,q,d2,m2,cap2,dr,f,cr,fm)=> [.pointer (some ⟨3,0,some 0⟩),S b,B r,I lo,I hi,.slice (some ⟨401,0,some 1⟩) m3 cap3,I L,I i]
def B134_2:Y×Bool×Int×Int×Nat×Nat×Int×Int×Y×Int×Int×Int×U×Nat×Nat×Int×Int×Bool×Int→F:=fun(b,r,lo,hi,m3,cap3,L,i,s,w,dg,q,d2,m2,cap2,dr,f,cr,fm)=> [some ⟨[.string s,.bool true,.int .i64 w,.int .i64 dg,.int .i64 q,.bool false,.slice (some ⟨401,0,some 1⟩) m2 cap2,.int .u8 dr,.int .i64 f,.bool cr,.int .u8 32,.int .i64 fm],119,true⟩,some ⟨d2,197,true⟩]
def S134_2:LSpecA (Y×Bool×Int×Int×Nat×Nat×Int×Int×Y×Int×Int×Int×U×Nat×Nat×Int×Int×Bool×Int) where
 live:=[0,1,4,5,6,47,48,49]
 mid:=[3,401]
 n:=560
 ap:=[]
 dec vs bs:=match vs,bs with | [.pointer (some ⟨3,0,some 0⟩),.string b,.bool r,.int .i64 lo,.int .i64 hi,.slice (some ⟨401,0,some 1⟩) m3 cap3,.int .i64 L,.int .i64 i],[some ⟨[.string s,.bool true,.int .i64 w,.int .i64 dg,.int .i64 q,.bool false,.slice (some ⟨401,0,some 1⟩) m2 cap2,.int .u8 dr,.int .i64 f,.bool cr,.int .u8 32,.int .i64 fm],119,true⟩,some ⟨d2,197,true⟩]=>some (b,r,lo,hi,m3,cap3,L,i,s,w,dg,q,d2,m2,cap2,dr,f,cr,fm) | _,_=>none
 pre:=fun(b,r,lo,hi,m3,cap3,L,i,s,w,dg,q,d2,m2,cap2,dr,f,cr,fm)=>jcr d2 m2 cap2&&decide (0≤i∧i≤m2∧m2≤1000∧L=m2∧m3=m2)
 fin:=fun(b,r,lo,hi,m3,cap3,L,i,s,w,dg,q,d2,m2,cap2,dr,f,cr,fm) Z=>(bif stP f lo hi ((zc d2 m2).drop i.toNat) i then Z (.exit 2) [.pointer (some ⟨3,0,some 0⟩),S b,B r,I lo,I hi,.slice (some ⟨401,0,some 1⟩) m3 cap3,I L,I m2] [some ⟨[.string s,.bool true,.int .i64 w,.int .i64 dg,.int .i64 q,.bool false,.slice (some ⟨401,0,some 1⟩) m2 cap2,.int .u8 dr,.int .i64 f,.bool cr,.int .u8 32,.int .i64 fm],119,true⟩,some ⟨d2,197,true⟩]else∀i',Z .ret [.pointer (some ⟨3,0,some 0⟩),S b,B false,I lo,I hi,.slice (some ⟨401,0,some 1⟩) m3 cap3,I L,I i'] [some ⟨[.string s,.bool true,.int .i64 w,.int .i64 dg,.int .i64 q,.bool false,.slice (some ⟨401,0,some 1⟩) m2 cap2,.int .u8 dr,.int .i64 f,.bool cr,.int .u8 32,.int .i64 fm],119,true⟩,some ⟨d2,197,true⟩])
theorem r134_2(b:Y)(r:Bool)(lo:Int)(hi:Int)(m3:Nat)(cap3:Nat)(L:Int)(i:Int)(s:Y)(w:Int)(dg:Int)(q:Int)(d2:U)(m2:Nat)(cap2:Nat)(dr:Int)(f:Int)(cr:Bool)(fm:Int)(jk:Tmps)(R:Exit→U→F→Prop):(jb7 Tryz.prog G23 noL Tryz.f152.ntmps (jbh Tryz.f152 2) (tl S134_2.live (V134_2 (b,r,lo,hi,m3,cap3,L,i,s,w,dg,q,d2,m2,cap2,dr,f,cr,fm)) jk) (ml S134_2.mid (B134_2 (b,r,lo,hi,m3,cap3,L,i,s,w,dg,q,d2,m2,cap2,dr,f,cr,fm))) S134_2.n fun e t' m' _=>S134_2.out R e t' m')=(bif am i L then bv (jap .i64 d2 (bq i)) i m3 (bif bif bk i 4 d2 then bif i !=f then ar i lo || true else true else bif bk i 5 d2 then bif i !=f then ar i lo || true else true else true then bif bif bk i 4 d2 then i !=f&& (ar i lo&&am i hi)else bk i 5 d2&& (i !=f&& (ar i lo&&am i hi))then bif bm [] d2 then R .ret (ay b (ak lo::ak hi::bp L i 401 0 m3 cap3) (B false)) (dn cr s w dg q dr f fm m2 cap2::ie d2)else False else bw (bm [] d2) R (dn cr s w dg q dr f fm m2 cap2::ie d2) (ay b (ak lo::ak hi::b5 L i 401 0 m3 cap3) (B r))else False)else bt (bm [] d2) R (dn cr s w dg q dr f fm m2 cap2::ie d2) (ay b (ak lo::ak hi::bp L i 401 0 m3 cap3) (B r)) 2):=by kernel_rfl
theorem l134_2:∀t m n K,S134_2.hA t m n K→Ab.Sem Tryz.prog Tryz.f152.ntmps (.loop (jbh Tryz.f152 2)) t m n K:=by
 refine jbz ok_G23 hmix (by kernel_rfl) (jbo _) S134_2 V134_2 B134_2 (fun(b,r,lo,hi,m3,cap3,L,i,s,w,dg,q,d2,m2,cap2,dr,f,cr,fm)=>(m2-i).toNat) ?_ ?_ ?_
 ·intro vs bs s h;simp only[S134_2]at h;split at h
  all_goals first | (cases h;exact⟨rfl,rfl⟩) | cases h | (split at h<;>first | (rename_i hq;cases h;have hq:=jah hq;subst hq;exact⟨rfl,rfl⟩) | cases h)
 ·exact fun⟨b,r,lo,hi,m3,cap3,L,i,s,w,dg,q,d2,m2,cap2,dr,f,cr,fm⟩ hp=>by
   simp only[S134_2,jaf]at hp;have hr:=jay.1 hp.1;simp[V134_2,B134_2,S134_2,jax,jbk,idsL,ids,jar hr.plain]
 ·intro⟨b,r,lo,hi,m3,cap3,L,i,s,w,dg,q,d2,m2,cap2,dr,f,cr,fm⟩ jk Z hp hf;rw[r134_2];delta bt av cv ay ak au bp aq ie az cl dn bm bx cu bv bw al dp b5 am ar bq b9 bk;simp only[S134_2]at hp hf;simp only[jaf,jae]at hp;obtain⟨hR,hp⟩:=hp;have hr:=jay.1 hR;have hzl:=ja7 hr;have e0:0+i.toNat*1=i.toNat:=by omega
  rw[e0];simp only[hr.rlb];have hg:∀ps,(jau ps d2&&true&&true)=true:=fun ps=>by rw[hr.good];rfl
  apply cond_intro<;>intro h
  ·have h:=jab h;obtain⟨a1,a3⟩:=hr.at hp.1 (by omega);rw[a3,stP]at hf;rw[a1,w64 (n:=i+1) (by omega)];generalize jaj d2 i.toNat=c at*;have e:(bif c==4 then i !=f&& (decide (i>lo) &&decide (i<hi))else c==5&& (i !=f&& (decide (i>lo) &&decide (i<hi))))=((c==4 || c==5) && (i !=f&& (decide (i>lo) &&decide (i<hi)))):=by cases c==4<;>rfl
   rw[e];refine c_t (jaa (by omega)) (c_t rfl (c_t (by simp) (cond_intro (fun z=>c_t (hg _) ?_) (fun z=>c_t (hg _) ?_))))
   ·rw[z,Bool.not_true,Bool.false_and,cond_false]at hf;exact hf i
   ·rw[z,Bool.not_false,Bool.true_and]at hf;exact⟨(b,r,lo,hi,m3,cap3,L,i+1,s,w,dg,q,d2,m2,cap2,dr,f,cr,fm),rfl,rfl,by simp only[S134_2,jaf,jae];exact⟨hR,by omega⟩,by simp only;omega,hf⟩
  ·have h:=jac h;rw[hr.end (by omega),stP,cond_true]at hf;obtain rfl:i=m2:=by omega
   exact c_t (hg _) hf
def V135_0:Y×Int×Int×U×Nat×Nat×Int×Int×Y×Int×Int×Int×U×Nat×Nat×Int×Int×Bool×Int→U:=fun(b,r,n,d,m,cap,L,i,s,w,dg,q,d2,m2,cap2,dr,f,cr,fm)=> [.pointer (some ⟨3,0,some 0⟩),S b,I r,I n,.slice (some ⟨600,0,some 1⟩) m cap,I L,I i]
def B135_0:Y×Int×Int×U×Nat×Nat×Int×Int×Y×Int×Int×Int×U×Nat×Nat×Int×Int×Bool×Int→F:=fun(b,r,n,d,m,cap,L,i,s,w,dg,q,d2,m2,cap2,dr,f,cr,fm)=> [some ⟨[.string s,.bool true,.int .i64 w,.int .i64 dg,.int .i64 q,.bool false,.slice (some ⟨401,0,some 1⟩) m2 cap2,.int .u8 dr,.int .i64 f,.bool cr,.int .u8 32,.int .i64 fm],119,true⟩,some ⟨d,5,false⟩,some ⟨d2,197,true⟩]
def S135_0:LSpecA (Y×Int×Int×U×Nat×Nat×Int×Int×Y×Int×Int×Int×U×Nat×Nat×Int×Int×Bool×Int) where
 live:=[0,1,4,5,9,10,11]
 mid:=[3,600,401]
 n:=610
 ap:=[(.tmp 9,600)]
 dec vs bs:=match vs,bs with | [.pointer (some ⟨3,0,some 0⟩),.string b,.int .i64 r,.int .i64 n,.slice (some ⟨600,0,some 1⟩) m cap,.int .i64 L,.int .i64 i],[some ⟨[.string s,.bool true,.int .i64 w,.int .i64 dg,.int .i64 q,.bool false,.slice (some ⟨401,0,some 1⟩) m2 cap2,.int .u8 dr,.int .i64 f,.bool cr,.int .u8 32,.int .i64 fm],119,true⟩,some ⟨d,5,false⟩,some ⟨d2,197,true⟩]=>some (b,r,n,d,m,cap,L,i,s,w,dg,q,d2,m2,cap2,dr,f,cr,fm) | _,_=>none
 pre:=fun(b,r,n,d,m,cap,L,i,s,w,dg,q,d2,m2,cap2,dr,f,cr,fm)=>jcr d2 m2 cap2&& (vwOK d m&&decide (0≤i∧i≤m∧m2=m∧m≤1000∧L=m∧0≤n∧n≤i))
 fin:=fun(b,r,n,d,m,cap,L,i,s,w,dg,q,d2,m2,cap2,dr,f,cr,fm) Z=>∀n',n+siGo ((zc d m).drop i.toNat) ((zc d2 m2).drop i.toNat)=n'→Z (.exit 0) [.pointer (some ⟨3,0,some 0⟩),S b,I r,I n',.slice (some ⟨600,0,some 1⟩) m cap,I L,I m] [some ⟨[.string s,.bool true,.int .i64 w,.int .i64 dg,.int .i64 q,.bool false,.slice (some ⟨401,0,some 1⟩) m2 cap2,.int .u8 dr,.int .i64 f,.bool cr,.int .u8 32,.int .i64 fm],119,true⟩,some ⟨d,5,false⟩,some ⟨d2,197,true⟩]
def er(a:List (Prod Nat Nat))(b c:U):Bool:=jau a b&& (jau a c&&true) &&true
theorem r135_0(b:Y)(r:Int)(n:Int)(d:U)(m:Nat)(cap:Nat)(L:Int)(i:Int)(s:Y)(w:Int)(dg:Int)(q:Int)(d2:U)(m2:Nat)(cap2:Nat)(dr:Int)(f:Int)(cr:Bool)(fm:Int)(jk:Tmps)(R:Exit→U→F→Prop):(jb7 Tryz.prog G23 noL Tryz.f153.ntmps (jbh Tryz.f153 0) (tl S135_0.live (V135_0 (b,r,n,d,m,cap,L,i,s,w,dg,q,d2,m2,cap2,dr,f,cr,fm)) jk) (ml S135_0.mid (B135_0 (b,r,n,d,m,cap,L,i,s,w,dg,q,d2,m2,cap2,dr,f,cr,fm))) S135_0.n fun e t' m' _=>S135_0.out R e t' m')=(bif am i L then bv (jap .u8 d (bq i)) i m (b8 (cu i m2) (jap .i64 d2 (bq i) && (bk i 4 d2 || b6 (b9 i d) 256&&true)) (bk i 4 d2 || decide (idxZ (bz ⟨#[84,73,82]⟩) (b9 i d)≥0)) (bw (er [(600,600)] d d2) R [dn cr s w dg q dr f fm m2 cap2,fx d 600,c9 d2 600 600 197] (ay b (I (al n 1)::b5 L i 600 0 m cap) (ak r))) (bw (er [(600,600)] d d2) R [dn cr s w dg q dr f fm m2 cap2,fx d 600,c9 d2 600 600 197] (ay b (ak n::b5 L i 600 0 m cap) (ak r))))else bt (er [(600,600)] d d2) R [dn cr s w dg q dr f fm m2 cap2,fx d 600,c9 d2 600 600 197] (ay b (ak n::bp L i 600 0 m cap) (ak r)) 0):=by kernel_rfl
theorem l135_0:LOKf Tryz.prog (oneL 0 S135_0.hA) Tryz.f153:=by
 refine jci (h:=S135_0.hA) (by kernel_rfl) (jbz ok_G23 hmix (by kernel_rfl) (jbo _) S135_0 V135_0 B135_0 (fun(b,r,n,d,m,cap,L,i,s,w,dg,q,d2,m2,cap2,dr,f,cr,fm)=>(m-i).toNat) ?_ ?_ ?_)
 ·intro vs bs s h;simp only[S135_0]at h;split at h
  all_goals first | (cases h;exact⟨rfl,rfl⟩) | cases h | (split at h<;>first | (rename_i hq;cases h;have hq:=jah hq;subst hq;exact⟨rfl,rfl⟩) | cases h)
 ·exact fun⟨b,r,n,d,m,cap,L,i,s,w,dg,q,d2,m2,cap2,dr,f,cr,fm⟩ hp=>by
   simp only[S135_0,jaf]at hp;have hr:=jay.1 hp.1;simp[V135_0,B135_0,S135_0,jax,jbk,idsL,ids,jar hr.plain,jar (jcp.1 hp.2.1).plain]
 ·intro⟨b,r,n,d,m,cap,L,i,s,w,dg,q,d2,m2,cap2,dr,f,cr,fm⟩ jk Z hp hf;rw[r135_0];delta bt av cv ay ak au bp c9 fx az cl dn er bx cu bv b8 bw al dp b5 bq b9 bk b6 am;simp only[S135_0]at hp hf;simp only[jaf,jae]at hp;obtain⟨hR,hV,hp⟩:=hp;have hr:=jay.1 hR;have hzl:=ja7 hr;have hv:=jcp.1 hV;have e0:0+i.toNat*1=i.toNat:=by omega
  rw[e0];simp only[hr.rlb,hv.rlb];have hg:∀ps,(jau ps d&& (jau ps d2&&true) &&true)=true:=fun ps=>by rw[hr.good,goodL_plain hv.plain];rfl
  have k:bz ⟨#[84,73,82]⟩=[84,73,82]:=rfl;rw[k];apply cond_intro<;>intro h
  ·have h:=jab h;obtain⟨a1,a3⟩:=hr.at hp.1 (by omega);obtain⟨b1,b2,b3⟩:=hv.at hp.1 (by omega);rw[a3,b3,siGo]at hf;rw[a1,b1,w64 (n:=i+1) (by omega),jh7];generalize jaj d2 i.toNat=c at*;generalize jaj d i.toNat=x at*;refine c_t (jaa (by omega)) (c_t rfl (c_t (by rw[jaa (show 0≤i∧i<(m2:Int)by omega),jaa b2];simp) (cond_intro (fun z=>c_t (hg _) ?_) (fun z=>c_t (hg _) ?_))))
   ·rw[z,cond_true,←Int.add_assoc]at hf;rw[w64 (n:=n+1) (by omega)];exact⟨(b,r,n+1,d,m,cap,L,i+1,s,w,dg,q,d2,m2,cap2,dr,f,cr,fm),rfl,rfl,by simp only[S135_0,jaf,jae];exact⟨hR,hV,by omega⟩,by simp only;omega,hf⟩
   ·rw[z,cond_false,Int.zero_add]at hf;exact⟨(b,r,n,d,m,cap,L,i+1,s,w,dg,q,d2,m2,cap2,dr,f,cr,fm),rfl,rfl,by simp only[S135_0,jaf,jae];exact⟨hR,hV,by omega⟩,by simp only;omega,hf⟩
  ·have h:=jac h;rw[hv.end (by omega),siGo,Int.add_zero]at hf;obtain rfl:i=m:=by omega
   exact c_t (hg _) (hf n rfl);intro _ _ _ _ h1;cases h1
theorem fn134:Fn1 Tryz.prog 152 Tryz.f152:= .m Tryz.func152
theorem fn135:Fn1 Tryz.prog 153 Tryz.f153:= .m Tryz.func153
theorem lok134:LOKf Tryz.prog (twoL 0 S134_0.hA 2 S134_2.hA) Tryz.f152:=lokf_two (by kernel_rfl) (by kernel_rfl) l134_0 l134_2
def G24:Env:=Env.nil.add 140 (sp2 s141)
theorem ok_G24:jao Tryz.prog G24:=jak jbr ok141
def G25:Env:=((((((Env.nil.add 150 (sp2 s132)).add 148 (sp2 s130)).add 114 (sp2 s102)).addG 149 (inlQ Tryz.prog G20 (oneL 0 S131_0.hA) Tryz.f149)).addG 151 (inlQ Tryz.prog G22 (oneL 0 S133_0.hA) Tryz.f151)).addG 152 (inlQ Tryz.prog G23 (twoL 0 S134_0.hA 2 S134_2.hA) Tryz.f152)).addG 153 (inlQ Tryz.prog G24 (oneL 0 S135_0.hA) Tryz.f153)
theorem ok_G25:jao Tryz.prog G25:=jaq (jaq (jaq (jaq (jak (jak (jak jbr ok132) ok130) ok102) (jat ok_G20 hmix fn131 lok131)) (jat ok_G22 hmix fn133 l133_0)) (jat ok_G23 hmix fn134 lok134)) (jat ok_G24 hmix fn135 l135_0)
def look(m:Lk):Value→F
 | Value.tuple ⟨[Value.pointer (some a),_]⟩=>match m a.block with
  | some b=>match b.c[6]? with
   | some (Value.slice (some a') _ _)=> [some b,m a'.block]
   | _=> [some b]
  | none=> []
 | _=> []
def nD(b:E):Bool×Int×Int:=jd6 [36,83,43,45] b 0 (-1)
def nR(b:E):E:=ja5 (nD b).2.1 (nD b).2.2 b 0
def nP(b:E):Bool×PlS:=plGo (nR b) ⟨0,false,0,0,0,0⟩
def nPok(b:E):Bool:=(nP b).1&& (decide ((nP b).2.pts≤1) && (decide ((nP b).2.dg≥1) && (decide ((nP b).2.dg≤9) && !((nP b).2.bh&&decide ((nP b).2.fm>0)))))
def nS(b:E):Bool:=stP (nD b).2.2 (loGo (nD b).2.2 (nR b) 0 b.length) (hiGo (nD b).2.2 (nR b) 0 (-1)) (nR b) 0
def nG(b:E)(cr:Bool):Int:=siGo b (nR b)+(bif cr then 1 else 0)
def nSt(b:E):Bool:=hasZ b 42&&hasZ b 90 || (hasZ b 42 || hasZ b 90) && (nD b).2.1 !=0
def numQ(b:E)(cr:Bool):Bool:= !anyZ b [65,88,67,68] && ((nD b).1&& (!nSt b&& (nPok b&& (nS b&&decide (nG b cr≤1)))))
def jhs(s:Y)(cr:Bool)(x m cap:Nat):U:=
 [.string s,.bool true,.int .i64 ((nP (jam (bz s))).2.w+(bif cr then 2 else 0)),.int .i64 (nP (jam (bz s))).2.dg,.int .i64 (nP (jam (bz s))).2.q,.bool (nG (jam (bz s)) cr==1),
  .slice (some ⟨x,0,some 1⟩) m cap,.int .u8 (nD (jam (bz s))).2.1,.int .i64 (nD (jam (bz s))).2.2,.bool cr,.int .u8 (bif hasZ (jam (bz s)) 42 then 42 else 32),.int .i64 (nP (jam (bz s))).2.fm]
def jim(s:Y)(cr:Bool):E:=nR (jam (bz s))++(bif cr then [4,4]else [])
theorem jfz(dr f:Int):∀(l:E)(i:Int),(ja5 dr f l i).length=l.length
 | [],_=>rfl
 | c::r,i=>by simp[ja5,jfz dr f r]
theorem ji3:∀(a b:E),0≤siGo a b∧siGo a b≤a.length
 | [],_=>by simp[siGo]
 | _::_,[]=>by simp[siGo];omega
 | c::cs,r::rs=>by
  have:=ji3 cs rs;rw[siGo,List.length_cons];cases(r==4 || hasZ [84,73,82] c) <;>simp only[cond_true,cond_false] <;>omega
theorem jgm:∀(l:E)(a:PlS),(a.w≤(plGo l a).2.w∧(plGo l a).2.w≤a.w+l.length)∧(a.dg≤(plGo l a).2.dg∧(plGo l a).2.dg≤a.dg+l.length)∧(a.fm≤(plGo l a).2.fm∧(plGo l a).2.fm≤a.fm+l.length)
 | [],a=>by simp[plGo]
 | r::rs,a=>by
  rw[plGo,List.length_cons];cases r==2 with
  | true=>have:=jgm rs ⟨a.pts+1,a.bh,a.w,a.dg,a.q,a.fm⟩;simp only[cond_true]at this ⊢;omega
  | false=>
   cases r==0 with
   | true=>have:=jgm rs ⟨a.pts,a.bh,a.w+1,a.dg+1,a.q+a.pts,a.fm+1⟩;simp only[cond_true,cond_false]at this ⊢;omega
   | false=>
    cases r==1 with
    | true=>
     cases decide (a.fm>0)with
     | true=>simp only[cond_true,cond_false];omega
     | false=>have:=jgm rs ⟨a.pts,a.bh || decide (a.pts>0),a.w+1,a.dg+1,a.q+a.pts,a.fm⟩;simp only[cond_true,cond_false]at this ⊢;omega
    | false=>have:=jgm rs ⟨a.pts,a.bh,a.w+1,a.dg,a.q,a.fm⟩;simp only[cond_false]at this ⊢;omega
theorem jgf{s:E}{cr:Bool}(h:crZ s=cr):jam s=bif cr then s.take (s.length-2)else s:=by
 unfold jam;rw[h];cases cr<;>rfl
theorem cr_suf(l:E):(sufZ l [67,82] || sufZ l [68,66])=crZ l:=by
 unfold sufZ crZ;rw[Bool.eq_iff_iff];simp only[Bool.or_eq_true,jaf,jae,List.length_cons,List.length_nil];constructor
 ·rintro (⟨a,b⟩ | ⟨a,b⟩)
  ·exact⟨a,.inl b⟩
  ·exact⟨a,.inr b⟩
 ·rintro ⟨a,b | b⟩
  ·exact .inl ⟨a,b⟩
  ·exact .inr ⟨a,b⟩
theorem asc_take{l:E}(h:asc l=true)(n:Nat):asc (l.take n)=true:=by
 simp only[asc,List.all_eq_true]at h ⊢;exact fun x hx=>h x (List.mem_of_mem_take hx)
def eu(a:Value→F→Prop):Prop:=a (ax [.pointer none,.bool false]) []
def j7:Y:=⟨#[65,88,67,68]⟩
def ke(d:Bool)(a c:Y)(e:Prop)(b:Value→F→Prop):Prop:=bif ft a&& (ft j7&& (asc (bz a) &&asc (bz j7)))then bif anyZ (bz a) (bz j7)then eu b else bif S131_0.toLSpec.pre (a,(false,(natO 4,((0:Int),(c,((0:Int),(-(1:Int),d)))))))then bif (jd6 [36,83,43,45] (bz a) 0 (-1)).fst then e else Int→Int→Int→Tmps→eu b else False else False
def iy(c:Y)(a b:Int):E:=ja5 a b (fy (cw c 344 400) c.size) 0
def e8(a:Y)(b:UInt8):Bool:=hasZ (bz a) (jg b)
def kf(j:Bool)(a i:Y)(b g:Int)(k:Prop)(h:Value→F→Prop):Prop:=jd6 [36,83,43,45] (bz a) 0 (-1)=(true,(b,g))→Tmps→(bif bif e8 a 42 then e8 a 90 || (e8 a 42 || (e8 a 90 || true))else e8 a 42 || (e8 a 90 || true)then bif bif e8 a 42 then e8 a 90 || (bif e8 a 42 then b !=0 else e8 a 90&&b !=0)else bif e8 a 42 then b !=0 else e8 a 90&&b !=0 then eu h else∀c:Nat,a.size.ble c=true→b8 (bm [(344,400)] (Lib.strCells a)) (dm (cw a 344 400) 410) (S133_0.toLSpec.pre (a,(false,((0:Int),(false,(cw a 344 400,(a.size,(c,(natO a.size,((0:Int),(i,((0:Int),((0:Int),((0:Int),(Rw.nil,(b,(g,(j,(0:Int))))))))))))))))))) (bif (plGo (iy a b g) (PlS.mk 0 false 0 0 0 0)).fst then(Rw.is Rw.nil=false→fy (cw a 344 400) a.size=([]:E)→ib (cw a 344 400) 410 (eu h))∧k else g9 (Int→Int→Int→Int→(∀d:U,∀e:Nat,∀f:Nat,jcr d e f=true→(bif jax 410 (cw a 344 400) &&bn d 410 then Tmps→eu h else False)))) False else False)
def im(d:Bool)(b c:U)(a:Nat)(e:Prop):Prop:=bif jax a b&&bn c a then Tmps→(bif d then e else False)else False
def gx(a:U):U:=rlbL [(569,600)] (rlbL [] (aq a))
def ig(a:U)(b:Nat):Bool:=bm [] a&&dm (aq a) b
def kg(k:Bool)(b e:Y)(f g h i j l:Int)(a:U)(c d:Nat)(p:Prop)(q:Value→F→Prop):Prop:=bif ig a 520 then bif S134_0.toLSpec.pre (b,(false,(b4 b,(-(1:Int),(c,(d,(natO c,((0:Int),(e,(f,(g,(h,(aq a,(c,(d,(i,(j,(k,l))))))))))))))))))then∀m:Int,∀n:Int,loGo j (fy (aq a) c) 0 (b4 b)=m→hiGo j (fy (aq a) c) 0 (-1)=n→ib (aq a) 520 (b8 (bm [] (aq a)) (dm (rlbL [] (aq a)) 560) (S134_2.toLSpec.pre (b,(false,(m,(n,(c,(d,(natO c,((0:Int),(e,(f,(g,(h,(rlbL [] (aq a),(c,(d,(i,(j,(k,l))))))))))))))))))) (bif stP j m n (fy (rlbL [] (aq a)) c) 0 then bif dm (rlbL [] (aq a)) 560 then Tmps→(∀o:Nat,b.size.ble o=true→(bif er [(569,600)] (Lib.strCells b) (rlbL [] (aq a)) && (jax 610 (cw b 569 600) &&dm (gx a) 610)then bx (S135_0.toLSpec.pre (b,((0:Int),((0:Int),(cw b 569 600,(b.size,(o,(natO b.size,((0:Int),(e,(f,(g,(h,(gx a,(c,(d,(i,(j,(k,l))))))))))))))))))) p else False))else False else Int→(bif dm (rlbL [] (aq a)) 560 then Tmps→eu q else False)) False)else False else False
def kh(a:Y)(d e:Int)(b:U)(c:Nat)(g h:Prop)(f:Value→F→Prop):Prop:=0+siGo (fy (cw a 569 600) a.size) (fy (gx b) c)=d→(bif jax 610 (cw a 569 600) &&dm (gx b) 610 then Tmps→(bif ar e 1 then eu f else bif hasZ (bz a) (jg 42)then g else h)else False)
def ki(c:Bool)(a b d:Int):Bool:= !(decide (a≤1) && (decide (b≥1) && (decide (b≤9) && (bif c then !ar d 0 else !false))))
def kj(c:Bool)(a b:Int):Bool:=bif decide (a≤1)then bif decide (b≥1)then bif decide (b≤9)then c || true else true else true else true
def gm(e:Bool)(a:U)(b c d f g:Nat)(h:Prop):Prop:=bif a.length.beq (b*c) &&d.ble b&&b.ble 9223372036854775807&&e&&jb1 (d+f) g then h else False
def kl(f:Y)(e g h i j k l m:Int)(a:U)(b c n:Nat)(d:Value→F→Prop):Prop:=gm true (gx a) b 1 c 2 8 (∀q:Nat,∀r:U,a0 r q (c+2) 1→d (ax [cv,.bool true]) [az true (al e 1==1) true f (al g 2) h i j k l m (c+2) q (av n 0 1),some (.mk ((gx a).take (c*1)++ [ak 4,ak 4]++r) 197 true)])
def dy(a:Y)(b:Int):Y:=a.extract 0 (du (b4 a-b))
def br(a b:Int):Int:=IntKind.i64.wrap (a-b)
def e6(a:Y):Bool:=decide (a.size≤9223372036854775807)
theorem v103(s:Y)(R:Value→F→Prop):(jbe Tryz.prog G25 noL Tryz.f115 [S s] (fun _=>none) 0 (fun v m _=>R v (look m v)))=(b8 (e6 s) (sufZ (bz s) (bz ⟨#[67,82]⟩) || e6 s&&true) (sufZ (bz s) (bz ⟨#[67,82]⟩) || sufZ (bz s) (bz ⟨#[68,66]⟩)) (bif ck 0 (br (b4 s) 2) s.size then ke true (dy s 2) s (∀a:Int,∀b:Int,kf true (dy s 2) s a b (∀d:Int,∀e:Bool,∀f:Int,∀g:Int,∀h:Int,∀i:Int,∀j:U,∀k:Nat,∀l:Nat,jcr j k l=true→zc j k=Rw.z Rw.nil++iy (dy s 2) a b→plGo (iy (dy s 2) a b) (PlS.mk 0 false 0 0 0 0)=(true,PlS.mk d e f g h i)→im (kj e d g) (cw (dy s 2) 344 400) j 410 (bif ki e d g i then eu R else kg true (dy s 2) s f g h a b i j k l (∀p:Int,kh (dy s 2) p (al p 1) j k (kl s p f g h a b 42 i j l k 644 R) (kl s p f g h a b 32 i j l k 640 R) R) R)) R) R else False) (ke false s s (∀a:Int,∀b:Int,kf false s s a b (∀d:Int,∀e:Bool,∀f:Int,∀g:Int,∀h:Int,∀i:Int,∀j:U,∀k:Nat,∀l:Nat,jcr j k l=true→zc j k=Rw.z Rw.nil++iy s a b→plGo (iy s a b) (PlS.mk 0 false 0 0 0 0)=(true,PlS.mk d e f g h i)→im (kj e d g) (cw s 344 400) j 410 (bif ki e d g i then eu R else kg false s s f g h a b i j k l (∀p:Int,kh s p p j k (R (ax [cv,B true]) [az true (p==1) false s f g h a b 42 i k l cl,some (.mk (gx j) 197 true)]) (R (ax [cv,B true]) [az true (p==1) false s f g h a b 32 i k l cl,some (.mk (gx j) 197 true)]) R) R)) R) R)):=by kernel_rfl
theorem w103(s:Y)(hs:s.size≤32)(ha:asc (bz s)=true)(R:Value→F→Prop)
    (hn:numQ (jam (bz s)) (crZ (bz s))=false→R (.tuple ⟨[.pointer none,.bool false]⟩) [])
    (hy:numQ (jam (bz s)) (crZ (bz s))=true→ ∀(x m cap:Nat)(d:U),RowI d m cap→zc d m=jim s (crZ (bz s))→
      R (.tuple ⟨[.pointer (some ⟨3,0,some 0⟩),.bool true]⟩) [some ⟨jhs s (crZ (bz s)) x m cap,119,true⟩,some ⟨d,197,true⟩]):
    jfp Tryz.prog G25 noL Tryz.f115 [.string s] (fun _=>none) 0 (fun v m _=>R v (look m v)):=by
  rw[jfp,v103];delta b8 ax eu j7 ft ke g9 bn cw dm ib fy iy bm jg e8 kf im aq bx gx er b4 ig kg ar kh ak az cl av cv ki kj gm al a0 kl du dy ck br e6;have k67:bz ⟨#[67,82]⟩=[67,82]:=rfl;have k68:bz ⟨#[68,66]⟩=[68,66]:=rfl;rw[k67,k68,cr_suf];refine c_t (by rw[jaa (show s.size≤9223372036854775807 by omega)];simp) (cond_intro (fun hcr=> ?_) (fun hcr=> ?_))
  · rw [hcr] at hn hy;have hb:=jgf hcr
    have h2:2≤s.size:=by
      have:2≤(bz s).length:=by
        simp only[crZ,jaf,jae]at hcr;exact hcr.1
      rwa [ja8]at this
    rw[w64 (n:=(s.size:Int)-2) (by omega)];refine c_t (jaa (by omega)) ?_
    have hb:bz (s.extract 0 ((s.size:Int)-2).toNat)=jam (bz s):=by
      rw[hb,jdr,cond_true,ja8,List.drop_zero];congr 1;omega
    have hay:asc (bz (s.extract 0 ((s.size:Int)-2).toNat))=true:=by
      rw[hb,jgf hcr];exact asc_take ha _
    have hys:(s.extract 0 ((s.size:Int)-2).toNat).size≤32:=by
      rw[←ja8,hb,jgf hcr,cond_true,List.length_take,ja8];omega
    generalize s.extract 0 ((s.size:Int)-2).toNat=y at*;have k1:bz ⟨#[65,88,67,68]⟩=[65,88,67,68]:=rfl;have k2:(bz ⟨#[42]⟩).getD 0 0=42:=rfl;have k3:(bz ⟨#[90]⟩).getD 0 0=90:=rfl;rw[k1,k2,k3];have ey:=hb;refine c_t (by rw[jaa (show y.size≤1000 by omega),hay];rfl) (cond_intro (fun hA=>hn (by rw[←hb];simp only[numQ,hA,Bool.not_true,Bool.false_and])) (fun hA=>c_t ?_ (cond_intro (fun hB dr' f' hD x=> ?_) (fun hB _ _ _ _=>hn (by rw[←hb,numQ,nD,hB,hA];rfl)))))
    · simp only [S131_0, jae];exact⟨ja1 4,by omega,by omega,by omega,by omega,by omega⟩
    have hD':nD (bz y)=(true,dr',f'):=hD;have e1:(nD (bz y)).1=true:=by rw[hD']
    have e2:(nD (bz y)).2.1=dr':=by rw[hD']
    have e3:(nD (bz y)).2.2=f':=by rw[hD']
    have eS:(bif hasZ (bz y) 42 then hasZ (bz y) 90 || bif hasZ (bz y) 42 then dr' !=0 else hasZ (bz y) 90&&dr' !=0 else bif hasZ (bz y) 42 then dr' !=0 else hasZ (bz y) 90&&dr' !=0)=nSt (bz y):=by
      rw[nSt,e2];cases hasZ (bz y) 42<;>cases hasZ (bz y) 90<;>cases dr' !=0<;>rfl
    rw[eS];refine c_t (by simp) (cond_intro (fun hC=>hn (by rw[←hb,numQ,hA,e1,hC];rfl)) (fun hC cap _=> ?_));obtain⟨v1,v2⟩:=ji0 y;have v3:=jcp.2 v1;have g1:=v1.good;have g2:=v1.rlb;have g3:=jbc v1.plain;have g4:∀ps,jau ps (Lib.strCells y)=true:=fun ps=>goodL_plain v1.plain
    simp only[g2];generalize Lib.strCells y=d0 at*;simp only[Int.toNat_zero,List.drop_zero,v2];have eR:ja5 dr' f' (bz y) 0=nR (bz y):=by rw[nR,e2,e3]
    rw[eR];have eP:plGo (nR (bz y)) ⟨0,false,0,0,0,0⟩=nP (bz y):=rfl;rw[eP];have hl:=jfz dr' f' (bz y) 0;rw[eR,ja8]at hl;refine c_t (by rw[g1,g3];rfl) (c_t ?_ (cond_intro (fun hE=>⟨fun _ hnil=>c_t (by rw[g3];rfl) fun _=> ?_,fun pts' bh' w' dg' q' fm' d' m' cap' r1 r2 r3=> ?_⟩) (fun hE _ _ _ _ _ _ _ d' m' cap' r1=>c_t (by rw[g3,jbc (jay.1 r1).plain];rfl) fun _=>hn (by rw[←hb,numQ,hA,e1,hC,nPok,hE];rfl))))
    · simp only [S133_0, Rw.oki, Rw.z, List.length_nil, Bool.true_and, jaf, jae];exact⟨v3,jaa ⟨by omega,by omega,by omega,ja1 _,by omega,by omega,by omega,by omega,by omega,by omega,by omega,by omega,by omega,by omega,by omega⟩⟩
    · have:nP (bz y)=(true,⟨0,false,0,0,0,0⟩):=by
        rw[nP,nR,hnil];rfl
      exact hn (by rw[←hb,numQ,hA,e1,hC,nPok,this];rfl)
    have r1:=jay.1 r1;have hz:=ja7 r1;have r2:zc d' m'=nR (bz y):=r2;have pr:=jgm (nR (bz y)) ⟨0,false,0,0,0,0⟩;rw[eP,r3]at pr;simp only at pr;have hm:m'=y.size:=by rw[←hz,r2,hl]
    refine c_t (by rw[g3,jbc r1.plain];rfl) fun _=>c_t (by cases decide (pts'≤1) <;>cases decide (dg'≥1) <;>cases decide (dg'≤9) <;>simp) ?_
    have ePok:(decide (pts'≤1) && (decide (dg'≥1) && (decide (dg'≤9) &&bif bh' then !decide (fm'>0)else !false)))=nPok (bz y):=by
      rw[nPok,r3];cases bh'<;>rfl
    rw[ePok];refine cond_intro (fun hF=>hn (by rw[←hb,numQ,hA,e1,hC];rw[Bool.not_eq_true']at hF;rw[hF];rfl)) (fun hF=> ?_);have hF:nPok (bz y)=true:=by simpa using hF
    have gd:∀ps,rlbL ps d'=d':=r1.rlb;have gg:∀ps,jau ps d'=true:=r1.good;have gi:=jbc r1.plain;simp only[gd,r2];refine c_t (by rw[gg,gi];rfl) (c_t ?_ (fun lo' hi' h1 h2=>c_t (by rw[gi];rfl) fun _=>c_t (by rw[gg,gi];rfl) (c_t ?_ ?_)))
    · simp only [S134_0, jaf, jae];exact⟨jay.2 r1,by omega,by omega,by omega,ja1 _,trivial⟩
    · simp only [S134_2, jaf, jae];exact⟨jay.2 r1,by omega,by omega,by omega,ja1 _,trivial⟩
    have eSt:stP f' lo' hi' (nR (bz y)) 0=nS (bz y):=by rw[nS,e3,ja8,h1,h2]
    rw[eSt];refine cond_intro (fun hG=> ?_) (fun hG _=>c_t (by rw[gi];rfl) fun _=>hn (by rw[←hb,numQ,hA,e1,hC,hF,hG];rfl));refine c_t (by rw[gi];rfl) fun _ cap2 _=>c_t (by rw[g4,gg,gi,g3];rfl) (c_t ?_ (fun n' h3=>c_t (by rw[gi,g3];rfl) fun _=> ?_))
    · simp only [S135_0, jaf, jae];exact⟨jay.2 r1,v3,by omega,by omega,hm,by omega,ja1 _,by omega,by omega⟩
    have sr:=ji3 (bz y) (nR (bz y));rw[ja8]at sr;rw[Int.zero_add]at h3;rw[w64 (n:=n'+1) (by omega),w64 (n:=w'+2) (by omega)];have eN:nG (bz y) true=n'+1:=by rw[nG,h3];rfl
    refine cond_intro (fun hH => hn (by rw [← hb, numQ, hA, e1, hC, hF, hG, eN]; have : ¬ n' + 1 ≤ 1 := by have := jab hH; omega
                                        rw[jad this];rfl)) (fun hH=> ?_)
    have hq:numQ (jam (bz s)) true=true:=by
      rw[←hb,numQ,hA,e1,hC,hF,hG,eN];have:n'+1≤1:=by have:=jac hH;omega
      rw[jaa this];rfl
    have eF:∀x k c,jhs s true x k c=[Value.string s,Value.bool true,Value.int IntKind.i64 (w'+2),Value.int IntKind.i64 dg',Value.int IntKind.i64 q',Value.bool (n'+1==1),Value.slice (some ⟨x,0,some 1⟩) k c,Value.int IntKind.u8 dr',Value.int IntKind.i64 f',Value.bool true,Value.int IntKind.u8 (bif hasZ (bz y) 42 then 42 else 32),Value.int IntKind.i64 fm']:=fun x k c=>by
      rw[jhs,←hb,r3,e2,e3,eN];rfl
    have hf:=hy hq;simp only[eF,jim,←hb]at hf;apply cond_intro<;>intro hI
    · rw [hI] at hf;refine c_t (r1.ask (k:=2) (by omega)) (fun cap3 tail ht=> ?_);obtain⟨a1,a2⟩:=r1.app [4,4] ht;rw[Nat.mul_one];exact hf _ _ _ _ a1 (a2.trans (by rw[r2];rfl))
    · rw [hI] at hf;refine c_t (r1.ask (k:=2) (by omega)) (fun cap3 tail ht=> ?_);obtain⟨a1,a2⟩:=r1.app [4,4] ht;rw[Nat.mul_one];exact hf _ _ _ _ a1 (a2.trans (by rw[r2];rfl))
  · rw [hcr] at hn hy;have hb:bz s=jam (bz s):=by rw[jgf hcr];rfl
    have hay:=ha;have k1:bz ⟨#[65,88,67,68]⟩=[65,88,67,68]:=rfl;have k2:(bz ⟨#[42]⟩).getD 0 0=42:=rfl;have k3:(bz ⟨#[90]⟩).getD 0 0=90:=rfl;rw[k1,k2,k3];have ey:=hb;refine c_t (by rw[jaa (show s.size≤1000 by omega),hay];rfl) (cond_intro (fun hA=>hn (by rw[←hb];simp only[numQ,hA,Bool.not_true,Bool.false_and])) (fun hA=>c_t ?_ (cond_intro (fun hB dr' f' hD x=> ?_) (fun hB _ _ _ _=>hn (by rw[←hb,numQ,nD,hB,hA];rfl)))))
    · simp only [S131_0, jae];exact⟨ja1 4,by omega,by omega,by omega,by omega,by omega⟩
    have hD':nD (bz s)=(true,dr',f'):=hD;have e1:(nD (bz s)).1=true:=by rw[hD']
    have e2:(nD (bz s)).2.1=dr':=by rw[hD']
    have e3:(nD (bz s)).2.2=f':=by rw[hD']
    have eS:(bif hasZ (bz s) 42 then hasZ (bz s) 90 || bif hasZ (bz s) 42 then dr' !=0 else hasZ (bz s) 90&&dr' !=0 else bif hasZ (bz s) 42 then dr' !=0 else hasZ (bz s) 90&&dr' !=0)=nSt (bz s):=by
      rw[nSt,e2];cases hasZ (bz s) 42<;>cases hasZ (bz s) 90<;>cases dr' !=0<;>rfl
    rw[eS];refine c_t (by simp) (cond_intro (fun hC=>hn (by rw[←hb,numQ,hA,e1,hC];rfl)) (fun hC cap _=> ?_));obtain⟨v1,v2⟩:=ji0 s;have v3:=jcp.2 v1;have g1:=v1.good;have g2:=v1.rlb;have g3:=jbc v1.plain;have g4:∀ps,jau ps (Lib.strCells s)=true:=fun ps=>goodL_plain v1.plain
    simp only[g2];generalize Lib.strCells s=d0 at*;simp only[Int.toNat_zero,List.drop_zero,v2];have eR:ja5 dr' f' (bz s) 0=nR (bz s):=by rw[nR,e2,e3]
    rw[eR];have eP:plGo (nR (bz s)) ⟨0,false,0,0,0,0⟩=nP (bz s):=rfl;rw[eP];have hl:=jfz dr' f' (bz s) 0;rw[eR,ja8]at hl;refine c_t (by rw[g1,g3];rfl) (c_t ?_ (cond_intro (fun hE=>⟨fun _ hnil=>c_t (by rw[g3];rfl) fun _=> ?_,fun pts' bh' w' dg' q' fm' d' m' cap' r1 r2 r3=> ?_⟩) (fun hE _ _ _ _ _ _ _ d' m' cap' r1=>c_t (by rw[g3,jbc (jay.1 r1).plain];rfl) fun _=>hn (by rw[←hb,numQ,hA,e1,hC,nPok,hE];rfl))))
    · simp only [S133_0, Rw.oki, Rw.z, List.length_nil, Bool.true_and, jaf, jae];exact⟨v3,jaa ⟨by omega,by omega,by omega,ja1 _,by omega,by omega,by omega,by omega,by omega,by omega,by omega,by omega,by omega,by omega,by omega⟩⟩
    · have:nP (bz s)=(true,⟨0,false,0,0,0,0⟩):=by
        rw[nP,nR,hnil];rfl
      exact hn (by rw[←hb,numQ,hA,e1,hC,nPok,this];rfl)
    have r1:=jay.1 r1;have hz:=ja7 r1;have r2:zc d' m'=nR (bz s):=r2;have pr:=jgm (nR (bz s)) ⟨0,false,0,0,0,0⟩;rw[eP,r3]at pr;simp only at pr;have hm:m'=s.size:=by rw[←hz,r2,hl]
    refine c_t (by rw[g3,jbc r1.plain];rfl) fun _=>c_t (by cases decide (pts'≤1) <;>cases decide (dg'≥1) <;>cases decide (dg'≤9) <;>simp) ?_
    have ePok:(decide (pts'≤1) && (decide (dg'≥1) && (decide (dg'≤9) &&bif bh' then !decide (fm'>0)else !false)))=nPok (bz s):=by
      rw[nPok,r3];cases bh'<;>rfl
    rw[ePok];refine cond_intro (fun hF=>hn (by rw[←hb,numQ,hA,e1,hC];rw[Bool.not_eq_true']at hF;rw[hF];rfl)) (fun hF=> ?_);have hF:nPok (bz s)=true:=by simpa using hF
    have gd:∀ps,rlbL ps d'=d':=r1.rlb;have gg:∀ps,jau ps d'=true:=r1.good;have gi:=jbc r1.plain;simp only[gd,r2];refine c_t (by rw[gg,gi];rfl) (c_t ?_ (fun lo' hi' h1 h2=>c_t (by rw[gi];rfl) fun _=>c_t (by rw[gg,gi];rfl) (c_t ?_ ?_)))
    · simp only [S134_0, jaf, jae];exact⟨jay.2 r1,by omega,by omega,by omega,ja1 _,trivial⟩
    · simp only [S134_2, jaf, jae];exact⟨jay.2 r1,by omega,by omega,by omega,ja1 _,trivial⟩
    have eSt:stP f' lo' hi' (nR (bz s)) 0=nS (bz s):=by rw[nS,e3,ja8,h1,h2]
    rw[eSt];refine cond_intro (fun hG=> ?_) (fun hG _=>c_t (by rw[gi];rfl) fun _=>hn (by rw[←hb,numQ,hA,e1,hC,hF,hG];rfl));refine c_t (by rw[gi];rfl) fun _ cap2 _=>c_t (by rw[g4,gg,gi,g3];rfl) (c_t ?_ (fun n' h3=>c_t (by rw[gi,g3];rfl) fun _=> ?_))
    · simp only [S135_0, jaf, jae];exact⟨jay.2 r1,v3,by omega,by omega,hm,by omega,ja1 _,by omega,by omega⟩
    have sr:=ji3 (bz s) (nR (bz s));rw[ja8]at sr;rw[Int.zero_add]at h3;have eN:nG (bz s) false=n':=by rw[nG,h3];exact Int.add_zero _
    refine cond_intro (fun hH => hn (by rw [← hb, numQ, hA, e1, hC, hF, hG, eN]; have : ¬ n' ≤ 1 := by have := jab hH; omega
                                        rw[jad this];rfl)) (fun hH=> ?_)
    have hq:numQ (jam (bz s)) false=true:=by
      rw[←hb,numQ,hA,e1,hC,hF,hG,eN];have:n'≤1:=by have:=jac hH;omega
      rw[jaa this];rfl
    have eF:∀x k c,jhs s false x k c=[Value.string s,Value.bool true,Value.int IntKind.i64 w',Value.int IntKind.i64 dg',Value.int IntKind.i64 q',Value.bool (n'==1),Value.slice (some ⟨x,0,some 1⟩) k c,Value.int IntKind.u8 dr',Value.int IntKind.i64 f',Value.bool false,Value.int IntKind.u8 (bif hasZ (bz s) 42 then 42 else 32),Value.int IntKind.i64 fm']:=fun x k c=>by
      rw[jhs,←hb,r3,e2,e3,eN,cond_false,Int.add_zero]
    have hf:=hy hq;simp only[eF,jim,←hb]at hf;apply cond_intro<;>intro hI
    · rw [hI] at hf;exact hf _ _ _ _ r1 (by rw[r2];simp)
    · rw [hI] at hf;exact hf _ _ _ _ r1 (by rw[r2];simp)
end Go.Px
end
section
namespace Go.Px
open Go Go.Ab Go.Proofs
theorem last_mem{l:E}{c:Int}:jbp l c= -1↔c∉l:=by
 rcases jdn c l with⟨e,h⟩ | ⟨i,hi,e,hc,h⟩
 ·refine⟨fun _ hm=> ?_,fun _=>e⟩;obtain⟨j,hj,hv⟩:=List.mem_iff_getElem.1 hm;exact h j hj (by rw[List.getD_eq_getElem?_getD,List.getElem?_eq_getElem hj];exact hv)
 ·refine⟨fun q=>by omega,fun q=>absurd ?_ q⟩;rw[List.getD_eq_getElem?_getD,List.getElem?_eq_getElem hi]at hc;exact hc▸List.getElem_mem hi
def flg(s:E)(c:Int):Bool:=hasZ [36,83,43,45] c&&decide (2≤cntZ s c)
theorem jgd(s:E)(dr:Int):∀(r:E)(i f l:Int),(df1 s dr r i f l).1=r.all fun c=>c==dr || !flg s c
 | [],_,_,_=>rfl
 | c::r,i,f,l=>by
  rw[df1,List.all_cons];cases h:c==dr with
  | true=>rw[cond_true,jgd s dr r];rfl
  | false=>
   rw[cond_false];have e:(hasZ [36,83,43,45] c&&decide (2≤cntZ s c))=flg s c:=rfl;rw[e];cases flg s c with
   | true=>rfl
   | false=>rw[cond_false,jgd s dr r];rfl
theorem jjc(s:E)(dr:Int):∀(r:E)(i f l:Int),0≤i→(df1 s dr r i f l).1=true→
  (df1 s dr r i f l).2.1=(if f<0 then(if dr∈r then i+idxZ r dr else f)else f)∧(df1 s dr r i f l).2.2=(if dr∈r then i+jbp r dr else l)
 | [],i,f,l,_,_=>by simp[df1]
 | c::r,i,f,l,hi,h=>by
  rw[df1]at h ⊢;have hlr:=last_mem (l:=r) (c:=dr);cases hc:c==dr with
  | true=>
   have hc':c=dr:=eq_of_beq hc;rw[hc,cond_true]at h;rw[cond_true];obtain⟨q1,q2⟩:=jjc s dr r _ _ _ (by omega) h;rw[q1,q2,hc'];have h1:¬(if f<0 then i else f)<0:=by split<;>omega
   rw[if_neg h1,if_pos (List.mem_cons_self ..),if_pos (List.mem_cons_self ..),idxZ,if_pos rfl,jbp];refine⟨by split<;>omega,?_⟩;by_cases hm:dr∈r
   ·rw[if_pos hm,if_neg (fun q=>hlr.1 q hm)];omega
   ·rw[if_neg hm,if_pos (hlr.2 hm),if_pos rfl];omega
  | false=>
   have hc':¬c=dr:=by simpa using hc
   rw[hc,cond_false]at h;rw[cond_false];cases hf:(hasZ [36,83,43,45] c&&decide (2≤cntZ s c))with
   | true=>rw[hf]at h;cases h
   | false=>
    rw[hf,cond_false]at h;rw[cond_false];obtain⟨q1,q2⟩:=jjc s dr r _ _ _ (by omega) h
    have hmm:dr∈c::r↔dr∈r:=by
     rw[List.mem_cons];exact⟨fun q=>q.resolve_left fun e=>hc' e.symm,.inr⟩
    rw[q1,q2];simp only[hmm,idxZ,jbp,if_neg hc'];by_cases hm:dr∈r
    ·have i1:=je5 dr hm;rw[if_pos hm,if_pos hm,if_pos hm,if_pos hm,if_neg (show¬idxZ r dr= -1 by omega),if_neg (fun q=>hlr.1 q hm)];exact⟨by split<;>omega,by omega⟩
    ·rw[if_neg hm,if_neg hm,if_neg hm,if_neg hm];exact⟨rfl,rfl⟩
theorem d2_app(dr f:Int):∀(x y:E)(i:Int),d2Go dr f (x++y) i=(d2Go dr f x i&&d2Go dr f y (i+x.length))
 | [],y,i=>by simp[d2Go]
 | c::x,y,i=>by
  rw[List.cons_append,d2Go,d2Go,d2_app dr f x y,List.length_cons,Bool.and_assoc,Bool.and_assoc];congr 4;omega
theorem d2_before(dr f:Int):∀(r:E)(i:Int),i+r.length≤f→d2Go dr f r i= !hasZ r 86
 | [],_,_=>rfl
 | c::r,i,h=>by
  rw[List.length_cons]at h;rw[d2Go,d2_before dr f r (i+1) (by omega),jaa (show i<f by omega),jad (show¬i>f by omega)];simp only[hasZ,List.any_cons,Bool.true_and,Bool.false_and,Bool.not_false,Bool.not_or]
theorem d2_after(dr f:Int):∀(r:E)(i:Int),f<i→d2Go dr f r i=drP dr r
 | [],_,_=>rfl
 | c::r,i,h=>by
  rw[d2Go,d2_after dr f r (i+1) (by omega),jad (show¬i<f by omega),jaa (show i>f by omega)];simp only[drP,List.all_cons,Bool.true_and,Bool.false_and,Bool.not_false,Bool.not_and,Bool.not_not,bne];rfl
theorem take_split(b:E){f l:Nat}(h:f≤l):b.take l=b.take f++(b.take l).drop f:=by
 have:=List.take_append_drop f (b.take l);rw[List.take_take,Nat.min_eq_left h]at this;exact this.symm
theorem drop_take_cons(b:E){f l:Nat}(h:f<l)(hb:f<b.length):(b.take l).drop f=b.getD f 0::(b.take l).drop (f+1):=by
 rw[je6 (b.take l) f (by rw[List.length_take];omega)];congr 1;simp only[List.getD_eq_getElem?_getD,List.getElem?_take];rw[if_pos h]
theorem idx_get(c:Int):∀{l:E},c∈l→l.getD (idxZ l c).toNat 0=c
 | b::l,h=>by
  simp only[idxZ];by_cases hb:b=c
  ·rw[if_pos hb];simpa using hb
  ·rw[if_neg hb];have hm:c∈l:=by rcases List.mem_cons.1 h with q | q;exact absurd q.symm hb;exact q
   have:=je5 c hm;rw[if_neg (by omega),show(idxZ l c+1).toNat=(idxZ l c).toNat+1 by omega,List.getD_cons_succ];exact idx_get c hm
theorem last_get(c:Int){l:E}(h:c∈l):l.getD (jbp l c).toNat 0=c:=by
 rcases jdn c l with⟨e,_⟩ | ⟨i,hi,e,hc,_⟩
 ·exact absurd h (last_mem.1 e)
 ·rw[e];exact hc
theorem take_snoc(b:E){l:Nat}(h:l<b.length):b.take (l+1)=b.take l++ [b.getD l 0]:=by
 rw[List.take_add_one,List.getD_eq_getElem?_getD,List.getElem?_eq_getElem h];rfl
theorem d2_drC{b:E}{c:Int}(h:c∈b):d2Go c (idxZ b c) (b.take (jbp b c).toNat) 0=drC b c:=by
 have i1:=je5 c h;have i2:=jg7 c h;have i3:=jg2 b c;have g1:=idx_get c h;have g2:=last_get c h;obtain⟨f,hf⟩:∃f:Nat,idxZ b c=f:=⟨(idxZ b c).toNat,by omega⟩
 obtain⟨l,hl⟩:∃l:Nat,jbp b c=l:=⟨(jbp b c).toNat,by omega⟩
 unfold drC;rw[hf]at i1 i2 g1;rw[hl]at i2 i3 g2;rw[hf,hl];rw[Int.toNat_natCast]at g1 g2 ⊢;rw[Int.toNat_natCast];rw[show((l:Int)+1).toNat=l+1 by omega,take_snoc b (by omega),g2,List.drop_append_of_le_length (by rw[List.length_take];omega)];rw[take_split b (show f≤l by omega),d2_app,d2_before _ _ _ _ (by rw[List.length_take];omega)];congr 1
 ·rw[←take_split b (show f≤l by omega)];rw[List.length_take,Nat.min_eq_left (by omega)]
  have hs:drP c ((b.take l).drop f++ [c])=drP c ((b.take l).drop f):=by
   simp[drP]
  rw[hs];by_cases hfl:f<l
  ·rw[drop_take_cons b hfl (by omega),g1,d2Go,d2_after _ _ _ _ (by omega)];simp[drP]
  ·rw[List.drop_eq_nil_of_le (by rw[List.length_take];omega)];rfl
theorem jhc{b:E}{d f:Int}:∀{cs:E},(∀c∈cs,(cntZ b c:Int)<2)→jd6 cs b d f=(true,d,f)
 | [],_=>rfl
 | c::cs,h=>by
  rw[jd6,jaa (h c (List.mem_cons_self ..)),cond_true];exact jhc fun x hx=>h x (List.mem_cons_of_mem _ hx)
theorem drf_many{b:E}{d f:Int}(hd:d≠0):∀{cs:E},(∃c∈cs,¬(cntZ b c:Int)<2)→(jd6 cs b d f).1=false
 | c::cs,h=>by
  rw[jd6];cases hc:decide ((cntZ b c:Int)<2)with
  | true=>
   rw[cond_true];refine drf_many hd ?_;obtain⟨x,hx,hxc⟩:=h;rcases List.mem_cons.1 hx with rfl | hx
   ·exact absurd (jab hc) hxc
   ·exact⟨x,hx,hxc⟩
  | false=>
   rw[cond_false];have:(d !=0)=true:=by simpa using hd
   rw[this];rfl
 | [],⟨_,h,_⟩=>by cases h
theorem drf_two{b:E}{d f:Int}:∀{cs:E}{c1 c2:Int},(∀c∈cs,c≠0)→c1∈cs→c2∈cs→c1≠c2→ ¬(cntZ b c1:Int)<2→ ¬(cntZ b c2:Int)<2→(jd6 cs b d f).1=false
 | c::cs,c1,c2,h0,m1,m2,hne,h1,h2=>by
  rw[jd6];cases hc:decide ((cntZ b c:Int)<2)with
  | true=>
   have hc:=jab hc;rw[cond_true];refine drf_two (fun x hx=>h0 x (List.mem_cons_of_mem _ hx)) ?_ ?_ hne h1 h2
   ·rcases List.mem_cons.1 m1 with rfl | q
    ·exact absurd hc h1
    ·exact q
   ·rcases List.mem_cons.1 m2 with rfl | q
    ·exact absurd hc h2
    ·exact q
  | false=>
   rw[cond_false];cases d !=0 with
   | true=>rfl
   | false=>
    rw[cond_false];cases drC b c with
    | false=>rfl
    | true=>
     rw[cond_true];refine drf_many (h0 c (List.mem_cons_self ..)) ?_;by_cases e:c1=c
     ·rcases List.mem_cons.1 m2 with q | q
      ·exact absurd (e.trans q.symm) hne
      ·exact⟨c2,q,h2⟩
     ·rcases List.mem_cons.1 m1 with q | q
      ·exact absurd q e
      ·exact⟨c1,q,h1⟩
theorem drf_one{b:E}{f:Int}:∀{cs:E}{c:Int},cs.Nodup→c∈cs→ ¬(cntZ b c:Int)<2→(∀x∈cs,x≠c→(cntZ b x:Int)<2)→jd6 cs b 0 f=bif drC b c then(true,c,idxZ b c)else(false,0,0)
 | x::cs,c,hn,hm,h1,h2=>by
  have hn':=List.nodup_cons.1 hn;rw[jd6];by_cases e:x=c
  ·subst e;rw[jad h1,cond_false];have:((0:Int) !=0)=false:=rfl;rw[this,cond_false];cases drC b x with
   | false=>rfl
   | true=>
    rw[cond_true,cond_true];exact jhc fun y hy=>h2 y (List.mem_cons_of_mem _ hy) fun q=>hn'.1 (q▸hy)
  ·rw[jaa (h2 x (List.mem_cons_self ..) e),cond_true];exact drf_one hn'.2 (by rcases List.mem_cons.1 hm with q | q;exact absurd q.symm e;exact q) h1 fun y hy=>h2 y (List.mem_cons_of_mem _ hy)
theorem jgc(s:E):∀r:E,drGo s r=0∨(flg s (drGo s r)=true∧drGo s r∈r)
 | []=> .inl rfl
 | c::r=>by
  rw[drGo];split
  ·rename_i h;exact .inr ⟨by simp only[flg,jaf,jae];exact h,List.mem_cons_self ..⟩
  ·rcases jgc s r with h | ⟨h1,h2⟩
   ·exact .inl h
   ·exact .inr ⟨h1,List.mem_cons_of_mem _ h2⟩
theorem jic(s:E){c:Int}(hf:flg s c=true):∀r:E,c∈r→drGo s r≠0
 | x::r,h=>by
  rw[drGo];split
  ·rename_i h;have:hasZ [36,83,43,45] x=true:=h.1;rw[has_dr]at this;omega
  ·rename_i hx;rcases List.mem_cons.1 h with rfl | h
   ·simp only[flg,jaf,jae]at hf;exact absurd hf hx
   ·exact jic s hf r h
theorem jia{s:E}{c:Int}(h:c∈ [36,83,43,45]):flg s c=true↔ ¬(cntZ s c:Int)<2:=by
 simp only[flg,jaf,jae,jb2];exact⟨fun q=>by omega,fun q=>⟨h,by omega⟩⟩
theorem jf9{s:E}{c:Int}(h:flg s c=true):c∈ [36,83,43,45]∧ ¬(cntZ s c:Int)<2:=by
 simp only[flg,jaf,jae,jb2]at h;exact⟨h.1,by omega⟩
theorem nD_law(b:E):(nD b).1=jdd b∧(jdd b=true→(nD b).2.1=drZ b∧(nD b).2.2=if drZ b=0 then -1 else idxZ b (drZ b)):=by
 have h4:∀c∈ [36,83,43,(45:Int)],c≠0:=by decide
 by_cases hd:drZ b=0
 ·have hn:nD b=(true,0,-1):=jhc fun c hc=>by
   cases hq:decide ((cntZ b c:Int)<2)with
   | true=>exact jab hq
   | false=>
    have hf:=(jia hc).2 (jac hq);exact absurd hd (jic b hf b (jhd (jf9 hf).2))
  have hz:jdd b=true:=by rw[jdd,hd];rfl
  rw[hn,hz,hd];exact⟨rfl,fun _=>⟨rfl,rfl⟩⟩
 ·obtain⟨hf,hm⟩:=(jgc b b).resolve_left hd;have hf:flg b (drZ b)=true:=hf;have hm:drZ b∈b:=hm;obtain⟨m1,m2⟩:=jf9 hf
  have hz:jdd b=((df1 b (drZ b) b 0 (-1) (-1)).1&&d2Go (drZ b) (df1 b (drZ b) b 0 (-1) (-1)).2.1 (b.take (df1 b (drZ b) b 0 (-1) (-1)).2.2.toNat) 0):=by
   have:(drZ b==0)=false:=by simpa using hd
   rw[jdd,this,Bool.false_or]
  by_cases ho:∃x∈ [36,83,43,(45:Int)],x≠drZ b∧ ¬(cntZ b x:Int)<2
  ·obtain⟨x,x1,x2,x3⟩:=ho;have e1:(nD b).1=false:=drf_two h4 x1 m1 x2 x3 m2
   have e2:(df1 b (drZ b) b 0 (-1) (-1)).1=false:=by
    rw[jgd,List.all_eq_false];refine⟨x,jhd x3,?_⟩;rw[(jia x1).2 x3];simpa using x2
   rw[hz,e1,e2];exact⟨rfl,fun q=>by cases q⟩
  ·have ho:∀x∈ [36,83,43,(45:Int)],x≠drZ b→(cntZ b x:Int)<2:=fun x x1 x2=>by
    cases hq:decide ((cntZ b x:Int)<2)with
    | true=>exact jab hq
    | false=>exact absurd ⟨x,x1,x2,jac hq⟩ ho
   have e1:nD b=bif drC b (drZ b)then(true,drZ b,idxZ b (drZ b))else(false,0,0):=drf_one (by decide) m1 m2 ho
   have e2:(df1 b (drZ b) b 0 (-1) (-1)).1=true:=by
    rw[jgd,List.all_eq_true];intro x _;by_cases q:x=drZ b
    ·rw[q];simp
    ·have:flg b x=false:=by
      cases hh:flg b x with
      | false=>rfl
      | true=>obtain⟨a1,a2⟩:=jf9 hh;exact absurd (ho x a1 q) a2
     rw[this];simp
   obtain⟨q1,q2⟩:=jjc b (drZ b) b 0 (-1) (-1) (by omega) e2;rw[if_pos (by omega),if_pos hm,Int.zero_add]at q1;rw[if_pos hm,Int.zero_add]at q2;rw[hz,e1,e2,q1,q2,d2_drC hm,Bool.true_and];cases drC b (drZ b)with
   | false=>exact⟨rfl,fun q=>by cases q⟩
   | true=>exact⟨rfl,fun _=>⟨rfl,by rw[if_neg hd];rfl⟩⟩
def rmk(r:Int):Int:=[100,99,118,105,115,109].getD r.toNat 0
theorem ro_rng(d f c i:Int):0≤roP d f c i∧roP d f c i≤5:=by
 unfold roP;cases hasZ [57,89,84,73,82] c<;>cases(c==90 || (c==42 || (c==d&&i !=f))) <;>cases c==86<;>cases c==36<;>cases(c==83 || (c==43 || c==45)) <;>simp
theorem idx_app(d:Int):∀x y:E,idxZ (x++y) d=if d∈x then idxZ x d else if d∈y then x.length+idxZ y d else -1
 | [],y=>by
  simp only[List.nil_append,List.not_mem_nil,if_false,List.length_nil];split
  ·omega
  ·rename_i h;have h:¬0≤idxZ y d:=fun q=>h ((jfe d y).2.1 q)
   have:=(jfe d y).1;omega
 | c::x,y=>by
  have ih:=idx_app d x y;rw[List.cons_append,idxZ,idxZ];by_cases hc:c=d
  ·rw[if_pos hc,if_pos hc,if_pos (by rw[hc];exact List.mem_cons_self ..)]
  ·rw[if_neg hc,if_neg hc,ih]
   have hm:d∈c::x↔d∈x:=by
    rw[List.mem_cons];exact⟨fun q=>q.resolve_left fun e=>hc e.symm,.inr⟩
   simp only[hm];by_cases hx:d∈x
   ·rw[if_pos hx,if_pos hx]
   ·rw[if_neg hx,if_neg hx];by_cases hy:d∈y
    ·have:=je5 d hy;rw[if_pos hy,if_pos hy,if_neg (by omega)];simp only[List.length_cons];omega
    ·rw[if_neg hy,if_neg hy,if_pos rfl]
structure DrP (b:E)(d f:Int):Prop where
 zero:∀c∈b,c≠0
 at_:d=0∧f= -1∨d≠0∧d∈b∧f=idxZ b d∧d∈ [36,83,43,(45:Int)]
theorem DrP.eq{b pre r:E}{c d f:Int}(h:DrP b d f)(hb:b=pre++c::r):(c=d∧(pre.length:Int)≠f↔c=d∧d≠0∧d∈pre)∧((pre.length:Int)=f↔c=d∧d∉pre):=by
 have hc0:=h.zero c (by rw[hb];simp);rcases h.at_ with⟨rfl,rfl⟩ | ⟨h1,h2,h3,_⟩
 ·exact⟨⟨fun q=>absurd q.1 hc0,fun q=>absurd q.1 hc0⟩,⟨fun q=>by omega,fun q=>absurd q.1 hc0⟩⟩
 ·rw[hb,idx_app]at h3;by_cases hp:d∈pre
  ·rw[if_pos hp]at h3;have:=je5 d hp;exact⟨⟨fun q=>⟨q.1,h1,hp⟩,fun q=>⟨q.1,by omega⟩⟩,⟨fun q=>by omega,fun q=>absurd hp q.2⟩⟩
  ·rw[if_neg hp]at h3;rw[hb]at h2;have hd:d∈c::r:=by rcases List.mem_append.1 h2 with q | q;exact absurd q hp;exact q
   rw[if_pos hd,idxZ]at h3;by_cases hc:c=d
   ·rw[if_pos hc]at h3;exact⟨⟨fun q=>absurd h3 (by omega),fun q=>absurd q.2.2 hp⟩,⟨fun _=>⟨hc,hp⟩,fun _=>by omega⟩⟩
   ·rw[if_neg hc]at h3;have hr:d∈r:=by rcases List.mem_cons.1 hd with q | q;exact absurd q.symm hc;exact q
    have:=je5 d hr;rw[if_neg (by omega)]at h3;exact⟨⟨fun q=>absurd q.1 hc,fun q=>absurd q.1 hc⟩,⟨fun q=>by omega,fun q=>absurd q.1 hc⟩⟩
theorem mk_ro{b pre r:E}{c d f:Int}(h:DrP b d f)(hb:b=pre++c::r):rmk (roP d f c pre.length)=mk1 d (d !=0&&decide (d∈pre)) c:=by
 have e:(c==90 || (c==42 || (c==d&& (pre.length:Int) !=f)))=(hasZ [90,42] c || (d !=0&& (c==d&& (d !=0&&decide (d∈pre))))):=by
  have:=(h.eq hb).1;rw[Bool.eq_iff_iff];simp only[Bool.or_eq_true,jaf,beq_iff_eq,bne_iff_ne,jae,jb2,List.mem_cons,List.not_mem_nil,or_false];rw[this];constructor
  ·rintro (q | q | ⟨q1,q2,q3⟩)
   ·exact .inl (.inl q)
   ·exact .inl (.inr q)
   ·exact .inr ⟨q2,q1,q2,q3⟩
  ·rintro ((q | q) | ⟨q2,q1,_,q3⟩)
   ·exact .inl q
   ·exact .inr (.inl q)
   ·exact .inr (.inr ⟨q1,q2,q3⟩)
 have e2:(c==83 || (c==43 || c==45))=hasZ [83,43,45] c:=by
  rw[Bool.eq_iff_iff];simp only[Bool.or_eq_true,beq_iff_eq,jb2,List.mem_cons,List.not_mem_nil,or_false]
 unfold roP mk1;rw[e,e2];cases hasZ [57,89,84,73,82] c<;>cases(hasZ [90,42] c || (d !=0&& (c==d&& (d !=0&&decide (d∈pre))))) <;>cases c==86<;>cases c==36<;>cases hasZ [83,43,45] c<;>rfl
theorem roles_marks{b:E}{d f:Int}(h:DrP b d f):∀r pre:E,b=pre++r→(ja5 d f r pre.length).map rmk=mkGo d (d !=0&&decide (d∈pre)) r
 | [],_,_=>rfl
 | c::r,pre,hb=>by
  rw[ja5,List.map_cons,mkGo,mk_ro h hb];congr 1;have ih:=roles_marks h r (pre++ [c]) (by rw[hb];simp);have e:((pre++ [c]).length:Int)=pre.length+1:=by simp
  have e2:(d !=0&&decide (d∈pre++ [c]))=(d !=0&&decide (d∈pre) || (d !=0&&c==d)):=by
   rw[Bool.eq_iff_iff];simp only[Bool.or_eq_true,jaf,beq_iff_eq,bne_iff_ne,jae,List.mem_append,List.mem_cons,List.not_mem_nil,or_false];constructor
   ·rintro ⟨q,q2 | q2⟩
    ·exact .inl ⟨q,q2⟩
    ·exact .inr ⟨q,q2.symm⟩
   ·rintro (⟨q,q2⟩ | ⟨q,q2⟩)
    ·exact⟨q,.inl q2⟩
    ·exact⟨q,.inr q2.symm⟩
  rw[e,e2]at ih;exact ih
def okR(rs:E):Prop:=∀r∈rs,0≤r∧r≤5
theorem roles_ok(d f:Int):∀(l:E)(i:Int),okR (ja5 d f l i)
 | [],_=>fun r h=>by cases h
 | c::l,i=>fun r h=>by
  rw[ja5]at h;rcases List.mem_cons.1 h with rfl | h
  ·exact ro_rng _ _ _ _
  ·exact roles_ok d f l _ r h
theorem jf0{r:Int}(h:0≤r∧r≤5):r=0∨r=1∨r=2∨r=3∨r=4∨r=5:=by omega
def qgo:E→Int→Int
 | [],_=>0
 | m::r,p=>bif m==118 then qgo r (p+1)else(bif isP m then p else 0)+qgo r p
theorem ji4:∀(rs:E)(a:PlS),okR rs→0≤a.pts→0≤a.fm→
  (plGo rs a).1=(ldGo (rs.map rmk) (decide (a.fm>0)) a.bh (decide (a.pts>0)) a.dg).1∧
  ((plGo rs a).1 = true → (plGo rs a).2.dg = (ldGo (rs.map rmk) (decide (a.fm>0)) a.bh (decide (a.pts>0)) a.dg).2.2.2 ∧ (plGo rs a).2.bh = (ldGo (rs.map rmk) (decide (a.fm>0)) a.bh (decide (a.pts>0)) a.dg).2.2.1 ∧
   decide ((plGo rs a).2.fm>0)=(ldGo (rs.map rmk) (decide (a.fm>0)) a.bh (decide (a.pts>0)) a.dg).2.1∧(plGo rs a).2.pts=a.pts+cntZ (rs.map rmk) 118∧(plGo rs a).2.w=a.w+nv (rs.map rmk)∧
   (plGo rs a).2.q=a.q+qgo (rs.map rmk) a.pts∧(plGo rs a).2.fm=a.fm+cntZ (rs.map rmk) 100)
 | [],a,_,_,_=>by simp[plGo,ldGo,cntZ,nv,qgo]
 | r::rs,a,hok,hp,hf=>by
  have hr:=hok r (List.mem_cons_self ..);have hrs:okR rs:=fun x hx=>hok x (List.mem_cons_of_mem _ hx)
  have i1:=ji4 rs ⟨a.pts+1,a.bh,a.w,a.dg,a.q,a.fm⟩ hrs (by simp only;omega) hf;have i2:=ji4 rs ⟨a.pts,a.bh,a.w+1,a.dg+1,a.q+a.pts,a.fm+1⟩ hrs hp (by simp only;omega);have i3:=ji4 rs ⟨a.pts,a.bh || decide (a.pts>0),a.w+1,a.dg+1,a.q+a.pts,a.fm⟩ hrs hp hf;have i4:=ji4 rs ⟨a.pts,a.bh,a.w+1,a.dg,a.q,a.fm⟩ hrs hp hf
  have cc:∀(m x:Int),(cntZ (m::rs.map rmk) x:Int)=(if m=x then 1 else 0)+cntZ (rs.map rmk) x:=fun m x=>by
   unfold cntZ;rw[List.filter_cons];by_cases h:m=x
   ·rw[if_pos (by simpa using h),if_pos h,List.length_cons];omega
   ·rw[if_neg (by simpa using h),if_neg h];omega
  have cn:∀m:Int,(nv (m::rs.map rmk):Int)=(if m=118 then 0 else 1)+nv (rs.map rmk):=fun m=>by
   rw[nv_cons];split<;>omega
  rw[List.map_cons,cc,cc,cn];rcases jf0 hr with rfl | rfl | rfl | rfl | rfl | rfl
  ·have e:rmk 0=100:=rfl;rw[e];simp only[jaa (show a.fm+1>0 by omega)]at i2;refine⟨i2.1,fun h=> ?_⟩;obtain⟨q1,q2,q3,q4,q5,q6,q7⟩:=i2.2 h;refine⟨q1,q2,q3,?_,?_,?_,?_⟩
   ·exact q4.trans (by simp)
   ·exact q5.trans (by simp;omega)
   ·refine q6.trans ?_;show a.q+a.pts+qgo (rs.map rmk) a.pts=a.q+(a.pts+qgo (rs.map rmk) a.pts)
    omega
   ·exact q7.trans (by simp;omega)
  ·have e:rmk 1=99:=rfl;rw[e];have e1:plGo (1::rs) a=bif decide (a.fm>0)then(false,a)else plGo rs ⟨a.pts,a.bh || decide (a.pts>0),a.w+1,a.dg+1,a.q+a.pts,a.fm⟩:=rfl;have e2:ldGo (99::rs.map rmk) (decide (a.fm>0)) a.bh (decide (a.pts>0)) a.dg=bif decide (a.fm>0)then(false,false,false,0)else ldGo (rs.map rmk) (decide (a.fm>0)) (a.bh || decide (a.pts>0)) (decide (a.pts>0)) (a.dg+1):=rfl;rw[e1,e2];cases hd:decide (a.fm>0)with
   | true=>exact⟨rfl,fun h=>by cases h⟩
   | false=>
    simp only[hd]at i3;refine⟨i3.1,fun h=> ?_⟩;obtain⟨q1,q2,q3,q4,q5,q6,q7⟩:=i3.2 h;refine⟨q1,q2,q3,?_,?_,?_,?_⟩
    ·exact q4.trans (by simp)
    ·exact q5.trans (by simp;omega)
    ·refine q6.trans ?_;show a.q+a.pts+qgo (rs.map rmk) a.pts=a.q+(a.pts+qgo (rs.map rmk) a.pts)
     omega
    ·exact q7.trans (by simp)
  ·have e:rmk 2=118:=rfl;rw[e];simp only[jaa (show a.pts+1>0 by omega)]at i1;refine⟨i1.1,fun h=> ?_⟩;obtain⟨q1,q2,q3,q4,q5,q6,q7⟩:=i1.2 h;refine⟨q1,q2,q3,?_,?_,q6,?_⟩
   ·exact q4.trans (by simp;omega)
   ·exact q5.trans (by simp)
   ·exact q7.trans (by simp)
  all_goals
   refine⟨i4.1,fun h=> ?_⟩;obtain⟨q1,q2,q3,q4,q5,q6,q7⟩:=i4.2 h;refine⟨q1,q2,q3,?_,?_,?_,?_⟩
   ·exact q4.trans (by simp[rmk])
   ·exact q5.trans (by simp[rmk];omega)
   ·refine q6.trans ?_;show a.q+qgo (rs.map rmk) a.pts=a.q+(0+qgo (rs.map rmk) a.pts)
    omega
   ·exact q7.trans (by simp[rmk])
theorem ro_isJ{b pre r:E}{c d f:Int}(h:DrP b d f)(hb:b=pre++c::r):(rmk (roP d f c pre.length)==100 || (rmk (roP d f c pre.length)==99 || c==d))=(roP d f c pre.length==0 || (roP d f c pre.length==1 || (pre.length:Int)==f)):=by
 obtain⟨h1,h2⟩:=h.eq hb;have hr:=ro_rng d f c pre.length
 have e100:(rmk (roP d f c pre.length)==100)=(roP d f c pre.length==0):=by
  rcases jf0 hr with q | q | q | q | q | q<;>rw[q] <;>rfl
 have e99:(rmk (roP d f c pre.length)==99)=(roP d f c pre.length==1):=by
  rcases jf0 hr with q | q | q | q | q | q<;>rw[q] <;>rfl
 rw[e100,e99];by_cases hf:(pre.length:Int)=f
 ·obtain⟨q1,_⟩:=h2.1 hf;have a1:((pre.length:Int)==f)=true:=by simpa using hf
  have a2:(c==d)=true:=by simpa using q1
  rw[a1,a2]
 ·have a1:((pre.length:Int)==f)=false:=by simpa using hf
  rw[a1];by_cases hc:c=d
  ·-- then a leader
   by_cases h0:(roP d f c pre.length==0)=true
   ·rw[h0];rfl
   ·have hl:roP d f c pre.length=1:=by
     have e:(c==90 || (c==42 || (c==d&& (pre.length:Int) !=f)))=true:=by
      have a3:((pre.length:Int) !=f)=true:=by simpa using hf
      have a2:(c==d)=true:=by simpa using hc
      rw[a2,a3];simp
     unfold roP at h0 ⊢;rw[e]at h0 ⊢;cases hq:hasZ [57,89,84,73,82] c with
     | true=>rw[hq]at h0;exact absurd rfl h0
     | false=>rfl
    rw[hl];simp
  ·have a2:(c==d)=false:=by simpa using hc
   rw[a2]
theorem st_in{b:E}{d f x:Int}(h:DrP b d f):∀(r pre:E)(lo hi:Int),b=pre++r→
  stIn d x r ((ja5 d f r pre.length).map rmk) pre.length (decide (lo<x)) (decide (hi>x))=(decide (loGo f (ja5 d f r pre.length) pre.length lo<x),decide (hiGo f (ja5 d f r pre.length) pre.length hi>x))
 | [],pre,lo,hi,_=>by simp[stIn,ja5,loGo,hiGo]
 | c::r,pre,lo,hi,hb=>by
  have ih:=fun lo hi=>st_in (x:=x) h r (pre++ [c]) lo hi (by rw[hb];simp)
  have e:((pre++ [c]).length:Int)=pre.length+1:=by simp
  rw[e]at ih;rw[ja5,List.map_cons,stIn,loGo,hiGo,ro_isJ h hb];cases(roP d f c pre.length==0 || (roP d f c pre.length==1 || (pre.length:Int)==f))with
  | false=>rw[cond_false,cond_false,cond_false,ih]
  | true=>
   rw[cond_true,cond_true,cond_true,←ih]
   have e1:(decide (lo<x) || decide ((pre.length:Int)<x))=decide (imin lo pre.length<x):=by
    rw[Bool.eq_iff_iff];simp only[Bool.or_eq_true,jae];unfold imin;split<;>omega
   have e2:(decide (hi>x) || decide ((pre.length:Int)>x))=decide (imax hi pre.length>x):=by
    rw[Bool.eq_iff_iff];simp only[Bool.or_eq_true,jae];unfold imax;split<;>omega
   rw[e1,e2]
theorem ro_still{b pre r:E}{c d f:Int}(h:DrP b d f)(hb:b=pre++c::r):((roP d f c pre.length==4 || roP d f c pre.length==5) && (pre.length:Int) !=f)=(hasZ [36,83,43,45] c&& !(c==d)):=by
 obtain⟨h1,h2⟩:=h.eq hb;by_cases hc:c=d
 ·have a2:(c==d)=true:=by simpa using hc
  rw[a2,Bool.not_true,Bool.and_false];by_cases hf:(pre.length:Int)=f
  ·have a1:((pre.length:Int) !=f)=false:=by simpa using hf
   rw[a1,Bool.and_false]
  ·have a3:((pre.length:Int) !=f)=true:=by simpa using hf
   have e:(c==90 || (c==42 || (c==d&& (pre.length:Int) !=f)))=true:=by rw[a2,a3];simp
   unfold roP;rw[e];cases hasZ [57,89,84,73,82] c<;>rfl
 ·have a2:(c==d)=false:=by simpa using hc
  have hf:¬(pre.length:Int)=f:=fun q=>hc (h2.1 q).1
  have a3:((pre.length:Int) !=f)=true:=by simpa using hf
  rw[a2,a3,Bool.and_true,Bool.not_false,Bool.and_true];have e:(c==90 || (c==42 || (c==d&& (pre.length:Int) !=f)))=(c==90 || c==42):=by rw[a2];simp
  unfold roP;rw[e];by_cases m:c∈ [36,83,43,(45:Int)]
  ·have:c=36∨c=83∨c=43∨c=45:=by simpa using m
   rcases this with rfl | rfl | rfl | rfl<;>rfl
  ·have hm:hasZ [36,83,43,45] c=false:=by
    cases q:hasZ [36,83,43,45] c with
    | false=>rfl
    | true=>exact absurd (jb2.1 q) m
   rw[hm];simp only[List.mem_cons,List.not_mem_nil,or_false,not_or]at m;have b1:(c==36)=false:=by simpa using m.1
   have b2:(c==83 || (c==43 || c==45))=false:=by simp[m.2.1,m.2.2.1,m.2.2.2]
   rw[b1,b2];cases hasZ [57,89,84,73,82] c<;>cases(c==90 || c==42) <;>cases c==86<;>rfl
theorem st_law{b ms:E}{d f lo hi:Int}(h:DrP b d f)(hin:∀x:Int,0≤x→x≤b.length→stIn d x b ms 0 false false=(decide (lo<x),decide (hi>x))):∀(r pre:E),b=pre++r→
  stP f lo hi (ja5 d f r pre.length) pre.length=stGo d b ms r pre.length
 | [],_,_=>rfl
 | c::r,pre,hb=>by
  have ih:=st_law h hin r (pre++ [c]) (by rw[hb];simp);have e:((pre++ [c]).length:Int)=pre.length+1:=by simp
  rw[e]at ih;have hl:(b.length:Int)=pre.length+1+r.length:=by rw[hb];simp;omega
  rw[ja5,stP,stGo,ih,hin _ (by omega) (by omega)];congr 1;have s:=ro_still h hb
  have e3:((roP d f c pre.length==4 || roP d f c pre.length==5) && ((pre.length:Int) !=f&& (decide ((pre.length:Int)>lo) &&decide ((pre.length:Int)<hi))))=(((roP d f c pre.length==4 || roP d f c pre.length==5) && (pre.length:Int) !=f) && (decide (lo<(pre.length:Int)) &&decide (hi>(pre.length:Int)))):=by
   rw[Bool.and_assoc]
  rw[e3,s];cases hasZ [36,83,43,45] c<;>cases(c==d) <;>rfl
theorem jdc(c x:Int)(l:E):(cntZ (c::l) x:Int)=(if c=x then 1 else 0)+cntZ l x:=by
 unfold cntZ;rw[List.filter_cons];by_cases h:c=x
 ·rw[if_pos (by simpa using h),if_pos h,List.length_cons];omega
 ·rw[if_neg (by simpa using h),if_neg h];omega
theorem has_cons(c x:Int)(l:E):hasZ (c::l) x=(c==x || hasZ l x):=rfl
def sgX(d x:Int)(pre r:E):Int:=if x=d then(if d∈pre then 0 else b2i (hasZ r x))else cntZ r x
theorem jgt{d x c:Int}{pre r:E}:sgX d x pre (c::r)=(if c=x∧ ¬(x=d∧d∈pre)then 1 else 0)+sgX d x (pre++ [c]) r:=by
 unfold sgX;by_cases hx:x=d
 ·rw[if_pos hx,if_pos hx];by_cases hp:d∈pre
  ·have hp2:d∈pre++ [c]:=List.mem_append.2 (.inl hp);rw[if_pos hp,if_pos hp2,if_neg (fun q=>q.2 ⟨hx,hp⟩)];rfl
  ·rw[if_neg hp,has_cons];by_cases hc:c=x
   ·have hp2:d∈pre++ [c]:=List.mem_append.2 (.inr (by rw[hc,hx];exact List.mem_singleton.2 rfl));rw[if_pos ⟨hc,fun q=>hp q.2⟩,if_pos hp2];have:(c==x)=true:=by simpa using hc
    rw[this];rfl
   ·have:(c==x)=false:=by simpa using hc
    have hp2:d∉pre++ [c]:=fun q=>by
     rcases List.mem_append.1 q with q | q
     ·exact hp q
     ·exact hc (by rw[hx];exact(List.mem_singleton.1 q).symm)
    rw[if_neg (fun q=>hc q.1),if_neg hp2,this,Bool.false_or];omega
 ·rw[if_neg hx,if_neg hx,jdc];by_cases hc:c=x
  ·rw[if_pos hc,if_pos ⟨hc,fun q=>hx q.1⟩]
  ·rw[if_neg hc,if_neg (fun q=>hc q.1)]
theorem si_law{b:E}{d f:Int}(h:DrP b d f):∀(r pre:E),b=pre++r→
  siGo r (ja5 d f r pre.length)=sgX d 83 pre r+sgX d 43 pre r+sgX d 45 pre r+cntZ r 84+cntZ r 73+cntZ r 82
 | [],pre,_=>by
  have:∀x,sgX d x pre []=0:=fun x=>by unfold sgX;split<;>(try split) <;>rfl
  rw[this,this,this];rfl
 | c::r,pre,hb=>by
  have ih:=si_law h r (pre++ [c]) (by rw[hb];simp);have e:((pre++ [c]).length:Int)=pre.length+1:=by simp
  rw[e]at ih;rw[ja5,siGo,ih,jgt,jgt,jgt,jdc,jdc,jdc]
  have key:(bif roP d f c pre.length==4 || hasZ [84,73,82] c then(1:Int)else 0)=(if c=83∧ ¬((83:Int)=d∧d∈pre)then 1 else 0)+(if c=43∧ ¬((43:Int)=d∧d∈pre)then 1 else 0)+(if c=45∧ ¬((45:Int)=d∧d∈pre)then 1 else 0)+(if c=84 then 1 else 0)+(if c=73 then 1 else 0)+(if c=82 then 1 else 0):=by
   obtain⟨h1,h2⟩:=h.eq hb;by_cases m:c=83∨c=43∨c=45
   ·-- a sign
    have hc0:c≠0:=by omega
    have hl:(c=d∧(pre.length:Int)≠f)↔(c=d∧d∈pre):=by
     rw[h1];exact⟨fun q=>⟨q.1,q.2.2⟩,fun q=>⟨q.1,by rw[←q.1];exact hc0,q.2⟩⟩
    by_cases hs:c=d∧d∈pre
    ·have hq:=hl.2 hs;have e1:(c==d&& (pre.length:Int) !=f)=true:=by simpa using hq
     have hr:roP d f c pre.length=1:=by
      unfold roP;rw[e1];rcases m with rfl | rfl | rfl<;>simp<;>rfl
     rw[hr];rcases m with rfl | rfl | rfl
     ·rw[if_neg (fun q=>q.2 hs)];rfl
     ·rw[if_neg (fun q=>by omega),if_neg (fun q=>q.2 hs)];rfl
     ·rw[if_neg (fun q=>by omega),if_neg (fun q=>by omega),if_neg (fun q=>q.2 hs)];rfl
    ·have hq:¬(c=d∧(pre.length:Int)≠f):=fun q=>hs (hl.1 q)
     have e1:(c==d&& (pre.length:Int) !=f)=false:=by
      cases q:(c==d&& (pre.length:Int) !=f)with
      | false=>rfl
      | true=>exact absurd (by simpa using q) hq
     have hr:roP d f c pre.length=4:=by
      unfold roP;rw[e1];rcases m with rfl | rfl | rfl<;>rfl
     rw[hr];rcases m with rfl | rfl | rfl
     ·rw[if_pos ⟨rfl,hs⟩];rfl
     ·rw[if_neg (fun q=>by omega),if_pos ⟨rfl,hs⟩];rfl
     ·rw[if_neg (fun q=>by omega),if_neg (fun q=>by omega),if_pos ⟨rfl,hs⟩];rfl
   ·have hr:(roP d f c pre.length==4)=false:=by
     have e2:(c==83 || (c==43 || c==45))=false:=by simp;omega
     unfold roP;rw[e2];cases hasZ [57,89,84,73,82] c<;>cases(c==90 || (c==42 || (c==d&& (pre.length:Int) !=f))) <;>cases c==86<;>cases c==36<;>rfl
    rw[hr,Bool.false_or,if_neg (fun q=>by omega),if_neg (fun q=>by omega),if_neg (fun q=>by omega)];by_cases k:c=84∨c=73∨c=82
    ·rcases k with rfl | rfl | rfl<;>rfl
    ·have:hasZ [84,73,82] c=false:=by
      cases q:hasZ [84,73,82] c with
      | false=>rfl
      | true=>rw[jb2]at q;simp at q;omega
     rw[this,if_neg (by omega),if_neg (by omega),if_neg (by omega)];rfl
  rw[key];omega
theorem cnt_app'(a b:E)(c:Int):(cntZ (a++b) c:Int)=cntZ a c+cntZ b c:=by rw[cnt_app];omega
theorem mk_118{dr:Int}(hd:dr=0∨hasZ [36,83,43,45] dr=true):∀(l:E)(seen:Bool),(cntZ (mkGo dr seen l) 118:Int)=cntZ l 86
 | [],_=>rfl
 | c::r,seen=>by
  have hm:=ji5 hd seen c;rw[mkGo,jdc,jdc,mk_118 hd r];by_cases h:c=86
  ·rw[if_pos h,if_pos (hm.2 h)]
  ·rw[if_neg h,if_neg fun e=>h (hm.1 e)]
theorem has_cnt{l:E}{c:Int}(h:(cntZ l c:Int)≤1):(cntZ l c:Int)=b2i (hasZ l c):=by
 induction l with
 | nil=>rfl
 | cons x l ih=>
  rw[jdc]at h ⊢;rw[has_cons];by_cases hx:x=c
  ·have:(x==c)=true:=by simpa using hx
   rw[if_pos hx]at h ⊢;rw[this,Bool.true_or];have:(cntZ l c:Int)=0:=by omega
   rw[this];rfl
  ·have:(x==c)=false:=by simpa using hx
   rw[if_neg hx]at h ⊢;rw[this,Bool.false_or,Int.zero_add];exact ih (by omega)
theorem q_law{dr:Int}(hd:dr=0∨hasZ [36,83,43,45] dr=true){l t:E}:∀(r pre:E)(seen:Bool),l=pre++r++t→(cntZ (pre++r) 86:Int)≤1→
  qgo (mkGo dr seen r) (cntZ pre 86)=pqGo l (mkGo dr seen r) pre.length
 | [],_,_,_,_=>rfl
 | c::r,pre,seen,hl,hc=>by
  have ih:=q_law hd (l:=l) (t:=t) r (pre++ [c]) (seen || (dr !=0&&c==dr)) (by rw[hl];simp) (by simpa using hc);have hm:=ji5 hd seen c;have e:((pre++ [c]).length:Int)=pre.length+1:=by simp
  have hk:(cntZ pre 86:Int)≤1:=by
   rw[cnt_app']at hc;omega
  have ht:l.take (pre.length:Int).toNat=pre:=by
   rw[hl,Int.toNat_natCast,List.append_assoc];simp
  rw[cnt_app',e]at ih
  have e1:(cntZ [c] 86:Int)=if c=86 then 1 else 0:=by
   have:=jdc c 86 [];rw[this];have:(cntZ [] 86:Int)=0:=rfl;omega
  rw[e1]at ih;rw[mkGo,qgo,pqGo,ht,←ih];by_cases h:c=86
  ·have hm2:=hm.2 h;rw[hm2];have:isP 118=false:=rfl;rw[this,if_pos h];show qgo _ _=0+qgo _ _;rw[Int.zero_add]
  ·have hn:(mk1 dr seen c==118)=false:=by
    cases q:(mk1 dr seen c==118)with
    | false=>rfl
    | true=>exact absurd (hm.1 (eq_of_beq q)) h
   rw[hn,cond_false,if_neg h,Int.add_zero,has_cnt hk];cases isP (mk1 dr seen c) <;>cases hasZ pre 86<;>rfl
theorem pq_app(s:E):∀(a b:E)(i:Int),pqGo s (a++b) i=pqGo s a i+pqGo s b (i+a.length)
 | [],b,i=>by simp[pqGo]
 | m::a,b,i=>by
  rw[List.cons_append,pqGo,pqGo,pq_app s a b,List.length_cons];have:i+1+(a.length:Int)=i+((a.length+1:Nat):Int):=by omega
  rw[this];omega
theorem char_any{l:E}(h:(jam l).any (hasZ [65,88,67,68])=false):jgj l=false:=by
 cases hc:jgj l with
 | false=>rfl
 | true=>
  exfalso;simp only[jgj,jaf,List.all_eq_true,Bool.or_eq_true]at hc;obtain⟨h1,h2⟩:=hc
  have hcr:crZ l=false:=by
   cases q:crZ l with
   | false=>rfl
   | true=>
    exfalso;simp only[crZ,jaf,Bool.or_eq_true,jae]at q;rcases q.2 with q | q
    ·have hm:(67:Int)∈l.drop (l.length-2):=by rw[q];simp
     exact absurd (h1 _ (List.mem_of_mem_drop hm)) (by decide)
    ·have hm:(68:Int)∈l.drop (l.length-2):=by rw[q];simp
     exact absurd (h1 _ (List.mem_of_mem_drop hm)) (by decide)
  have hb:jam l=l:=by rw[jgf hcr];rfl
  rw[hb,List.any_eq_false]at h;rcases h2 with q | q
  ·exact h 65 (jb2.1 q) (by decide)
  ·exact h 88 (jb2.1 q) (by decide)
structure NumL (l:E):Prop where
 drP:DrP (jam l) (drZ (jam l)) (nD (jam l)).2.2
 d:(nD (jam l)).2.1=drZ (jam l)
 roles:(nR (jam l)).map rmk=mkGo (drZ (jam l)) false (jam l)
 ok:okR (nR (jam l))
 w:(nP (jam l)).2.w+(bif crZ l then 2 else 0)=l.length-cntZ l 86
 dg:(nP (jam l)).2.dg=pdGo (jcg l)
 q:(nP (jam l)).2.q=pqGo l (jcg l) 0
 g:nG (jam l) (crZ l)=jey l
 fm:(nP (jam l)).2.fm=cntZ (mkGo (drZ (jam l)) false (jam l)) 100
theorem num_law{l:E}(hz:∀c∈jam l,c≠0):numQ (jam l) (crZ l)=numV l∧(numV l=true→NumL l):=by
 cases hA:anyZ (jam l) [65,88,67,68]with
 | true=>
  have hA':(jam l).any (hasZ [65,88,67,68])=true:=hA;have e1:numQ (jam l) (crZ l)=false:=by rw[numQ,hA];rfl
  have e2:numV l=false:=by rw[numV,hA'];cases jgj l<;>rfl
  rw[e1,e2];exact⟨rfl,fun h=>by cases h⟩
 | false=>
  have hA':(jam l).any (hasZ [65,88,67,68])=false:=hA;have hch:=char_any hA';obtain⟨d1,d2⟩:=nD_law (jam l);cases hD:jdd (jam l)with
  | false=>
   have e1:numQ (jam l) (crZ l)=false:=by rw[numQ,d1,hD];simp
   have e2:numV l=false:=by rw[numV,hD];simp
   rw[e1,e2];exact⟨rfl,fun h=>by cases h⟩
  | true=>
   obtain⟨d2,d3⟩:=d2 hD
   have hP:DrP (jam l) (drZ (jam l)) (nD (jam l)).2.2:=by
    refine⟨hz,?_⟩;by_cases h0:drZ (jam l)=0
    ·rw[if_pos h0]at d3;exact .inl ⟨h0,d3⟩
    ·rw[if_neg h0]at d3;obtain⟨f1,f2⟩:=(jgc (jam l) (jam l)).resolve_left h0;exact .inr ⟨h0,f2,d3,(jf9 f1).1⟩
   have hd:drZ (jam l)=0∨hasZ [36,83,43,45] (drZ (jam l))=true:=(jib _ _).imp id And.left;have eR:nR (jam l)=ja5 (drZ (jam l)) (nD (jam l)).2.2 (jam l) 0:=by rw[nR,d2]
   have hroles:(nR (jam l)).map rmk=mkGo (drZ (jam l)) false (jam l):=by
    have:=roles_marks hP (jam l) [] rfl;rw[eR];simpa using this
   have hok:okR (nR (jam l)):=by rw[eR];exact roles_ok _ _ _ _
   obtain⟨p1,p2⟩:=ji4 (nR (jam l)) ⟨0,false,0,0,0,0⟩ hok (by simp only;omega) (by simp only;omega);simp only[hroles]at p1 p2;have z0:decide ((0:Int)>0)=false:=rfl;rw[z0]at p1 p2;rw[mk_118 hd]at p2;have p1:(nP (jam l)).1=(ldGo (mkGo (drZ (jam l)) false (jam l)) false false false 0).1:=p1
   have eSt:nSt (jam l)=(hasZ (jam l) 90&&hasZ (jam l) 42 || (hasZ (jam l) 90 || hasZ (jam l) 42) &&drZ (jam l) !=0):=by
    rw[nSt,d2];cases hasZ (jam l) 42<;>cases hasZ (jam l) 90<;>rfl
   have eS:nS (jam l)=jhj (jam l) (mkGo (drZ (jam l)) false (jam l)):=by
    have hin:∀x:Int,0≤x→x≤(jam l).length→stIn (drZ (jam l)) x (jam l) (mkGo (drZ (jam l)) false (jam l)) 0 false false=
      (decide (loGo (nD (jam l)).2.2 (nR (jam l)) 0 (jam l).length<x),decide (hiGo (nD (jam l)).2.2 (nR (jam l)) 0 (-1)>x)):=fun x h0 h1=>by
     have:=st_in (x:=x) hP (jam l) [] (jam l).length (-1) rfl;rw[jad (show¬((jam l).length:Int)<x by omega),jad (show¬(-1:Int)>x by omega)]at this;rw[←hroles,eR];exact this
    rw[nS,jhj];have:=st_law hP hin (jam l) [] rfl;rw[eR];rw[eR]at this;exact this
   have eG:nG (jam l) (crZ l)=jey l:=by
    have hs:=si_law hP (jam l) [] rfl
    have one:∀x∈ [36,83,43,(45:Int)],x≠drZ (jam l)→(cntZ (jam l) x:Int)≤1:=fun x hx hne=>by
     cases hq:decide ((cntZ (jam l) x:Int)<2)with
     | true=>have:=jab hq;omega
     | false=>
      have hf:=(jia hx).2 (jac hq);have hm:=jhd (jf9 hf).2;have h0:drZ (jam l)≠0:=jic (jam l) hf (jam l) hm;have h0':(drZ (jam l)==0)=false:=by simpa using h0
      rw[jdd,h0',Bool.false_or,jaf,jgd,List.all_eq_true]at hD;have:=hD.1 x hm;rw[hf]at this;simp only[Bool.not_true,Bool.or_false,beq_iff_eq]at this;exact absurd this hne
    have sx:∀x∈ [36,83,43,(45:Int)],sgX (drZ (jam l)) x [] (jam l)=b2i (hasZ (jam l) x):=fun x hx=>by
     unfold sgX;split
     ·simp
     ·rename_i hne;exact has_cnt (one x hx hne)
    rw[sx 83 (by simp),sx 43 (by simp),sx 45 (by simp)]at hs;rw[nG,jey,eR];have hs':siGo (jam l) (ja5 (drZ (jam l)) (nD (jam l)).2.2 (jam l) 0)=_:=hs;rw[hs'];cases crZ l<;>simp[b2i] <;>omega
   have eQ:numQ (jam l) (crZ l)=numV l:=by
    rw[numQ,numV,hA,hA',hch,d1,hD,eG,eS,eSt,jfc hA',jin,nPok,p1];cases hl:(ldGo (mkGo (drZ (jam l)) false (jam l)) false false false 0).1 with
    | false=>cases hasZ (jam l) 90<;>cases hasZ (jam l) 42<;>cases drZ (jam l) !=0<;>simp
    | true=>
     obtain⟨g1,g2,g3,g4,g5,g6,g7⟩:=p2 (p1.trans hl);have g1:(nP (jam l)).2.dg=_:=g1;have g2:(nP (jam l)).2.bh=_:=g2;have g3:decide ((nP (jam l)).2.fm>0)=_:=g3;have g4:(nP (jam l)).2.pts=_:=g4;rw[g1,g2,g3,g4];simp only[Int.zero_add];generalize (ldGo (mkGo (drZ (jam l)) false (jam l)) false false false 0).2.2.2=dg;generalize (ldGo (mkGo (drZ (jam l)) false (jam l)) false false false 0).2.2.1=bh;generalize (ldGo (mkGo (drZ (jam l)) false (jam l)) false false false 0).2.1=fm;cases hasZ (jam l) 90<;>cases hasZ (jam l) 42<;>cases drZ (jam l) !=0<;>cases decide ((cntZ (jam l) 86:Int)≤1) <;>cases decide (dg≥1) <;>cases decide (dg≤9) <;>cases bh<;>cases fm<;>cases decide (jey l≤1) <;>cases jhj (jam l) (mkGo (drZ (jam l)) false (jam l)) <;>rfl
   refine⟨eQ,fun hV=> ?_⟩;have hN:=numV_iff.1 hV
   have hl:(ldGo (mkGo (drZ (jam l)) false (jam l)) false false false 0).1=true:=by
    have:=hN.ld;unfold jin at this;cases h1:(hasZ (jam l) 90&&hasZ (jam l) 42)with
    | true=>rw[h1]at this;cases this
    | false=>
     rw[h1,cond_false]at this;cases h2:((hasZ (jam l) 90 || hasZ (jam l) 42) &&drZ (jam l) !=0)with
     | true=>rw[h2]at this;cases this
     | false=>
      rw[h2,cond_false]at this;simp only[jaf]at this;exact this.1
   obtain⟨g1,g2,g3,g4,g5,g6,g7⟩:=p2 (p1.trans hl);simp only[Int.zero_add]at g5 g6 g7;have eM:jcg l=mkGo (drZ (jam l)) false (jam l)++(if crZ l=true then [115,115]else []):=rfl;refine⟨hP,d2,hroles,hok,?_,?_,?_,eG,g7⟩
   ·have:=marks_nv l;rw[eM,nv_app]at this;have h5:(nP (jam l)).2.w=_:=g5;rw[h5];cases hc:crZ l with
    | false=>rw[hc]at this;have e0:nv (if(false:Bool)=true then [115,115]else [])=0:=rfl;rw[e0]at this;simp only[cond_false];omega
    | true=>rw[hc]at this;have e0:nv (if(true:Bool)=true then [115,115]else [])=2:=rfl;rw[e0]at this;simp only[cond_true];omega
   ·have h1:(nP (jam l)).2.dg=_:=g1;rw[h1,jhp _ _ _ _ _ hl,eM,pd_app];cases crZ l<;>simp[pdGo,isP]
   ·have h6:(nP (jam l)).2.q=_:=g6;rw[h6,eM,pq_app];obtain⟨t,h,ht⟩:=jhe l;have:=q_law hd (l:=l) (t:=t) (jam l) [] false (by simpa using h) (by simpa using hN.one);have e0:((cntZ [] 86:Nat):Int)=0:=rfl;rw[e0]at this;have e1:(([]:E).length:Int)=0:=rfl;rw[e1]at this;rw[this];cases crZ l with
    | false=>simp[pqGo]
    | true=>simp[pqGo,isP]
end Go.Px
end
noncomputable section
namespace Go.Px
open Go Go.Ab Go.Proofs Go.Shelf
section
variable {P : Program} {G : Env} {L : Nat → Option jbg} {f : FuncId} {fn : Func}
theorem gen_newR{h:U→Lk→Nat→(Value→Lk→Nat→Prop)→Prop}(hG:jao P G)(hm:P.follows .mixedOrders=true)(hf:Fn1 P f fn)(hL:LOKf P L fn)
  (H : ∀ args m n K, h args m n K → ∃ (args' : U) (m0 : Lk) (n0 : Nat) (ρ : Nat → Nat) (R : Value → F → Prop), SubM m ρ m0 n0 ∧ (∀ ι : Nm, args'.map (ren fun j => ι (ρ j)) = args.map (ren ι)) ∧ args'.length ≤ fn.ntmps ∧ (∀ v ∈ args', ∀ j ∈ ids v, j<n0) ∧
   jfp P G L fn args' m0 n0 (fun v' m' _=>R v' (look m' v'))∧
   ∀v' m',R v' (look m' v')→ ∃v mm nn σ,((∀k b,m k=some b→k<n)→NewM m n m' mm nn σ)∧(∀i∈ids v,n≤i∧i<nn)∧(∀ι' ι'':Nm,(∀i,n≤i→ι'' i=ι' (σ i))→ren ι'' v=ren ι' v')∧K v mm nn):jef P f h:=by
 obtain⟨h1,h2,h3,h4⟩:=hf;cases hb:fn.body with
 | none=>rw[hb]at h2;cases h2
 | some c=>
  simp only[hb]at h4;simp only[LOKf,hb]at hL;refine⟨⟨fn,h1,h3,by rw[hb];rfl⟩,fun args m n K hh N w0 ι w hrel hwf hargs=> ?_⟩;obtain⟨args',m0,n0,ρ,R,hs,ha,hlen,hids,hd,hR⟩:=H _ _ _ _ hh;rw[jfp]at hd;rw[←ha ι];refine(jco (N:=w.heap.size) (w0:=w) (ι:=fun j=>ι (ρ j)) hG hm h1 hb h4 hL hlen hd (hs.rel hrel) hs.lt hids).mono fun e w' ⟨v',m',n',ι',he,hv',_,_,hm',_,_⟩=> ?_
  obtain⟨v,mm,nn,σ,hn,hvi,hvr,hk⟩:=hR v' m' hv';have hn:=hn fun k b hk=>(hwf k b hk).1
  obtain⟨q1,q2⟩:=hn.rel hrel hwf hm';refine⟨v,mm,nn,_,?_,hk,hn.le,fun k hk=>nmJ_old hk,q1,q2,fun j hj=>(hvi j hj).2⟩;rw[he,hvr ι' _ fun i hi=>nmJ_new hi]
end
theorem jgs(m:Lk)(ρ:Nat→Nat)(n:Nat):SubM m ρ (fun _=>none) n:=⟨fun _ _ h=>(by cases h),fun _ _ h=>(by cases h)⟩
theorem je2{m:Lk}{n:Nat}(hwf:∀k b,m k=some b→k<n)(m':Lk)(σ:Nat→Nat):NewM m n m' m n σ:=
 ⟨Nat.le_refl _,fun _ _=>rfl,fun j b h hj=>by have:=hwf j b hj;omega,fun j j' b b' h _ hj=>by have:=hwf j b hj;omega⟩
theorem jh1{m:Lk}{n:Nat}(hwf:∀k b,m k=some b→k<n){m':Lk}{a:Nat}{c:U}{ty:TypeId}(ha:m' a=some ⟨c,ty,true⟩)(hc:jas c=true)(hit:Nat.ble itTy ty=false):
  NewM m n m' (m.upd n ⟨c,ty,true⟩) (n+1) (fun _=>a):=by
 have hget:∀j b,n≤j→m.upd n ⟨c,ty,true⟩ j=some b→j=n∧b=⟨c,ty,true⟩:=fun j b hj h=>by
  by_cases e:j=n
  ·subst e;rw[Lk.upd_same]at h;cases h;exact⟨rfl,rfl⟩
  ·rw[Lk.upd_other _ _ e]at h;have:=hwf j b h;omega
 refine⟨by omega,fun j hj=>Lk.upd_other _ _ (by omega),fun j b hj h=> ?_,fun j j' b b' hj hj' h h' hne=> ?_⟩
 ·obtain⟨rfl,rfl⟩:=hget j b hj h;exact⟨by omega,fun i hi=>(by rw[jar hc]at hi;cases hi),rfl,hit,⟨c,ty,true⟩,ha,rfl,rfl,fun ι' ι'' _=>renMap_congr fun k hk=>by rw[jar hc]at hk;cases hk⟩
 ·have e1:=(hget j b hj h).1;have e2:=(hget j' b' hj' h').1;omega
theorem new_form{m:Lk}{n:Nat}(hwf:∀k b,m k=some b→k<n){m':Lk}{a x k cap:Nat}{A B d:U}{ty ty2:TypeId}(ha:m' a=some ⟨A++ .slice (some ⟨x,0,some 1⟩) k cap::B,ty,true⟩)
  (hx:m' x=some ⟨d,ty2,true⟩) (hA:jas A=true) (hB:jas B=true) (hd:jas d=true) (hit:Nat.ble itTy ty=false) (hit2:Nat.ble itTy ty2=false) (hne:a≠x):
  NewM m n m' ((m.upd n ⟨A++ .slice (some ⟨n+1,0,some 1⟩) k cap::B,ty,true⟩).upd (n+1) ⟨d,ty2,true⟩) (n+2) (fun j=>if j=n then a else x):=by
 have hget:∀j b,n≤j→((m.upd n ⟨A++ .slice (some ⟨n+1,0,some 1⟩) k cap::B,ty,true⟩).upd (n+1) ⟨d,ty2,true⟩) j=some b→
   (j=n∧b=⟨A++ .slice (some ⟨n+1,0,some 1⟩) k cap::B,ty,true⟩)∨(j=n+1∧b=⟨d,ty2,true⟩):=fun j b hj h=>by
  by_cases e:j=n+1
  ·subst e;rw[Lk.upd_same]at h;cases h;exact .inr ⟨rfl,rfl⟩
  ·rw[Lk.upd_other _ _ e]at h;by_cases e2:j=n
   ·subst e2;rw[Lk.upd_same]at h;cases h;exact .inl ⟨rfl,rfl⟩
   ·rw[Lk.upd_other _ _ e2]at h;have:=hwf j b h;omega
 have hids:∀y i,i∈idsL (A++Value.slice (some ⟨y,0,some 1⟩) k cap::B)→i=y:=fun y i hi=>by
  obtain⟨v,hv,hi⟩:=jav.1 hi;rcases List.mem_append.1 hv with hv | hv
  ·rw[ja2 (jaw.1 hA v hv)]at hi;cases hi
  ·rcases List.mem_cons.1 hv with rfl | hv
   ·simpa[ids]using hi
   ·rw[ja2 (jaw.1 hB v hv)]at hi;cases hi
 refine⟨by omega,fun j hj=>by rw[Lk.upd_other _ _ (by omega),Lk.upd_other _ _ (by omega)],fun j b hj h=> ?_,fun j j' b b' hj hj' h h' hn=> ?_⟩
 ·rcases hget j b hj h with⟨rfl,rfl⟩ | ⟨rfl,rfl⟩
  ·refine⟨by omega,fun i hi=>by have:=hids _ i hi;omega,rfl,hit,⟨A++ .slice (some ⟨x,0,some 1⟩) k cap::B,ty,true⟩,by rw[if_pos rfl];exact ha,rfl,rfl,fun ι' ι'' hι=> ?_⟩;rw[List.map_append,List.map_append,List.map_cons,List.map_cons];have e1:A.map (ren ι'')=A.map (ren ι'):=renMap_congr fun k hk=>by rw[jar hA]at hk;cases hk
   have e2:B.map (ren ι'')=B.map (ren ι'):=renMap_congr fun k hk=>by rw[jar hB]at hk;cases hk
   have e3:ι'' (j+1)=ι' x:=by rw[hι (j+1) (by omega),if_neg (by omega)]
   rw[e1,e2];simp[ren,ren1,e3]
  ·refine⟨by omega,fun i hi=>(by rw[jar hd]at hi;cases hi),rfl,hit2,⟨d,ty2,true⟩,(by rw[if_neg (by omega)];exact hx),rfl,rfl,fun ι' ι'' _=>renMap_congr fun k hk=>by rw[jar hd]at hk;cases hk⟩
 ·rcases hget j b hj h with⟨rfl,rfl⟩ | ⟨rfl,rfl⟩ <;>rcases hget j' b' hj' h' with⟨rfl,rfl⟩ | ⟨rfl,rfl⟩
  ·exact absurd rfl hn
  ·rw[if_pos rfl,if_neg (by omega)];exact hne
  ·rw[if_neg (by omega),if_pos rfl];exact hne.symm
  ·exact absurd rfl hn
theorem look_form{m:Lk}{a x k cap:Nat}{c d:U}{ty ty2:TypeId}(hc:c[6]?=some (.slice (some ⟨x,0,some 1⟩) k cap))
  (h:look m (.tuple ⟨[.pointer (some ⟨a,0,some 0⟩),.bool true]⟩)=[some ⟨c,ty,true⟩,some ⟨d,ty2,true⟩]):m a=some ⟨c,ty,true⟩∧m x=some ⟨d,ty2,true⟩:=by
 simp only[look]at h;cases ha:m a with
 | none=>rw[ha]at h;cases h
 | some b=>
  rw[ha]at h;simp only at h;split at h
  ·rename_i a' l' c' hc';simp only[List.cons.injEq,and_true]at h;obtain⟨h1,h2⟩:=h;cases h1;rw[hc]at hc';cases hc';exact⟨rfl,h2⟩
  ·cases h
def frm(l:E)(x k cap:Nat):U:=[.string (sz l),.bool true,.int .i64 (l.length-cntZ l 86),.int .i64 (pdGo (jcg l)),.int .i64 (pqGo l (jcg l) 0),.bool (jey l==1)]++
 .slice (some ⟨x,0,some 1⟩) k cap::[.int .u8 (drZ (jam l)),.int .i64 (nD (jam l)).2.2,.bool (crZ l),.int .u8 (fdFl l),.int .i64 (cntZ (mkGo (drZ (jam l)) false (jam l)) 100)]
def rolF(l:E):E:=nR (jam l)++(bif crZ l then [4,4]else [])
def allK(l:E):Bool:=l.all (hasZ kL)
theorem allK_spec{l:E}(h:allK l=true):asc l=true∧ ∀c∈l,c≠0:=by
 simp only[allK,List.all_eq_true]at h;refine⟨?_,fun c hc=> ?_⟩
 ·simp only[asc,List.all_eq_true,jae];exact fun c hc=>(ji6 (h c hc)).2
 ·rintro rfl;exact absurd (h 0 hc) (by decide)
theorem body_sub{l:E}{c:Int}(h:c∈jam l):c∈l:=by
 unfold jam at h;split at h
 ·exact List.mem_of_mem_take h
 ·exact h
theorem star_body(l:E):hasZ (jam l) 42=hasZ l 42:=by
 obtain⟨t,h,ht⟩:=jhe l
 have e:hasZ l 42=(hasZ (jam l) 42 || hasZ t 42):=by
  conv=>lhs;rw[h]
  simp[hasZ]
 rw[e];rcases ht with⟨rfl,_⟩ | ⟨rfl | rfl,_⟩
 ·simp[hasZ]
 ·have:hasZ [67,82] 42=false:=by decide
  rw[this,Bool.or_false]
 ·have:hasZ [68,66] 42=false:=by decide
  rw[this,Bool.or_false]
theorem form_frm{s:Y}(h:NumL (bz s))(x k cap:Nat):jhs s (crZ (bz s)) x k cap=frm (bz s) x k cap:=by
 have e:(bif hasZ (jam (bz s)) 42 then(42:Int)else 32)=fdFl (bz s):=by
  rw[star_body,fdFl];cases hasZ (bz s) 42<;>rfl
 rw[jhs,h.w,h.dg,h.q,h.g,h.d,h.fm,e,frm,jjf];rfl
def h103:U→Lk→Nat→(Value→Lk→Nat→Prop)→Prop:=fun args m n K=>match args with
 | [.string s]=>match cnd (decide (s.size≤32) &&allK (bz s))with
  | true=>bif numV (bz s)then∀(k cap:Nat)(d:U),jcr d k cap=true→zc d k=rolF (bz s)→K (.tuple ⟨[.pointer (some ⟨n,0,some 0⟩),.bool true]⟩) ((m.upd n ⟨frm (bz s) (n+1) k cap,119,true⟩).upd (n+1) ⟨d,197,true⟩) (n+2)
   else K (.tuple ⟨[.pointer none,.bool false]⟩) m n
  | false=>False
 | _=>False
def R103(s:Y)(v:Value)(bs:F):Prop:=(numV (bz s)=false∧v= .tuple ⟨[.pointer none,.bool false]⟩)∨(numV (bz s)=true∧v= .tuple ⟨[.pointer (some ⟨3,0,some 0⟩),.bool true]⟩∧ ∃x k cap d,RowI d k cap∧zc d k=rolF (bz s)∧bs=[some ⟨frm (bz s) x k cap,119,true⟩,some ⟨d,197,true⟩])
theorem w103'(s:Y)(hs:s.size≤32)(hk:allK (bz s)=true):jfp Tryz.prog G25 noL Tryz.f115 [.string s] (fun _=>none) 0 (fun v m _=>R103 s v (look m v)):=by
 obtain⟨ha,h0⟩:=allK_spec hk;obtain⟨q1,q2⟩:=num_law (l:=bz s) fun c hm=>h0 c (body_sub hm)
 have A1:numQ (jam (bz s)) (crZ (bz s))=false→R103 s (.tuple ⟨[.pointer none,.bool false]⟩) []:=fun hn=> .inl ⟨by rw[←q1];exact hn,rfl⟩
 have A2:numQ (jam (bz s)) (crZ (bz s))=true→ ∀(x m cap:Nat)(d:U),RowI d m cap→zc d m=jim s (crZ (bz s))→
   R103 s (.tuple ⟨[.pointer (some ⟨3,0,some 0⟩),.bool true]⟩) [some ⟨jhs s (crZ (bz s)) x m cap,119,true⟩,some ⟨d,197,true⟩]:=fun hy x k cap d r1 r2=>by
  rw[q1]at hy;rw[form_frm (q2 hy)];exact .inr ⟨hy,rfl,x,k,cap,d,r1,r2,rfl⟩
 exact w103 s hs ha (R103 s) A1 A2
theorem fn103:Fn1 Tryz.prog 115 Tryz.f115:= .m Tryz.func115
theorem h103_ok:jef Tryz.prog 115 h103:=by
 refine gen_newR ok_G25 hmix fn103 jai fun args m n K h=> ?_
 unfold h103 at h;split at h
 case h_2=>exact h.elim
 rename_i s;split at h
 case h_2=>exact h.elim
 rename_i hc;simp only[cnd,jaf,jae]at hc;refine⟨[.string s],fun _=>none,0,id,R103 s,jgs _ _ _,fun ι=>by simp[ren],jag,fun v hv j hj=> ?_,w103' s hc.1 hc.2,fun v' m' hR=> ?_⟩
 ·simp at hv;subst hv;simp[ids]at hj
 ·rcases hR with⟨hv,rfl⟩ | ⟨hv,rfl,x,k,cap,d,r1,r2,hbs⟩
  ·rw[hv]at h;exact⟨_,m,n,id,fun hwf=>je2 hwf _ _,by simp[ids,idsL],fun _ _ _=>by simp[ren,renL],h⟩
  ·rw[hv]at h;obtain⟨a1,a2⟩:=look_form (x:=x) (k:=k) (cap:=cap) rfl hbs;refine⟨_,_,_,fun j=>if j=n then 3 else x,fun hwf=>new_form hwf a1 a2 rfl rfl r1.plain rfl rfl ?_,?_,fun ι' ι'' hι=> ?_,h k cap d (jay.2 r1) r2⟩
   ·rintro rfl;rw[a1]at a2;cases a2
   ·intro i hi;have:i=n:=by simpa[ids,idsL]using hi
    omega
   ·have e:=hι n (Nat.le_refl _);simp only[if_true]at e;simp[ren,renL,ren1,e]
def G26:Env:=(((Env.nil.add 114 (sp2 s102)).add 67 (sp2 s89)).add 113 (sp1 s80)).addG 115 h103
theorem ok_G26:jao Tryz.prog G26:=jaq (jak (jak (jak jbr ok102) ok89) ok80) h103_ok
theorem dropW_nil{p:Int→Bool}:∀{l:E},l.dropWhile p=[]↔ ∀c∈l,p c=true
 | []=>by simp
 | c::l=>by
  rw[List.dropWhile_cons];cases h:p c with
  | true=>simp only[if_true];rw[dropW_nil (l:=l)];simp[h]
  | false=>simp[h]
theorem trim_nil{l cs:E}:je8 l cs=[]↔ ∀c∈l,hasZ cs c=true:=by
 unfold je8;rw[dropW_nil];constructor
 ·intro h c hc;cases hq:hasZ cs c with
  | true=>rfl
  | false=>
   exfalso
   -- c stays in what is left
   have:∀r:E,c∈r→c∈r.dropWhile (hasZ cs):=by
    intro r
    induction r with
    | nil=>exact fun h=>by cases h
    | cons x r ih=>
     intro hx;rw[List.dropWhile_cons];cases hh:hasZ cs x with
     | false=>simpa using hx
     | true=>
      rw[if_pos rfl];rcases List.mem_cons.1 hx with rfl | hx
      ·rw[hq]at hh;cases hh
      ·exact ih hx
   have hm:=this l.reverse (by simpa using hc);have:=h c (by simpa using hm);rw[hq]at this;cases this
 ·intro h c hc;have:c∈l.reverse.dropWhile (hasZ cs):=by simpa using hc
  exact h c (by simpa using List.dropWhile_sublist _ |>.subset this)
theorem jiy:∀(l:E)(st n:Int)(out:E),allK out=true→allK (xpGo l st n out).1=true
 | [],_,_,_,h=>h
 | c::r,st,n,out,h=>by
  rw[xpGo];generalize (if st=2 then n else 1)=k;split
  ·split
   ·split
    ·exact jiy r _ _ _ h
    ·rfl
   ·split
    ·exact jiy r _ _ _ h
    ·rfl
  ·split
   ·rfl
   ·split
    ·exact jiy r _ _ _ h
    ·split
     ·rename_i hq;refine jiy r _ _ _ ?_;simp only[allK,List.all_append,jaf];refine⟨h,?_⟩;rw[List.all_eq_true];intro x hx;rw[List.eq_of_mem_replicate hx];exact hq.1
     ·rfl
theorem ex_kL(l:E):allK (exZ l)=true:=by
 unfold exZ;split
 ·exact jiy l 0 0 [] rfl
 ·rfl
def frmP(l:E)(x k cap:Nat):U:=[.string (sz (pS l)),.bool true,.int .i64 (pW l),.int .i64 (pD l),.int .i64 (pQ l),.bool (pG l)]++
 .slice (some ⟨x,0,some 1⟩) k cap::[.int .u8 (drZ (jam (pS l))),.int .i64 (nD (jam (pS l))).2.2,.bool (crZ (pS l)),.int .u8 (fdFl (pS l)),.int .i64 (cntZ (mkGo (drZ (jam (pS l))) false (jam (pS l))) 100)]
def chrP(l:E):U:=[.string (sz (pS l)),.bool false,.int .i64 (pW l),.int .i64 0,.int .i64 0,.bool false,.slice none 0 0,.int .u8 0,.int .i64 0,.bool false,.int .u8 0,.int .i64 0]
theorem frm_P{l:E}(h:pN l=true)(x k cap:Nat):frm (exZ l) x k cap=frmP l x k cap:=by
 have hv:=jik h;have hc:=(pN_num h).nch;unfold frm frmP;rw[pS,if_pos hv,pW,if_pos hv,if_neg (by rw[hc];simp),pD,if_pos h,pQ,if_pos h,pG,h,Bool.true_and]
def h70:U→Lk→Nat→(Value→Lk→Nat→Prop)→Prop:=fun args m n K=>match args with
 | [.string s]=>match cnd (decide (s.size≤9223372036854775807))with
  | true => bif vOK (bz s) then (bif pN (bz s) then ∀ (k cap : Nat) (d : U), jcr d k cap = true → zc d k = rolF (pS (bz s)) → K (.tuple ⟨[.pointer (some ⟨n, 0, some 0⟩), .bool true]⟩) ((m.upd n ⟨frmP (bz s) (n + 1) k cap, 119, true⟩).upd (n + 1) ⟨d, 197, true⟩) (n + 2)
    else K (.tuple ⟨[.pointer (some ⟨n,0,some 0⟩),.bool true]⟩) (m.upd n ⟨chrP (bz s),119,true⟩) (n+1))
   else K (.tuple ⟨[.pointer none,.bool false]⟩) m n
  | false=>False
 | _=>False
def Rfm(c:Bool)(s:Y)(v:Value)(bs:F):Prop:=
 (pN (bz s)=true∧ ∃a x k cap d,v= .tuple ⟨[.pointer (some ⟨a,0,some 0⟩),.bool true]⟩∧RowI d k cap∧zc d k=rolF (pS (bz s))∧bs=[some ⟨frmP (bz s) x k cap,119,true⟩,some ⟨d,197,true⟩])∨
 (c=true∧vOK (bz s)=true∧pN (bz s)=false∧ ∃a,v= .tuple ⟨[.pointer (some ⟨a,0,some 0⟩),.bool true]⟩∧bs=[some ⟨chrP (bz s),119,true⟩])∨
 (pN (bz s)=false∧(c=true→vOK (bz s)=false)∧v= .tuple ⟨[.pointer none,.bool false]⟩)
theorem rfm_new{c:Bool}{s:Y}{v':Value}{m m':Lk}{n:Nat}{K:Value→Lk→Nat→Prop}(hR:Rfm c s v' (look m' v'))
  (h1:pN (bz s)=true→ ∀(k cap:Nat)(d:U),jcr d k cap=true→zc d k=rolF (pS (bz s))→K (.tuple ⟨[.pointer (some ⟨n,0,some 0⟩),.bool true]⟩) ((m.upd n ⟨frmP (bz s) (n+1) k cap,119,true⟩).upd (n+1) ⟨d,197,true⟩) (n+2))
  (h2:c=true→vOK (bz s)=true→pN (bz s)=false→K (.tuple ⟨[.pointer (some ⟨n,0,some 0⟩),.bool true]⟩) (m.upd n ⟨chrP (bz s),119,true⟩) (n+1))
  (h3:pN (bz s)=false→(c=true→vOK (bz s)=false)→K (.tuple ⟨[.pointer none,.bool false]⟩) m n):
  ∃v mm nn σ,((∀k b,m k=some b→k<n)→NewM m n m' mm nn σ)∧(∀i∈ids v,n≤i∧i<nn)∧(∀ι' ι'':Nm,(∀i,n≤i→ι'' i=ι' (σ i))→ren ι'' v=ren ι' v')∧K v mm nn:=by
 rcases hR with⟨hv,a,x,k,cap,d,rfl,r1,r2,hbs⟩ | ⟨hc,hv,hp,a,rfl,hbs⟩ | ⟨hv,hc,rfl⟩
 ·obtain⟨a1,a2⟩:=look_form (x:=x) (k:=k) (cap:=cap) rfl hbs;refine⟨_,_,_,fun j=>if j=n then a else x,fun hwf=>new_form hwf a1 a2 rfl rfl r1.plain rfl rfl ?_,?_,fun ι' ι'' hι=> ?_,h1 hv k cap d (jay.2 r1) r2⟩
  ·rintro rfl;rw[a1]at a2;cases a2
  ·intro i hi;have:i=n:=by simpa[ids,idsL]using hi
   omega
  ·have e:=hι n (Nat.le_refl _);simp only[if_true]at e;simp[ren,renL,ren1,e]
 ·have ha:m' a=some ⟨chrP (bz s),119,true⟩:=by
   simp only[look]at hbs;cases ha:m' a with
   | none=>rw[ha]at hbs;cases hbs
   | some b=>
    rw[ha]at hbs;simp only at hbs;split at hbs
    ·cases hbs
    ·cases hbs;rfl
  refine⟨_,_,_,fun j=>a,fun hwf=>jh1 hwf ha rfl rfl,?_,fun ι' ι'' hι=> ?_,h2 hc hv hp⟩
  ·intro i hi;have:i=n:=by simpa[ids,idsL]using hi
   omega
  ·have e:=hι n (Nat.le_refl _);simp[ren,renL,ren1,e]
 ·exact⟨_,m,n,id,fun hwf=>je2 hwf _ _,by simp[ids,idsL],fun _ _ _=>by simp[ren,renL],h3 hv hc⟩
def io(a:Y):Y:=sz (xpGo (bz a) 0 0 []).fst
def cm(a:Y):E:=bz (io a)
def gl(a b:Y):Bool:=a.toList==b.toList
theorem v70(s:Y)(R:Value→F→Prop):(jbe Tryz.prog G26 noL Tryz.f68 [S s] (fun _=>none) 0 (fun v m _=>R v (look m v)))=(bif e6 s then bif !exOK (bz s)then eu R else b8 (ft (io s) && (ft ⟨#[65,88,57]⟩ &&asc (bz ⟨#[65,88,57]⟩))) (bif gl (szO (je8 (cm s) (bz ⟨#[65,88,57]⟩))) ⟨#[]⟩then ft (io s) && (ft ⟨#[65,88]⟩ && (asc (cm s) &&asc (bz ⟨#[65,88]⟩))) &&true else true) (gl (szO (je8 (cm s) (bz ⟨#[65,88,57]⟩))) ⟨#[]⟩ &&anyZ (cm s) (bz ⟨#[65,88]⟩)) (R (ax [dw 23,B true]) [az false false false (io s) (b4 (io s)) 0 0 0 0 0 0 0 0 none]) (bif decide ((io s).size≤32) &&allK (cm s)then bif numV (cm s)then∀a:Nat,∀b:Nat,∀c:U,jcr c a b=true→zc c a=rolF (cm s)→R (ax [dw 20,B true]) [az true (jey (cm s)==1) (crZ (cm s)) (sz (cm s)) (((cm s).length:Int)-(cntZ (cm s) 86:Int)) (pdGo (jcg (cm s))) (pqGo (cm s) (jcg (cm s)) 0) (drZ (jam (cm s))) (nD (jam (cm s))).snd.snd (fdFl (cm s)) (cntZ (mkGo (drZ (jam (cm s))) false (jam (cm s))) 100:Int) a b (av 21 0 1),some (.mk c 197 true)]else eu R else False)else False):=by kernel_rfl
theorem fn70:Fn1 Tryz.prog 68 Tryz.f68:= .m Tryz.func68
theorem w70(s:Y)(hs:s.size≤9223372036854775807):jfp Tryz.prog G26 noL Tryz.f68 [.string s] (fun _=>none) 0 (fun v m _=>Rfm true s v (look m v)):=by
 rw[jfp,v70];delta b8 ax eu ak az av io cm dw b4 gl ft e6;have hN:pN (bz s)=false→vOK (bz s)=false→Rfm true s (.tuple ⟨[.pointer none,.bool false]⟩) []:=fun h1 h2=> .inr (.inr ⟨h1,fun _=>h2,rfl⟩)
 refine c_t (jaa hs) (cond_intro (fun h=> ?_) (fun h=> ?_))
 ·have h:exOK (bz s)=false:=by simpa using h
  exact hN (by rw[pN,h];rfl) (by rw[vOK,h];rfl)
 have h:exOK (bz s)=true:=by simpa using h
 have e:(xpGo (bz s) 0 0 []).1=exZ (bz s):=by rw[exZ,if_pos h]
 obtain⟨x1,x2⟩:=ex_rng s;have k1:bz ⟨#[65,88,57]⟩=[65,88,57]:=rfl;have k2:bz ⟨#[65,88]⟩=[65,88]:=rfl;rw[e,bz_sz x1,sz_size,k1,k2,jd3,toList_beq,bz_sz (l:=je8 (exZ (bz s)) [65,88,57])]
 rotate_left
 ·intro c hc;refine x1 c ?_;unfold je8 at hc;have:=List.dropWhile_sublist _ |>.subset hc
  have:c∈(exZ (bz s)).reverse.dropWhile (hasZ [65,88,57]):=by simpa using this
  simpa using List.dropWhile_sublist _ |>.subset this
 have hk:=allK_spec (ex_kL (bz s));have k3:bz ⟨#[]⟩=[]:=rfl;rw[k3]
 have eC:(decide (je8 (exZ (bz s)) [65,88,57]=[]) &&anyZ (exZ (bz s)) [65,88])=jgj (exZ (bz s)):=by
  rw[jgj,Bool.eq_iff_iff];simp only[jaf,jae,trim_nil,List.all_eq_true,anyZ,List.any_eq_true,Bool.or_eq_true,jb2];refine and_congr Iff.rfl ⟨?_,?_⟩
  ·rintro ⟨c,h1,h2⟩;simp at h2;rcases h2 with rfl | rfl
   ·exact .inl h1
   ·exact .inr h1
  ·rintro (h1 | h1)
   ·exact⟨65,h1,by simp⟩
   ·exact⟨88,h1,by simp⟩
 rw[eC];refine c_t ?_ (cond_intro (fun hc=> ?_) (fun hc=>c_t ?_ (cond_intro (fun hn k cap d r1 r2=> ?_) (fun hn=> ?_))))
 ·have a1:decide ((exZ (bz s)).length≤1000)=true:=jaa (by omega);rw[a1,hk.1];cases decide (je8 (exZ (bz s)) [65,88,57]=[]) <;>rfl
 ·have hv:vOK (bz s)=true:=by rw[vOK,h,hc];rfl
  have hp:pN (bz s)=false:=by rw[pN,h,numV,hc];rfl
  refine .inr (.inl ⟨rfl,hv,hp,23,rfl,?_⟩);have e1:pS (bz s)=exZ (bz s):=by rw[pS,if_pos hv]
  have e2:pW (bz s)=(exZ (bz s)).length:=by rw[pW,if_pos hv,if_pos hc]
  rw[chrP,e1,e2]
 ·rw[jaa (show(exZ (bz s)).length≤32 by omega),ex_kL];rfl
 ·have hp:pN (bz s)=true:=by rw[pN,h,hn];rfl
  have e1:pS (bz s)=exZ (bz s):=by rw[pS,if_pos (jik hp)]
  refine .inl ⟨hp,20,21,k,cap,d,rfl,jay.1 r1,by rw[e1];exact r2,?_⟩;rw[←frm_P hp];rfl
 ·exact hN (by rw[pN,h,hn];rfl) (by rw[vOK,h,hc,hn];rfl)
theorem h70_ok:jef Tryz.prog 68 h70:=by
 refine gen_newR ok_G26 hmix fn70 jai fun args m n K h=> ?_
 unfold h70 at h;split at h
 case h_2=>exact h.elim
 rename_i s;split at h
 case h_2=>exact h.elim
 rename_i hc;have hc:s.size≤9223372036854775807:=jab hc;refine⟨[.string s],fun _=>none,0,id,Rfm true s,jgs _ _ _,fun ι=>by simp[ren],jag,fun v hv j hj=> ?_,w70 s hc,fun v' m' hR=> ?_⟩
 ·simp at hv;subst hv;simp[ids]at hj
 ·refine rfm_new hR (fun hp=> ?_) (fun _ hv hp=> ?_) (fun hp hv=> ?_)
  ·rw[jik hp,hp]at h;exact h
  ·rw[hv,hp]at h;exact h
  ·rw[hv rfl]at h;exact h
def G28:Env:=Env.nil.addG 68 h70
theorem ok_G28:jao Tryz.prog G28:=jaq jbr h70_ok
def s35(s:Y):Bool×Value:=(decide (s.size≤9223372036854775807),.tuple ⟨[picV (bz s),.int .i64 (pE (bz s))]⟩)
theorem fn35:Fn1 Tryz.prog 102 Tryz.f102:= .m Tryz.func102
theorem v35(s:Y)(R:Value→Prop):jbe Tryz.prog G28 noL Tryz.f102 [Enc.enc s] (fun _=>none) 0 (fun v _ _=>R v)=(bif e6 s then bif vOK (bz s)then bif pN (bz s)then∀a:Nat,∀b:Nat,∀c:U,jcr c a b=true→zc c a=rolF (pS (bz s))→R (ax [.agg ⟨[S (sz (pS (bz s))),B true,I (pW (bz s)),I (pD (bz s)),I (pQ (bz s)),B (pG (bz s))]⟩,ak 0])else R (ax [.agg ⟨[S (sz (pS (bz s))),B false,I (pW (bz s)),ak 0,ak 0,B false]⟩,ak 0])else R (ax [.agg ⟨[dx,B false,ak 0,ak 0,ak 0,B false]⟩,ak 30])else False):=by kernel_rfl
theorem ok35:jal Tryz.prog 102 (sp1 s35):=by
 refine je9 ok_G28 hmix fn35 jai jag fun s hc=> ?_
 rw[jdf,v35];delta ax ak dx e6;have hc:(s.size≤9223372036854775807):=jab hc
 try dsimp only[s35]
 refine c_t (jaa hc) (cond_intro (fun hv=>cond_intro (fun hn k cap d _ _=> ?_) (fun hn=> ?_)) (fun hv=> ?_))
 ·simp[picV,pE,hv,hn]
 ·simp[picV,pE,hv,hn,pD,pQ,pG]
 ·have hn:pN (bz s)=false:=by
   cases q:pN (bz s)with
   | false=>rfl
   | true=>rw[jik q]at hv;cases hv
  have a1:pS (bz s)=[]:=by rw[pS,if_neg (by rw[hv];simp)]
  have a2:pW (bz s)=0:=by rw[pW,if_neg (by rw[hv];simp)]
  have a3:pD (bz s)=0:=by rw[pD,if_neg (by rw[hn];simp)]
  have a4:pQ (bz s)=0:=by rw[pQ,if_neg (by rw[hn];simp)]
  have a5:pG (bz s)=false:=by rw[pG,hn];rfl
  have a6:pE (bz s)=30:=by rw[pE,if_neg (by rw[hv];simp)]
  rw[picV,a1,a2,a3,a4,a5,a6,hn,sz_nil]
def G29:Env:=Env.nil.add 102 (sp1 s35)
theorem ok_G29:jao Tryz.prog G29:=jak jbr ok35
def s33(s:Y):Bool×Value:=(decide (s.size≤9223372036854775807),.int .i64 (pE (bz s)))
theorem fn33:Fn1 Tryz.prog 65 Tryz.f65:= .m Tryz.func65
theorem v33(s:Y)(R:Value→Prop):jbe Tryz.prog G29 noL Tryz.f65 [Enc.enc s] (fun _=>none) 0 (fun v _ _=>R v)=(bif decide (s.size≤9223372036854775807)then R (I (pE (bz s)))else False):=by kernel_rfl
theorem ok33:jal Tryz.prog 65 (sp1 s33):=by
 refine je9 ok_G29 hmix fn33 jai jag fun s hc=> ?_
 rw[jdf,v33];have hc:(s.size≤9223372036854775807):=jab hc
 try dsimp only[s33]
 exact c_t (jaa hc) rfl
end Go.Px
end
noncomputable section
namespace Go.Px
open Go Go.Ab Go.Proofs Go.Shelf Go.RowKit Go.Sort Go.Lib
theorem laysM284:LaysM.n284 Tryz.prog Tryz.lays172_ren:={Tryz.lays172 with
 i0:=by kernel_rfl
 i3:=by kernel_rfl
 i4:=by kernel_rfl
 i5:=by kernel_rfl
 i9:=by kernel_rfl
 i46:=by kernel_rfl
 i53:=by kernel_rfl
 i212:=by kernel_rfl
 m17:=by kernel_rfl}
theorem tab_pow {w : World} (h : TabsIn w.heap.size w) : Lib.TabIs Tryz.prog w "internal/strconv.uint64pow10" .u64 Lib.pow10Tab := by
 obtain⟨_,ty,fr,h2⟩:=h 7 _ rfl;unfold Lib.TabIs World.var?
 have e : Tryz.prog.globalNamed "internal/strconv.uint64pow10" = some 7 := by kernel_rfl
 rw[e];simp only[Option.bind_some,h2];rfl
theorem fmt_small(u:Nat)(hu:u<100)(w:World):Calls Tryz.prog 176 #[.int .u64 u,.int .i64 10] w fun e w'=>e= .returned (.string ⟨(Lib.decDigits u).toArray⟩)∧w'=w:=by
 have mixed:=Tryz.lays172.mixed;have e142:∀args w,(callFunc 211 args).run Tryz.prog w= .ok (.enter 211 args) w:=enters_of Tryz.func211 (by kernel_rfl) rfl;have hw:IntKind.i64.wrap (u:Int)=(u:Int):=by rw[IntKind.wrap_i64];omega
 go_enter Tryz.func176,Tryz.ntmps176
 go_wp2_with (go_at_fn 211;refine(Any.internal_strconv_small (ρ:=Tryz.lays172_ren) {Tryz.lays172 with} u hu _).mono ?_;rintro e w' ⟨rfl,rfl⟩)
 go_ret
 exact⟨rfl,rfl⟩
set_option maxHeartbeats 6400000 in
set_option maxRecDepth 100000 in
theorem fmt_big (u : Nat) (hu : 100 ≤ u) (hu64 : u < 18446744073709551616) (w : World) (htab : Lib.TabIs Tryz.prog w "internal/strconv.uint64pow10" .u64 Lib.pow10Tab) :
  Calls Tryz.prog 176 #[.int .u64 u,.int .i64 10] w fun e w'=>e= .returned (.string ⟨(Lib.decDigits u).toArray⟩)∧ ∃k os,w'=grow (w.drewN k) os:=by
 have mixed:=Tryz.lays172.mixed;have e143:∀args w,(callFunc 212 args).run Tryz.prog w= .ok (.enter 212 args) w:=enters_of Tryz.func212 (by kernel_rfl) rfl;have e144:∀args w,(callFunc 213 args).run Tryz.prog w= .ok (.enter 213 args) w:=enters_of Tryz.func213 (by kernel_rfl) rfl;have hu1:1≤u:=by omega
 have hnd20:Lib.nDigits u≤20:=by have:=Lib.numDigits_eq u hu1 hu64;split at this<;>omega
 have iu:(100:Int)≤(u:Int):=by omega
 have t148:=Tryz.underlying279;have hal:Tryz.prog.arrayLen 279=24:=by simp[Program.arrayLen,Tryz.underlying279]
 have hsl:∀W,(Instr.sliceAt 279 (.pointer (some ⟨w.heap.size,0,none⟩)) none (some (.int .i64 (Lib.nDigits u:Int))) none).run Tryz.prog W= .ok (.slice (some ⟨w.heap.size,0,none⟩) (Lib.nDigits u) 24) W:=fun W=>by
  rw[run_sliceAt_array_h W 279 ⟨w.heap.size,0,none⟩ (by simp[Program.arrayLen,Program.elem,Tryz.underlying279]) .i64 (Lib.nDigits u:Int) (by omega) (by rw[hal];omega)]
  go_simp
 have hH0:=Lib.holds_zero0 w 279 (Lib.nDigits u) (by omega);have hfmt:=Any.internal_strconv_formatBase10 (ρ:=Tryz.lays172_ren) {Tryz.lays172 with} w.heap.size 0 24 u (Array.replicate (Lib.nDigits u) 0) (w.alloc (.cells Lib.zeros24 279)) hH0 (by rw[Array.size_replicate];exact Lib.lt_pow_nDigits u) hu64 (by rw[Array.size_replicate];omega);rw[Array.size_replicate]at hfmt;have HH0:=Lib.hid hH0;clear hH0 hal
 go_enter Tryz.func176,Tryz.ntmps176
 go_wp2_with (first
  | (go_at_fn 212;refine(Any.internal_strconv_numDigits (ρ:=Tryz.lays172_ren) laysM284 u hu1 hu64 _ (Lib.tabIs_alloc htab _)).mono ?_;rintro e w' ⟨rfl,rfl⟩))
 go_at_fn 213
 refine hfmt.mono ?_;rintro e w' ⟨rfl,k,v',dk,rfl,hF⟩
 have hcv:(convert 78 9 (.slice (some ⟨w.heap.size,0,none⟩) (Lib.nDigits u) 24)).run Tryz.prog ((putRow (fun(b:UInt8)=>Value.int .u8 (b.toNat:Int)) (w.alloc (.cells Lib.zeros24 279)) w.heap.size 0 dk).drewN k)= .ok (.string ⟨(Lib.decDigits u).toArray⟩) ((putRow (fun(b:UInt8)=>Value.int .u8 (b.toNat:Int)) (w.alloc (.cells Lib.zeros24 279)) w.heap.size 0 dk).drewN k):=by
  have h:=run_convert_bytes_back (P:=Tryz.prog) ((putRow (fun(b:UInt8)=>Value.int .u8 (b.toNat:Int)) (w.alloc (.cells Lib.zeros24 279)) w.heap.size 0 dk).drewN k) 78 9 5 ⟨w.heap.size,0,none⟩ 24 (Lib.decDigits u) Tryz.underlying78 Tryz.underlying5 Tryz.underlying9 (fun j hj=>by
   rw[Lib.row_is_numeral hF j hj,Lib.add_plain,World.cell?_drewN];exact cell?_putRow (fun(b:UInt8)=>Value.int .u8 (b.toNat:Int)) _ w.heap.size 0 _ dk HH0.out (by rw[hF.size,Array.size_replicate]) j (by rw[hF.size];rw[Lib.decDigits_length]at hj;exact hj))
  rw[Lib.decDigits_length]at h;exact h
 go_wp2
 go_ret
 obtain⟨os,eo⟩:=Lib.fin_at w (.cells Lib.zeros24 279) dk k 0;exact⟨rfl,k,os,eo⟩
def decZ(n:Int):E:=zl (Lib.decDigits n.toNat)
theorem c87:ja6 Tryz.prog 131:=cal Tryz.func131 (by kernel_rfl) (by kernel_rfl)
theorem fmt_all(u:Nat)(hu64:u<18446744073709551616)(w:World)(ht:TabsIn w.heap.size w):
  Calls Tryz.prog 176 #[.int .u64 u,.int .i64 10] w fun e w'=>e= .returned (.string ⟨(Lib.decDigits u).toArray⟩)∧RowKit.Below w.heap.size w w':=by
 by_cases hu:u<100
 ·exact(fmt_small u hu w).mono fun e w' ⟨h1,h2⟩=>⟨h1,jbx h2⟩
 ·exact(fmt_big u (by omega) hu64 w (tab_pow ht)).mono fun e w' ⟨h1,k,os,h2⟩=>⟨h1,by rw[h2];exact Lib.below_grow _ _ (Nat.le_refl _) _ _⟩
theorem fmt87(u:Nat)(hu64:u<18446744073709551616)(w:World)(ht:TabsIn w.heap.size w):
  Calls Tryz.prog 131 #[.int .u64 u,.int .i64 10] w fun e w'=>e= .returned (.string ⟨(Lib.decDigits u).toArray⟩)∧RowKit.Below w.heap.size w w':=by
 have mixed:=Tryz.lays172.mixed;have e115:∀args w,(callFunc 176 args).run Tryz.prog w= .ok (.enter 176 args) w:=enters_of Tryz.func176 (by kernel_rfl) rfl
 go_enter Tryz.func131,Tryz.ntmps131
 go_wp2_with (go_at_fn 176;refine(fmt_all u hu64 _ ht).mono ?_;rintro e w' ⟨rfl,hb⟩)
 go_ret
 exact⟨rfl,hb⟩
def jjw(b:Int):Bool:=b==10
def s87(n:U64)(b:Int):Bool×Value:=(decide (0≤n.n∧n.n<18446744073709551616) &&jjw b,.string (sz (decZ n.n)))
theorem ok87:jal Tryz.prog 131 (sp2 s87):=jct c87 fun n b hc w ht=>by
 simp only[s87,jjw,jaf,jae,beq_iff_eq]at hc;obtain⟨⟨h0,h1⟩,rfl⟩:=hc
 have e:Enc.enc n=Value.int .u64 (n.n.toNat:Int):=by
  show Value.int .u64 n.n=_;rw[Int.toNat_of_nonneg h0]
 rw[e];refine(fmt87 n.n.toNat (by omega) w ht).mono fun e w' ⟨h4,h5⟩=>⟨?_,h5⟩
 rw[h4,jgh];rfl
end Go.Px
end
section
namespace Go.Px
open Go Go.Ab Go.Proofs
def dval(l:E):Int:=numZ l 0
end Go.Px
end
noncomputable section
namespace Go.Px
open Go Go.Ab Go.Proofs Go.Shelf
def cutV(n q sc d:Int)(sg:Bool):Value:= .tuple ⟨[.string (sz (digZ ((cuN n q sc d sg).natAbs:Int) d.toNat)),.bool (decide (cuN n q sc d sg<0)),.bool (cuF n q sc d sg)]⟩
def i64B(n:Int):Bool:=decide (-9223372036854775808≤n∧n≤9223372036854775807)
def h63:U→Lk→Nat→(Value→Lk→Nat→Prop)→Prop:=fun args m n K=>match args with
 | [.pointer (some ⟨a,0,some 0⟩),.int .i64 x,.int .i64 q]=>match m a with
  | some ⟨[.string s,.bool nb,.int .i64 w,.int .i64 d,.int .i64 sc,.bool sg,.slice (some ⟨y,0,some 1⟩) k cap,.int .u8 dr,.int .i64 f,.bool cr,.int .u8 fl,.int .i64 fm],119,own⟩=>
   match cnd (i64B x&& (decide (0≤q∧q≤9) && (decide (0≤sc∧sc≤9) &&decide (0≤d∧d≤9))))with
   | true=>K (cutV x q sc d sg) m n
   | false=>False
  | _=>False
 | _=>False
end Go.Px
end
noncomputable section
set_option maxHeartbeats 3200000
namespace Go.Px
open Go Go.Ab Go.Proofs Go.Shelf
end Go.Px
end
noncomputable section
namespace Go.Px
open Go Go.Ab Go.Proofs Go.Shelf
end Go.Px
end
noncomputable section
set_option maxHeartbeats 3200000
namespace Go.Px
open Go Go.Ab Go.Proofs Go.Shelf
end Go.Px
end
noncomputable section
namespace Go.Px
open Go Go.Ab Go.Proofs Go.Shelf
theorem dec_from:∀(l:O)(a:Nat),dgL (zl l)=true→Lib.decFrom a l=some (numZ (zl l) a).toNat∧0≤numZ (zl l) a
 | [],a,_=>⟨rfl,Int.natCast_nonneg a⟩
 | b::r,a,h=>by
  have h:dgL ((b.toNat:Int)::zl r)=true:=h
  have h1:48≤b.toNat∧b.toNat≤57:=by
   simp only[dgL,List.all_cons,jaf,jae]at h;omega
  have h2:dgL (zl r)=true:=by
   simp only[dgL,List.all_cons,jaf]at h;exact h.2
  obtain⟨e1,e2⟩:=dec_from r (a*10+(b.toNat-48)) h2;have e:((a*10+(b.toNat-48):Nat):Int)=(a:Int)*10+((b.toNat:Int)-48):=by omega
  rw[e]at e1 e2;have hd:Lib.digitVal b=some (b.toNat-48):=by rw[Lib.digitVal,if_pos h1]
  refine⟨?_,e2⟩;rw[Lib.decFrom,hd];exact e1
theorem atoi_dig{s:Y}(h0:1≤s.size)(h:dgL (bz s)=true):Lib.atoi s.data.toList=some (dval (bz s)):=by
 have hb:bz s=zl s.data.toList:=rfl;have hl:s.data.toList.length=s.size:=rfl;rw[hb]at h ⊢;generalize s.data.toList=l at*;cases l with
 | nil=>simp at hl;omega
 | cons b r=>
  have h1:48≤b.toNat∧b.toNat≤57:=by
   have h:dgL ((b.toNat:Int)::zl r)=true:=h;simp only[dgL,List.all_cons,jaf,jae]at h;omega
  have n45:(b==45)=false:=by
   cases q:b==45 with
   | false=>rfl
   | true=>have:=eq_of_beq q;rw[this]at h1;revert h1;decide
  have n43:(b==43)=false:=by
   cases q:b==43 with
   | false=>rfl
   | true=>have:=eq_of_beq q;rw[this]at h1;revert h1;decide
  obtain⟨e1,e2⟩:=dec_from (b::r) 0 h;rw[Lib.atoi,n45,n43];show(Lib.decNat (b::r)).map (fun m:Nat=>(m:Int))=_;have:Lib.decNat (b::r)=Lib.decFrom 0 (b::r):=rfl;rw[this,e1,Option.map_some,dval];congr 1;exact Int.toNat_of_nonneg e2
def s68(s:Y):Bool×Value:=(decide (1≤s.size∧s.size≤18) &&dgL (bz s),.tuple ⟨[.int .i64 (dval (bz s)),.nilIface]⟩)
theorem ok68:jal Tryz.prog 118 (sp1 s68):=shelf1 c68 fun s hc w _=>by
 simp only[s68,jaf,jae]at hc;refine(Any.strconv_Atoi (ρ:=Tryz.lays172_ren) Tryz.lays172 s (dval (bz s)) hc.1.2 (atoi_dig hc.1.1 hc.2) w).mono fun e w' ⟨h1,t,h2⟩=>⟨h1,?_⟩
 subst h2;exact Lib.bytesWorld_below _ _ _
end Go.Px
end
noncomputable section
set_option maxHeartbeats 3200000
namespace Go.Px
open Go Go.Ab Go.Proofs Go.Shelf
def s42(s:Y)(t:Y):Bool×Value:=(decide (s.size≤9223372036854775807∧t.size≤9223372036854775807),.tuple ⟨[.string (sz (fiS (bz s) (bz t))),.bool (fiF (bz s) (bz t)),.int .i64 (fiE (bz s))]⟩)
end Go.Px
end
section
namespace Go.Fx
open Go Go.Ab
structure Ty where
 k:Int
 p:Int
 q:Int
 v:Bool
 s:Y
structure Vl where
 n:Int
 s:Y
instance:Enc Ty where
 enc t:= .agg ⟨[.int .i64 t.k,.int .i64 t.p,.int .i64 t.q,.bool t.v,.string t.s]⟩
 dec | .agg ⟨[.int .i64 k,.int .i64 p,.int .i64 q,.bool v,.string s]⟩=>some ⟨k,p,q,v,s⟩ | _=>none
 dec_some:=by
  intro v a h;split at h
  ·cases h;rfl
  ·cases h
 plain_enc _:=rfl
instance:Enc Vl where
 enc t:= .agg ⟨[.int .i64 t.n,.string t.s]⟩
 dec | .agg ⟨[.int .i64 n,.string s]⟩=>some ⟨n,s⟩ | _=>none
 dec_some:=by
  intro v a h;split at h
  ·cases h;rfl
  ·cases h
 plain_enc _:=rfl
abbrev I(n:Int):Value:= .int .i64 n
abbrev B(b:Bool):Value:= .bool b
def e0:Y:=⟨#[]⟩
def T0:Ty:=⟨0,0,0,false,⟨#[]⟩⟩
def V0:Vl:=⟨0,⟨#[]⟩⟩
abbrev tv(t:Ty):Value:= .agg ⟨[.int .i64 t.k,.int .i64 t.p,.int .i64 t.q,.bool t.v,.string t.s]⟩
abbrev vv(v:Vl):Value:= .agg ⟨[.int .i64 v.n,.string v.s]⟩
abbrev tup(l:U):Value:= .tuple ⟨l⟩
def most(k:Int):Int:=if k=1 then 9 else 31
def jc0(t:Ty):Prop:=(t.k=1∨t.k=2)∧1≤t.p∧t.p≤most t.k∧0≤t.q∧t.q≤t.p∧(t.k=2→t.q=0)∧t.v=false∧t.s.toList=[]
instance (t:Ty):Decidable (jc0 t):=by unfold jc0;infer_instance
def base(k:Int):Int:=if k=1 then 10 else 2
def pw(b n:Int):Int:=b^n.toNat
def bnd(t:Ty):Int:=pw (base t.k) t.p
def jde(t:Ty):Int:=if jc0 t then 0 else 5
def Fit(v:Vl)(t:Ty):Prop:=v.s.toList=[]∧ -bnd t<v.n∧v.n<bnd t
instance (v:Vl)(t:Ty):Decidable (Fit v t):=by unfold Fit;infer_instance
def fits(v:Vl)(t:Ty):Int:=if jc0 t then(if Fit v t then 0 else 6)else 5
def scl(n d:Int):Int:=if 0≤d then n*pw 10 d else n.tdiv (pw 10 (-d))
def InB(n:Int)(t:Ty):Prop:= -bnd t<n∧n<bnd t
instance (n:Int)(t:Ty):Decidable (InB n t):=by unfold InB;infer_instance
def cutN(n:Int)(t:Ty):Int:=if InB n t then n else n.tmod (bnd t)
def cutC(n:Int)(t:Ty)(c:Int):Int:=if InB n t then 0 else c
def R64(n:Int):Prop:= -9223372036854775808≤n∧n≤9223372036854775807
instance (n:Int):Decidable (R64 n):=by unfold R64;infer_instance
def zer(op b:Int):Prop:=(op=9∨op=10)∧b=0
instance (op b:Int):Decidable (zer op b):=by unfold zer;infer_instance
def Q18(n:Int):Prop:= -4000000000000000000≤n∧n≤4000000000000000000
instance (n:Int):Decidable (Q18 n):=by unfold Q18;infer_instance
def quoOK(a b up:Int):Prop:=b≠0∧ -18≤up∧up≤18∧Q18 a∧Q18 b∧(0≤up→Q18 (a*pw 10 up))∧(up<0→Q18 (b*pw 10 (-up)))
instance (a b up:Int):Decidable (quoOK a b up):=by unfold quoOK;infer_instance
def dvOK(op y:Int):Prop:=op=10→y≠0
instance (op y:Int):Decidable (dvOK op y):=by unfold dvOK;infer_instance
def rOK(n u:Int):Prop:=1≤u∧u≤1000000000∧ -4000000000000000000≤n∧n≤4000000000000000000
instance (n u:Int):Decidable (rOK n u):=by unfold rOK;infer_instance
theorem w64{n:Int}(h: -9223372036854775808≤n∧n≤9223372036854775807):IntKind.i64.wrap n=n:=by rw[IntKind.wrap_i64];omega
theorem str0(s:Y):(!s.toList==(ByteArray.mk #[]).toList)= !decide (s.toList=[]):=by
 have:(ByteArray.mk #[]).toList=[]:=by kernel_rfl
 rw[this];cases s.toList<;>rfl
end Go.Fx
namespace Go.Fx
open Go Go.Ab
theorem jb8(a b:Int):IntKind.i64.wrap (IntKind.i64.wrap a*b)=IntKind.i64.wrap (a*b):=by
 simp only[IntKind.wrap_i64]
 have h:((a+9223372036854775808)%18446744073709551616-9223372036854775808)*b=a*b+18446744073709551616*(-((a+9223372036854775808)/18446744073709551616)*b):=by
  have:=Int.emod_def (a+9223372036854775808) 18446744073709551616;rw[this];grind
 rw[h];omega
theorem jch(b:Int){n:Int}(h:n≤0):pw b n=1:=by
 rw[pw,show n.toNat=0 by omega,Int.pow_zero]
theorem jcl(b:Int){n:Int}(h:0≤n):pw b (n+1)=pw b n*b:=by
 rw[pw,pw,show(n+1).toNat=n.toNat+1 by omega,Int.pow_succ]
theorem pw_add(b:Int){n m:Int}(h:0≤n)(h':0≤m):pw b (n+m)=pw b n*pw b m:=by
 rw[pw,pw,pw,show(n+m).toNat=n.toNat+m.toNat by omega,Int.pow_add]
theorem jhl{b:Int}(hb:1≤b)(n:Int):1≤pw b n:=by
 have:0<b^n.toNat:=Int.pow_pos (by omega);unfold pw;omega
theorem pw_le{b:Int}(hb:1≤b){n m:Int}(h:n≤m):pw b n≤pw b m:=by
 rcases Int.le_total n 0 with hn | hn
 ·rw[jch b hn];exact jhl hb m
 ·have e:m=n+(m-n):=by omega
  rw[e,pw_add b hn (by omega)];have h1:=jhl hb n;have h2:=jhl hb (m-n);have:=Int.mul_le_mul_of_nonneg_left h2 (show 0≤pw b n by omega);omega
theorem pw10_18:pw 10 18=1000000000000000000:=by decide
end Go.Fx
namespace Go.Fx
open Go Go.Ab
theorem jdk{b p:Int}(h:b=10∧p≤18∨b=2∧p≤62):IntKind.i64.wrap (pw b p)=pw b p:=by
 have h3:pw 2 62=4611686018427387904:=by decide
 have h4:=pw10_18;rcases h with⟨rfl,h⟩ | ⟨rfl,h⟩
 ·have h1:=pw_le (b:=10) (by omega) h;have h2:=jhl (b:=10) (by omega) p;exact w64 (by omega)
 ·have h1:=pw_le (b:=2) (by omega) h;have h2:=jhl (b:=2) (by omega) p;exact w64 (by omega)
end Go.Fx
namespace Go.Fx
open Go Go.Ab
end Go.Fx
namespace Go.Fx
end Go.Fx
namespace Go.Fx
open Go Go.Ab
end Go.Fx
namespace Go.Fx
open Go Go.Ab
end Go.Fx
end
section
namespace Go.Cv
def dig(c:Int):Bool:=decide (48≤c∧c≤57)
def jj0(l:List Int):Bool:=l.all fun c=>decide (c=48∨c=49)
def jjy(l:List Int):Bool:=l.all dig
def ahead(c:Int)(l:List Int):List Int:=l.takeWhile (· !=c)
def past(c:Int)(l:List Int):Option (List Int):=match l.dropWhile (· !=c)with
 | []=>none
 | _::r=>some r
def expD(l:List Int):Option Int:=if 1≤l.length∧l.length≤2∧jjy l=true then some (l.foldl (fun a c=>10*a+(c-48)) 0)else none
def expZ:List Int→Option Int
 | 43::l=>expD l
 | 45::l=>(expD l).map fun n=> -n
 | l=>expD l
abbrev Num:=Bool×List Int×Int
section
variable (jh0 : Bool → List Int → Int → Num) (binD : List Int → List Int)
def decR(neg:Bool)(l:List Int):Option Num:=
 match (match past 69 l with | none=>some 0 | some x=>expZ x)with
 | none=>none
 | some e=>
  let s:=ahead 69 l
  let whole:=ahead 46 s
  let part:=(past 46 s).getD []
  if whole++part≠ []∧jjy whole=true∧jjy part=true then some (jh0 neg (whole++part) (part.length-e))else none
structure Rd where
 neg:Bool:=false
 bin:Bool:=false
 down:Bool:=false
 ds:List Int:=[]
 sc:Int:=0
 pw:Int:=0
end
section
variable {jh0 : Bool → List Int → Int → Num} {binD : List Int → List Int}
end
end Go.Cv
end
noncomputable section
namespace Go.Cx
open Go Go.Ab Go.Proofs Go.Shelf Go.Px
open Go.Fx (Ty Vl)
structure Nu where
 g:Bool
 d:Y
 c:Int
instance:Enc Nu where
 enc t:= .agg ⟨[.bool t.g,.string t.d,.int .i64 t.c]⟩
 dec | .agg ⟨[.bool g,.string d,.int .i64 c]⟩=>some ⟨g,d,c⟩ | _=>none
 dec_some:=by
  intro v a h;split at h
  ·cases h;rfl
  ·cases h
 plain_enc _:=rfl
theorem c154:ja6 Tryz.prog 80:=cal Tryz.func80 (by kernel_rfl) (by kernel_rfl)
theorem c131:ja6 Tryz.prog 218:=cal Tryz.func218 (by kernel_rfl) (by kernel_rfl)
theorem c55:ja6 Tryz.prog 67:=cal Tryz.func67 (by kernel_rfl) (by kernel_rfl)
theorem c30:ja6 Tryz.prog 72:=cal Tryz.func72 (by kernel_rfl) (by kernel_rfl)
theorem c29:ja6 Tryz.prog 175:=cal Tryz.func175 (by kernel_rfl) (by kernel_rfl)
def tlZ(l:E)(c:Int):E:=l.dropWhile (· ==c)
def trZ(l:E)(c:Int):E:=(l.reverse.dropWhile (· ==c)).reverse
noncomputable def s154 (s t : Y) : Bool × Value := (oneB t && asc (bz t), .string (szO (tlZ (bz s) ((bz t).getD 0 0))))
theorem ok154:jal Tryz.prog 80 (sp2 s154):=jct c154 fun s t hc w _=>by
 simp only[s154,jaf]at hc;obtain⟨c,h1,h2⟩:=je0 hc.1;have hlt:c.toNat<128:=jcz hc.2 0 c (by rw[h1];rfl);have e:Enc.enc t=Value.string ⟨#[c]⟩:=congrArg Value.string h1;rw[e];refine(Any.strings_TrimLeft_one Tryz.lays161 s c hlt w).mono fun e w' ⟨h3,h4⟩=>⟨?_,jbx h4⟩
 rw[h3,jgh];simp only[s154,Lib.trimLeftB,jd3,tlZ];rw[jem (q:=(· ==(bz t).getD 0 0)) (fun b=>by rw[←h2,Bool.eq_iff_iff,beq_iff_eq,beq_iff_eq,ji2]),jhu]
noncomputable def s131 (s t : Y) : Bool × Value := (decide (s.size ≤ 9223372036854775807) && (oneB t && asc (bz t)), .string (szO (trZ (bz s) ((bz t).getD 0 0))))
theorem ok131:jal Tryz.prog 218 (sp2 s131):=jct c131 fun s t hc w _=>by
 simp only[s131,jaf,jae]at hc;obtain⟨c,h1,h2⟩:=je0 hc.2.1;have hlt:c.toNat<128:=jcz hc.2.2 0 c (by rw[h1];rfl);have e:Enc.enc t=Value.string ⟨#[c]⟩:=congrArg Value.string h1;rw[e];refine(Any.strings_TrimRight_one Tryz.lays162 s c hlt w hc.1).mono fun e w' ⟨h3,h4⟩=>⟨?_,jbx h4⟩
 rw[h3,jgh];simp only[s131,Lib.trimRightB,jd3,trZ];rw[zl,List.map_reverse];have hq:∀b:UInt8,(b==c)=((b.toNat:Int)==(bz t).getD 0 0):=fun b=>by rw[←h2,Bool.eq_iff_iff,beq_iff_eq,beq_iff_eq,ji2]
 have:=jem (p:=(· ==c)) (q:=(· ==(bz t).getD 0 0)) hq s.data.toList.reverse;rw[zl,zl,List.map_reverse]at this;rw[this];rfl
noncomputable def s55 (s t : Y) : Bool × Value := (decide (s.size ≤ 9223372036854775807) && (decide (t.size ≤ 1000) && asc (bz t)), .string (szO (je8 (bz s) (bz t))))
theorem ok55:jal Tryz.prog 67 (sp2 s55):=jct c55 fun s t hc w _=>by
 simp only[s55,jaf,jae]at hc;obtain⟨h1,h2,h3⟩:=hc;refine(Any.strings_Trim_laid Tryz.lays160 jg6 s t w (by omega) (by omega) (jcz h3)).mono fun e w' ⟨h5,h6⟩=>⟨?_,h6⟩
 rw[h5,jgh,trim_zl];simp only[s55,jd3];rfl
def s30(s:Y)(n:Int):Bool×Value:=(decide (0≤n∧n≤1000∧s.size≤1000),.string (szO (repZ (bz s) n.toNat)))
theorem ok30:jal Tryz.prog 72 (sp2 s30):=jct c30 fun s n hc w _=>by
 obtain⟨h1,h2,h3⟩:=jab hc
 have e:Enc.enc n=Value.int .i64 (n.toNat:Int):=by
  show Value.int .i64 n=_;rw[Int.toNat_of_nonneg h1]
 rw[e];have hm:s.size*n.toNat≤1000*1000:=Nat.mul_le_mul h3 (by omega);refine(Any.strings_Repeat Tryz.lays105 Tryz.Builder_Extra_105 s n.toNat w (by omega) (by omega)).mono fun e w' ⟨h4,h5⟩=>⟨?_,h5⟩
 rw[h4,jgh,rep_zl];simp only[s30,jd3];rfl
def itoZ(n:Int):E:=zl (Lib.itoa n)
def s29(n:Int):Bool×Value:=(decide (-9223372036854775808≤n∧n≤9223372036854775807),.string (szO (itoZ n)))
theorem ok29:jal Tryz.prog 175 (sp1 s29):=shelf1 c29 fun n hc w ht=>by
 obtain⟨h0,h1⟩:=jab hc;refine(Any.strconv_Itoa (ρ:=Tryz.laysM171_ren) Tryz.laysM171 n h0 h1 w (tab_pow ht)).mono fun e w' ⟨h2,k,os,h3⟩=>⟨?_,by rw[h3];exact Lib.below_grow _ _ (Nat.le_refl _) _ _⟩
 rw[h2,jgh];simp only[s29,jd3];rfl
end Go.Cx
end
