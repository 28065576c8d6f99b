/-
  Part 1: the run and laws.
-/
import Derived.Test.YtpflidodnhbeoaaGreatDoorHAb1
import Derived.Test.YtpflidodnhbeoaaGreatDoorHAb2
import Derived.Test.YtpflidodnhbeoaaGreatDoorHAb3
import Derived.Test.YtpflidodnhbeoaaGreatDoorHAb4
import Derived.Test.YtpflidodnhbeoaaGreatDoorHAb5
import Derived.Test.YtpflidodnhbeoaaGreatDoorHAb6
import Derived.Test.YtpflidodnhbeoaaGreatDoorHAb7
import Derived.Test.YtpflidodnhbeoaaGreatDoorHAbE
import Derived.Test.YtpflidodnhbeoaaGreatDoorHAb8
import Derived.Test.YtpflidodnhbeoaaGreatDoorHAb9
import Derived.Test.YtpflidodnhbeoaaGreatDoorHAb10
import Derived.Test.YtpflidodnhbeoaaGreatDoorHAb11
import Derived.Test.YtpflidodnhbeoaaGreatDoorHAb12
import Derived.Test.YtpflidodnhbeoaaGreatDoorHAb13
import Derived.Test.YtpflidodnhbeoaaGreatDoorHAb14
import Derived.Test.YtpflidodnhbeoaaGreatDoorHAb15
import Derived.Test.YtpflidodnhbeoaaGreatDoorHAb16
import Derived.Test.YtpflidodnhbeoaaGreatDoorHAb17
import Derived.Test.YtpflidodnhbeoaaGreatDoorHAb18
import Derived.Test.YtpflidodnhbeoaaGreatDoorHAb19
import Derived.WalkKit
import Derived.ProofKit
import Derived.Test.YtpflidodnhbeoaaGreatDoorLays
import Derived.Laws.RangeAny
import Derived.Shelf.Strings.LastIndex
import Derived.Shelf.Strconv.Itoa3
import Derived.Shelf.Strconv.AppendUint10
import Derived.Lib.ItoaLen
import Derived.Shelf.Strconv.Atoi
import Derived.Lib.AtoiErrMem
import Derived.Laws.BitsLemmas
import Derived.Lib.Strings
import Derived.Test.YtpflidodnhbeoaaGreatDoorProg
import Derived.LaidEql
import Derived.Stop.Asserts
import Derived.RowKitTokens
import Derived.Shelf.Small.Strs
import Derived.JoinedOf
import Derived.SevenTiedAt
import Derived.Test.YtpflidodnhbeoaaGreatDoorRows
import Derived.Lay
import Derived.LaidHandle
import Derived.LaidSub
import Derived.Lib.LaidTab
import Derived.Lib.LaidU8
import Derived.LaidMore
set_option linter.unusedVariables false
set_option linter.unusedSimpArgs false
section
namespace Go.Px
open Go Go.Ab
def bz(s:ByteArray):List Int:=s.data.toList.map fun b=>(b.toNat:Int)
def sz(l:List Int):ByteArray:=⟨(l.map fun n=>UInt8.ofNat n.toNat).toArray⟩
def IsB(l:List Int):Prop:=∀c∈l,0≤c∧c<256
@[simp] theorem jap (s:ByteArray):(bz s).length=s.size:=by
 unfold bz;rw[List.length_map,Array.length_toList];rfl
theorem jeo(s:ByteArray)(i:Nat):jak s i=(bz s).getD i 0:=by
 simp only[jak,bz,List.getD_eq_getElem?_getD,List.getElem?_map]
theorem jd0(s:ByteArray):IsB (bz s):=by
 intro c hc;simp only[bz,List.mem_map]at hc;obtain⟨b,_,rfl⟩:=hc;have:=b.toNat_lt;omega
theorem jg5(s:ByteArray):sz (bz s)=s:=by
 simp only[sz,bz,List.map_map]
 have:((fun n:Int=>UInt8.ofNat n.toNat) ∘fun b:UInt8=>(b.toNat:Int))=id:=by
  funext b;simp
 rw[this];simp
theorem jc6{l:List Int}(h:IsB l):bz (sz l)=l:=by
 simp only[sz,bz,List.map_map]
 have:∀n∈l,((fun b:UInt8=>(b.toNat:Int)) ∘fun n:Int=>UInt8.ofNat n.toNat) n=n:=by
  intro n hn;have:=h n hn;simp only[Function.comp,UInt8.toNat_ofNat'];omega
 rw[List.map_congr_left this];simp
theorem bz_inj{a b:ByteArray}(h:bz a=bz b):a=b:=by rw[←jg5 a,←jg5 b,h]
theorem jcv(a b:ByteArray):bz (a++b)=bz a++bz b:=by
 simp[bz,ByteArray.data_append]
theorem jca(s:ByteArray)(i j:Nat):bz (s.extract i j)=((bz s).take j).drop i:=by
 simp[bz,ByteArray.data_extract,List.map_drop,List.map_take,Array.toList_extract,List.extract_eq_take_drop,List.drop_take]
theorem sz_append(a b:List Int):sz (a++b)=sz a++sz b:=by
 apply ByteArray.ext;simp[sz,ByteArray.data_append]
theorem jcm(l:List Int):(sz l).size=l.length:=by simp[sz,ByteArray.size]
theorem jch(a b:ByteArray):(a.toList==b.toList)=decide (bz a=bz b):=by
 rw[ByteArray.toList_eq,ByteArray.toList_eq,Bool.eq_iff_iff,beq_iff_eq,jae];constructor
 ·intro h;simp[bz,h]
 ·intro h;have:=bz_inj h;rw[this]
theorem IsB.append{a b:List Int}(ha:IsB a)(hb:IsB b):IsB (a++b):=fun c hc=>by
 rcases List.mem_append.1 hc with h | h
 ·exact ha c h
 ·exact hb c h
theorem IsB.take{a:List Int}(ha:IsB a)(n:Nat):IsB (a.take n):=fun c hc=>ha c (List.mem_of_mem_take hc)
theorem IsB.drop{a:List Int}(ha:IsB a)(n:Nat):IsB (a.drop n):=fun c hc=>ha c (List.mem_of_mem_drop hc)
theorem IsB.nil:IsB []:=fun c hc=>by cases hc
theorem IsB.cons{c:Int}{a:List Int}(h:0≤c∧c<256)(ha:IsB a):IsB (c::a):=fun d hd=>by
 rcases List.mem_cons.1 hd with rfl | hd
 ·exact h
 ·exact ha d hd
def cz(l:List Int):List Value:=l.map fun n=> .int .u8 n
@[simp] theorem cz_length (l:List Int):(cz l).length=l.length:=by simp[cz]
theorem cz_append(a b:List Int):cz (a++b)=cz a++cz b:=by simp[cz]
theorem cz_cell:∀l:List Int,(cz l).all jfz=true
 | []=>rfl
 | c::r=>by
  have:=cz_cell r;simp only[cz]at this;simp[cz,jfz,this]
theorem jjo:∀l:List Int,ja4 (cz l)=true
 | []=>rfl
 | c::r=>by simpa[cz,ja4,plain]using jjo r
theorem jem:∀l:List Int,jcc (cz l)=true
 | []=>rfl
 | c::r=>by simpa[cz,jcc]using jem r
theorem cz_bytesL:∀l:List Int,jg4 (cz l)=l.map fun n=>UInt8.ofNat n.toNat
 | []=>rfl
 | c::r=>by
  have:=cz_bytesL r;simp only[cz]at this;simp only[cz,List.map_cons,jg4,this]
theorem bytesOf_cz(l:List Int)(tail:List Value):jbb (cz l++tail) 0 l.length=sz l:=by
 simp only[jbb,List.drop_zero];rw[List.take_append_of_le_length (by simp),List.take_of_length_le (by simp),cz_bytesL];rfl
theorem bytesOK_cz(l:List Int)(tail:List Value):jbf (cz l++tail) 0 l.length=true:=by
 simp only[jbf,List.drop_zero,jaf,Nat.ble_eq,List.length_append,cz_length];rw[List.take_append_of_le_length (by simp),List.take_of_length_le (by simp)];exact⟨jem l,by omega⟩
theorem strCells_eq(s:ByteArray):Lib.strCells s=cz (bz s):=by
 simp[Lib.strCells,cz,bz]
theorem jei(l:List Int)(i:Nat)(h:i<l.length):l.drop i=l.getD i 0::l.drop (i+1):=by
 rw[List.drop_eq_getElem_cons h];simp[List.getD_eq_getElem?_getD,h]
end Go.Px
end
section
namespace Go.Px
open Go Go.Ab Go.Proofs Go.Shelf
def punchedZ:List Int:=[123,65,66,67,68,69,70,71,72,73,125,74,75,76,77,78,79,80,81,82]
def pow10Z:List Int:=[1,10,100,1000,10000,100000,1000000,10000000,100000000,1000000000,10000000000,100000000000,1000000000000,10000000000000,100000000000000,1000000000000000,10000000000000000,100000000000000000,1000000000000000000,10000000000000000000]
def rowsT:Nat→Option (List Value)
 | 5=>some (punchedZ.map fun n=> .int .u8 n)
 | 1=>some (pow10Z.map fun n=> .int .u64 n)
 | 0=>some [.iface 229 (.agg ⟨[.pointer (some ⟨10,105,none⟩)]⟩)]
 | _=>none
instance tabs:Tabs where
 row:=rowsT
 plain:=fun b r h=>by
  match b,h with
  | 5,h=>cases h;rfl
  | 1,h=>cases h;rfl
  | 0,h=>cases h;rfl
theorem hmix:Tryz.prog.follows .mixedOrders=true:=by kernel_rfl
structure U8 where n:Int
structure R32 where n:Int
structure U64 where n:Int
instance:Enc U8 where
 enc a:= .int .u8 a.n
 dec | .int .u8 n=>some ⟨n⟩ | _=>none
 dec_some:=by
  intro v a h;split at h
  ·cases h;rfl
  ·cases h
 plain_enc _:=rfl
instance:Enc R32 where
 enc a:= .int .i32 a.n
 dec | .int .i32 n=>some ⟨n⟩ | _=>none
 dec_some:=by
  intro v a h;split at h
  ·cases h;rfl
  ·cases h
 plain_enc _:=rfl
instance:Enc U64 where
 enc a:= .int .u64 a.n
 dec | .int .u64 n=>some ⟨n⟩ | _=>none
 dec_some:=by
  intro v a h;split at h
  ·cases h;rfl
  ·cases h
 plain_enc _:=rfl
theorem pure_shelf{P:Program}{f:FuncId}{s:Ab.Spec}(hc:jbv P f)
  (h:∀args bs v,s args bs=some (true,v)→ja4 args=true∧ ∀w,TabsIn w.heap.size w→Calls P f args.toArray w fun e w'=>e= .returned v∧RowKit.Below w.heap.size w w'):jan P f s:=by
 refine⟨hc,fun args v N w0 lk ι w hrel hs hp=> ?_⟩;obtain⟨h1,h2⟩:=h _ _ _ hs;have hren:args.map (ren ι)=args:=by rw[←jbz,jb1 _ h1]
 rw[hren];exact h2 w hrel.tabs
theorem jco{w w':World}(h:w'=w):RowKit.Below w.heap.size w w':=h▸RowKit.Below.refl _ _
section
variable {α β : Type} [Enc α] [Enc β] {P : Program} {f : FuncId}
theorem shelf1(hc:jbv P f){g:α→Bool×Value}(h:∀a,(g a).1=true→ ∀w,TabsIn w.heap.size w→Calls P f #[Enc.enc a] w fun e w'=>e= .returned (g a).2∧RowKit.Below w.heap.size w w'):jan P f (sp1 g):=by
 refine pure_shelf hc fun args bs v hs=> ?_
 simp only[sp1]at hs;split at hs
 ·split at hs
  ·rename_i ha;simp only[Option.some.injEq]at hs;obtain rfl:=Enc.dec_some ha;exact⟨by simp[ja4,Enc.plain_enc],by have q:=h _ (by rw[hs]);rw[hs]at q;exact q⟩
  ·cases hs
 ·cases hs
theorem jd3(hc:jbv P f){g:α→β→Bool×Value}(h:∀a b,(g a b).1=true→ ∀w,TabsIn w.heap.size w→Calls P f #[Enc.enc a,Enc.enc b] w fun e w'=>e= .returned (g a b).2∧RowKit.Below w.heap.size w w'):jan P f (sp2 g):=by
 refine pure_shelf hc fun args bs v hs=> ?_
 simp only[sp2]at hs;split at hs
 ·split at hs
  ·rename_i ha hb;simp only[Option.some.injEq]at hs;obtain rfl:=Enc.dec_some ha;obtain rfl:=Enc.dec_some hb;exact⟨by simp[ja4,Enc.plain_enc],by have q:=h _ _ (by rw[hs]);rw[hs]at q;exact q⟩
  ·cases hs
 ·cases hs
end
def idxZ:List Int→Int→Int
 | [],_=> -1
 | b::l,c=>if b=c then 0 else if idxZ l c= -1 then -1 else idxZ l c+1
def cntZ(l:List Int)(c:Int):Nat:=(l.filter (· ==c)).length
def sufZ(l p:List Int):Bool:=decide (p.length≤l.length∧l.drop (l.length-p.length)=p)
def hasZ(l:List Int)(c:Int):Bool:=l.any (· ==c)
def anyZ(l cs:List Int):Bool:=l.any (hasZ cs)
def jcd(l cs:List Int):List Int:=((l.reverse.dropWhile (hasZ cs)).reverse).dropWhile (hasZ cs)
def repZ(l:List Int):Nat→List Int
 | 0=> []
 | n+1=>l++repZ l n
def numZ:List Int→Int→Int
 | [],a=>a
 | c::r,a=>numZ r (a*10+(c-48))
def je1(c:Int):Bool:=decide (48≤c∧c≤57)
abbrev zl(l:List UInt8):List Int:=l.map fun b=>(b.toNat:Int)
theorem u8_eq{a b:UInt8}:((a.toNat:Int)=b.toNat)↔a=b:=by
 rw[Int.natCast_inj,UInt8.toNat_inj]
theorem idx_zl(c:UInt8):∀l:List UInt8,Lib.indexByte l c=idxZ (zl l) c.toNat
 | []=>rfl
 | b::l=>by
  simp only[Lib.indexByte,zl,List.map_cons,idxZ,idx_zl c l,u8_eq,beq_iff_eq]
theorem has_zl(c:UInt8):∀l:List UInt8,l.contains c=hasZ (zl l) c.toNat
 | []=>rfl
 | b::l=>by
  have:=has_zl c l;simp only[hasZ,zl]at this;rw[List.contains_cons,this];simp only[hasZ,zl,List.map_cons,List.any_cons];congr 1;rw[Bool.eq_iff_iff,beq_iff_eq,beq_iff_eq,u8_eq];exact eq_comm
theorem jbc{l:List Int}{c:Int}:hasZ l c=true↔c∈l:=by simp[hasZ]
theorem jf5(c:Int):∀l:List Int,-1≤idxZ l c∧(0≤idxZ l c↔c∈l)
 | []=>by simp[idxZ]
 | b::l=>by
  obtain⟨h1,h2⟩:=jf5 c l;simp only[idxZ,List.mem_cons];by_cases hb:b=c
  ·simp[hb]
  ·rw[if_neg hb];have hb':¬c=b:=fun h=>hb h.symm
   split
   ·rename_i h;rw[h]at h2;simp only[hb',false_or];exact⟨by omega,by rw[←h2]⟩
   ·exact⟨by omega,by simp only[hb',false_or];rw[←h2];omega⟩
theorem cnt_zl(c:UInt8):∀l:List UInt8,Lib.countByte l c=cntZ (zl l) c.toNat
 | []=>rfl
 | b::l=>by
  have ih:=cnt_zl c l;simp only[Lib.countByte,cntZ,zl]at ih;simp only[Lib.countByte,cntZ,zl,List.map_cons,List.count_cons,List.filter_cons,ih];by_cases hb:b=c
  ·simp[hb]
  ·have:((b.toNat:Int)==(c.toNat:Int))=false:=by simpa[u8_eq]using hb
   simp[hb,this]
theorem zl_inj{a b:List UInt8}(h:zl a=zl b):a=b:=by
 have:=bz_inj (a:=⟨a.toArray⟩) (b:=⟨b.toArray⟩) (by simpa[bz]using h);simpa using congrArg (fun s:ByteArray=>s.data.toList) this
theorem suf_zl(s p:List UInt8):Lib.hasSuffix s p=sufZ (zl s) (zl p):=by
 rw[Bool.eq_iff_iff];simp only[Lib.hasSuffix,sufZ,List.isSuffixOf_iff_suffix,jae,List.length_map];constructor
 ·rintro ⟨t,rfl⟩;exact⟨by simp,by simp⟩
 ·rintro ⟨h1,h2⟩;rw[←List.map_drop]at h2;have e:=zl_inj h2;exact⟨s.take (s.length-p.length),(congrArg (s.take (s.length-p.length)++ ·) e.symm).trans (List.take_append_drop ..)⟩
theorem jfp{p:UInt8→Bool}{q:Int→Bool}(h:∀b:UInt8,p b=q b.toNat):∀l:List UInt8,zl (l.dropWhile p)=(zl l).dropWhile q
 | []=>rfl
 | b::l=>by
  simp only[List.dropWhile_cons,zl,List.map_cons,h b];split
  ·exact jfp h l
  ·rfl
theorem trim_zl(l cs:List UInt8):zl (Lib.trimS l cs)=jcd (zl l) (zl cs):=by
 have h:∀b:UInt8,cs.contains b=hasZ (zl cs) b.toNat:=fun b=>has_zl b cs
 simp only[Lib.trimS,Lib.trimLeftS,Lib.trimRightS,jcd];rw[jfp (q:=hasZ (zl cs)) h];congr 1;rw[zl,List.map_reverse,←List.map_reverse];have:=jfp (p:=(cs.contains ·)) (q:=hasZ (zl cs)) h l.reverse;rw[List.map_reverse];simp only[zl,List.map_reverse]at this ⊢;rw[this]
theorem rep_zl(l:List UInt8):∀n,zl (Lib.repeatL l n)=repZ (zl l) n
 | 0=>rfl
 | n+1=>by
  have:=rep_zl l n;simp only[zl]at this;simp[Lib.repeatL,repZ,zl,this]
theorem jhm(l:List UInt8):(⟨l.toArray⟩:ByteArray)=sz (zl l):=by
 rw[←jg5 ⟨l.toArray⟩];simp[bz]
theorem bz_zl(s:ByteArray):zl s.data.toList=bz s:=rfl
theorem cal {P : Program} {f : FuncId} {fn : Func} (h : P.funcs[f]? = some fn) (hn : (fn.name == "runtime.NumGoroutine") = false) (hb : fn.body.isSome = true) : jbv P f := ⟨fn, h, hn, by cases hf : fn.body with | none => rw [hf] at hb; cases hb | some c => rfl⟩
theorem c141:jbv Tryz.prog 272:=cal Tryz.func272 (by kernel_rfl) (by kernel_rfl)
theorem c157:jbv Tryz.prog 279:=cal Tryz.func279 (by kernel_rfl) (by kernel_rfl)
theorem c130:jbv Tryz.prog 130:=cal Tryz.func130 (by kernel_rfl) (by kernel_rfl)
theorem c132:jbv Tryz.prog 129:=cal Tryz.func129 (by kernel_rfl) (by kernel_rfl)
theorem c102:jbv Tryz.prog 203:=cal Tryz.func203 (by kernel_rfl) (by kernel_rfl)
theorem c89:jbv Tryz.prog 55:=cal Tryz.func55 (by kernel_rfl) (by kernel_rfl)
theorem c88:jbv Tryz.prog 154:=cal Tryz.func154 (by kernel_rfl) (by kernel_rfl)
theorem c78:jbv Tryz.prog 30:=cal Tryz.func30 (by kernel_rfl) (by kernel_rfl)
theorem c68:jbv Tryz.prog 206:=cal Tryz.func206 (by kernel_rfl) (by kernel_rfl)
def s141(s:ByteArray)(c:U8):Bool×Value:=(decide (0≤c.n∧c.n<256),.int .i64 (idxZ (bz s) c.n))
theorem ok141:jan Tryz.prog 272 (sp2 s141):=jd3 c141 fun s c hc w _=>by
 have hc:0≤c.n∧c.n<256:=jab hc;refine(Any.strings_IndexByte Tryz.lays137 s c.n w).mono fun e w' ⟨h1,h2⟩=>⟨?_,jco h2⟩
 rw[h1,idx_zl];simp only[s141]
 have:((c.n.toNat.toUInt8.toNat:Nat):Int)=c.n:=by
  simp only[Nat.toUInt8,UInt8.toNat_ofNat'];omega
 rw[this,bz_zl]
def oneB(s:ByteArray):Bool:=Nat.beq s.size 1
theorem jef{s:ByteArray}(h:oneB s=true):∃c:UInt8,s=⟨#[c]⟩∧(c.toNat:Int)=(bz s).getD 0 0:=by
 have h:=jah h;have hl:s.data.toList.length=1:=by simpa using h
 match hm:s.data.toList,hl with
 | [c],_=>
  refine⟨c,?_,by simp[bz,hm]⟩;apply ByteArray.ext;apply Array.ext';simpa using hm
def s157(s t:ByteArray):Bool×Value:=(oneB t,.int .i64 (cntZ (bz s) ((bz t).getD 0 0)))
theorem ok157:jan Tryz.prog 279 (sp2 s157):=jd3 c157 fun s t hc w _=>by
 obtain⟨c,h1,h2⟩:=jef hc;have e:Enc.enc t=Value.string ⟨#[c]⟩:=congrArg Value.string h1;rw[e];refine(Any.strings_Count_one Tryz.lays138 s c w).mono fun e w' ⟨h3,h4⟩=>⟨?_,jco h4⟩
 rw[h3,cnt_zl,h2];rfl
def s132(s t:ByteArray):Bool×Value:=(oneB t,.bool (hasZ (bz s) ((bz t).getD 0 0)))
theorem ok132:jan Tryz.prog 129 (sp2 s132):=jd3 c132 fun s t hc w _=>by
 obtain⟨c,h1,h2⟩:=jef hc;have e:Enc.enc t=Value.string ⟨#[c]⟩:=congrArg Value.string h1;rw[e];refine(Any.strings_Contains_one Tryz.lays144 s c w).mono fun e w' ⟨h3,h4⟩=>⟨?_,jco h4⟩
 rw[h3];simp only[s132];rw[←h2];congr 2;rw[Bool.eq_iff_iff,jae,idx_zl,(jf5 _ _).2,jbc,bz_zl]
def s130(s t:ByteArray):Bool×Value:=(decide (s.size≤9223372036854775807),.bool (sufZ (bz s) (bz t)))
theorem ok130:jan Tryz.prog 130 (sp2 s130):=jd3 c130 fun s t hc w _=>by
 refine(Any.strings_HasSuffix Tryz.lays100 s t w (jab hc)).mono fun e w' ⟨h3,h4⟩=>⟨?_,jco h4⟩
 rw[h3,suf_zl];rfl
def asc(l:List Int):Bool:=l.all fun c=>decide (c<128)
theorem jez{s:ByteArray}(h:asc (bz s)=true):∀(j:Nat) b,s.data.toList[j]?=some b→b.toNat<128:=fun j b hb=>by
 simp only[asc,bz,List.all_map,List.all_eq_true]at h;have:=h b (List.mem_of_getElem? hb);simp at this;omega
theorem info128:(Tryz.prog.info? (Tryz.lays150_ren.t 116)).map (fun i=>(i.zero,i.size))=some (some (.agg (Array.replicate 256 (.bool false))),256):=by kernel_rfl
theorem info128':(Tryz.prog.info? (Tryz.lays160_ren.t 116)).map (fun i=>(i.zero,i.size))=some (some (.agg (Array.replicate 256 (.bool false))),256):=by kernel_rfl
theorem indexAny_zl(cs:List UInt8):∀l:List UInt8,(0≤Lib.indexAny l cs)↔anyZ (zl l) (zl cs)=true
 | []=>by simp[Lib.indexAny,anyZ]
 | b::l=>by
  have ih:=indexAny_zl cs l;have g:=Lib.indexAny_ge cs l;have hb:hasZ (zl cs) b.toNat=cs.contains b:=(has_zl b cs).symm;simp only[anyZ,zl,List.map_cons,List.any_cons]at ih hb ⊢;rw[hb];unfold Lib.indexAny;split
  ·simp_all
  ·rename_i hn;have hn:cs.contains b=false:=by simpa using hn
   rw[hn,Bool.false_or,←ih];split
   ·rename_i h;have h:=eq_of_beq h;constructor<;>intro<;>omega
   ·rename_i h;have h:Lib.indexAny l cs≠ -1:=by simpa using h
    constructor<;>intro<;>omega
def s102(s t:ByteArray):Bool×Value:=(decide (s.size≤1000) && (decide (t.size≤1000) && (asc (bz s) &&asc (bz t))),.bool (anyZ (bz s) (bz t)))
theorem ok102:jan Tryz.prog 203 (sp2 s102):=jd3 c102 fun s t hc w _=>by
 simp only[s102,jaf,jae]at hc;obtain⟨h1,h2,h3,h4⟩:=hc;refine(Any.strings_ContainsAny_laid Tryz.lays150 info128 s t w (by omega) (by omega) (jez h3) (jez h4)).mono fun e w' ⟨h5,h6⟩=>⟨?_,h6⟩
 rw[h5];simp only[s102];congr 2;rw[Bool.eq_iff_iff,Lib.containsAny,jae,indexAny_zl];rfl
theorem szO_ex:∃f:List Int→ByteArray,f=sz:=⟨_,rfl⟩
noncomputable def szO : List Int → ByteArray := Classical.choose szO_ex
theorem jc0(l:List Int):szO l=sz l:=by rw[szO,Classical.choose_spec szO_ex]
noncomputable def s89 (s t : ByteArray) : Bool × Value := (decide (s.size ≤ 1000) && (decide (t.size ≤ 1000) && asc (bz t)), .string (szO (jcd (bz s) (bz t))))
theorem ok89:jan Tryz.prog 55 (sp2 s89):=jd3 c89 fun s t hc w _=>by
 simp only[s89,jaf,jae]at hc;obtain⟨h1,h2,h3⟩:=hc;refine(Any.strings_Trim_laid Tryz.lays160 info128' s t w (by omega) (by omega) (jez h3)).mono fun e w' ⟨h5,h6⟩=>⟨?_,h6⟩
 rw[h5,jhm,trim_zl];simp only[s89,jc0];rfl
def s88(s t:ByteArray):Bool×Value:=(oneB t&&asc (bz t),.string (sz ((bz s).dropWhile (· ==(bz t).getD 0 0))))
theorem ok88:jan Tryz.prog 154 (sp2 s88):=jd3 c88 fun s t hc w _=>by
 simp only[s88,jaf]at hc;obtain⟨c,h1,h2⟩:=jef hc.1;have hlt:c.toNat<128:=jez hc.2 0 c (by rw[h1];rfl);have e:Enc.enc t=Value.string ⟨#[c]⟩:=congrArg Value.string h1;rw[e];refine(Any.strings_TrimLeft_one Tryz.lays161 s c hlt w).mono fun e w' ⟨h3,h4⟩=>⟨?_,jco h4⟩
 rw[h3,jhm];simp only[s88,Lib.trimLeftB];rw[jfp (q:=(· ==(bz t).getD 0 0)) (fun b=>by rw[←h2,Bool.eq_iff_iff,beq_iff_eq,beq_iff_eq,u8_eq]),bz_zl]
def s78(s:ByteArray)(n:Int):Bool×Value:=(decide (0≤n∧n≤1000∧s.size≤1000),.string (sz (repZ (bz s) n.toNat)))
theorem ok78:jan Tryz.prog 30 (sp2 s78):=jd3 c78 fun s n hc w _=>by
 obtain⟨h1,h2,h3⟩:=jab hc
 have e:Enc.enc n=Value.int .i64 (n.toNat:Int):=by
  show Value.int .i64 n=_;rw[Int.toNat_of_nonneg h1]
 rw[e];have hm:s.size*n.toNat≤1000*1000:=Nat.mul_le_mul h3 (by omega);refine(Any.strings_Repeat Tryz.lays105 Tryz.Builder_Extra_105 s n.toNat w (by omega) (by omega)).mono fun e w' ⟨h4,h5⟩=>⟨?_,h5⟩
 rw[h4,jhm,rep_zl];rfl
end Go.Px
end
section
namespace Go.Px
open Go Go.Ab Go.Proofs
abbrev I(n:Int):Value:= .int .i64 n
abbrev B(b:Bool):Value:= .bool b
abbrev C8(n:Int):Value:= .int .u8 n
abbrev C64(n:Int):Value:= .int .u64 n
abbrev S(s:ByteArray):Value:= .string s
def e0:ByteArray:=⟨#[]⟩
theorem c_t{b:Bool}{P Q:Prop}(h:b=true)(hp:P):bif b then P else Q:=by rw[h];exact hp
theorem c_f{b:Bool}{P Q:Prop}(h:b=false)(hq:Q):bif b then P else Q:=by rw[h];exact hq
theorem w64{n:Int}(h: -9223372036854775808≤n∧n≤9223372036854775807):IntKind.wrap .i64 n=n:=by rw[IntKind.wrap_i64];omega
theorem w3{a b c d:Int}(ha:0≤a∧a≤1000)(hb:0≤b∧b≤1000)(hc:0≤c∧c≤1000)(hd:0≤d∧d≤1000):
  IntKind.wrap .i64 (IntKind.wrap .i64 (IntKind.wrap .i64 (a+b)+c)+d)=a+b+c+d:=by
 rw[w64 (n:=a+b) (by omega),w64 (n:=a+b+c) (by omega),w64 (by omega)]
theorem w8e(n:Int):IntKind.wrap .u8 n=n%256:=by
 simp[IntKind.wrap,IntKind.bits,IntKind.signed]
theorem w8{n:Int}(h:0≤n∧n<256):IntKind.wrap .u8 n=n:=by rw[w8e];omega
theorem wu64e(n:Int):IntKind.wrap .u64 n=n%18446744073709551616:=by
 simp[IntKind.wrap,IntKind.bits,IntKind.signed]
theorem wu64{n:Int}(h:0≤n∧n<18446744073709551616):IntKind.wrap .u64 n=n:=by rw[wu64e];omega
theorem jft(s:ByteArray)(i:Nat):0≤jak s i∧jak s i<256:=by
 rw[jeo,List.getD_eq_getElem?_getD];cases h:(bz s)[i]? with
 | none=>simp
 | some c=>exact jd0 s c (List.mem_of_getElem? h)
theorem jb7{s:ByteArray}{i:Int}(h0:0≤i)(h:i<s.size):(bz s).drop i.toNat=jak s i.toNat::(bz s).drop (i+1).toNat:=by
 have:=jei (bz s) i.toNat (by rw[jap];omega);rw[this,jeo];congr 2;omega
theorem jcp{s:ByteArray}{i:Int}(h:s.size≤i):(bz s).drop i.toNat=[]:=List.drop_eq_nil_of_le (by rw[jap];omega)
def upZ(c:Int):Int:=if 97≤c∧c≤122 then c-32 else c
def twoL(i:Nat)(h:jb3)(j:Nat)(h':jb3):Nat→Option jb3:=fun k=>match Nat.beq k i with | true=>some h | false=>match Nat.beq k j with | true=>some h' | false=>none
theorem jge{P:Program}{fn:Func}{i j:Nat}{h h':jb3}(hij:Nat.beq j i=false)(hb:(match fn.body with | some c=>blks (twoL i h j h') c | none=> [])=[(i,.loop (ja7 fn i)),(j,.loop (ja7 fn j))])
  (hs:∀t m n K,h t m n K→Ab.Sem P fn.ntmps (.loop (ja7 fn i)) t m n K) (hs':∀t m n K,h' t m n K→Ab.Sem P fn.ntmps (.loop (ja7 fn j)) t m n K):LOKf P (twoL i h j h') fn:=by
 unfold LOKf;split
 ·rename_i c hc;simp only[hc]at hb;refine jg1 c fun p hp k hk=> ?_
  rw[hb]at hp;simp only[List.mem_cons,List.not_mem_nil,or_false]at hp;have e:Nat.beq i i=true:=by simp
  have e':Nat.beq j j=true:=by simp
  rcases hp with rfl | rfl
  ·simp only[twoL,e,Option.some.injEq]at hk;subst hk;exact hs
  ·simp only[twoL,hij,e',Option.some.injEq]at hk;subst hk;exact hs'
 ·trivial
theorem lok_one{P:Program}{nt:Nat}{c b:Code}{id:Nat}{h:jb3}(hb:blks (oneL id h) c=[(id,b)])(hs:∀t m n K,h t m n K→Ab.Sem P nt b t m n K):LOK P (oneL id h) nt c:=by
 refine jg1 c fun p hp h' hh=> ?_
 rw[hb]at hp;simp only[List.mem_singleton]at hp;subst hp
 have:h'=h:=by
  simp only[oneL]at hh;have e:Nat.beq id id=true:=by simp
  rw[e]at hh;simpa using hh.symm
 subst this;exact hs
theorem bz_take_at{s:ByteArray}{i l:Int}(h0:0≤i)(h:i<l)(hl:l≤s.size):((bz s).take l.toNat).drop i.toNat=jak s i.toNat::((bz s).take l.toNat).drop (i+1).toNat:=by
 have hlen:((bz s).take l.toNat).length=l.toNat:=by rw[List.length_take,jap];omega
 have:=jei ((bz s).take l.toNat) i.toNat (by omega);rw[this,jeo]
 have e:((bz s).take l.toNat).getD i.toNat 0=(bz s).getD i.toNat 0:=by
  simp only[List.getD_eq_getElem?_getD];rw[List.getElem?_take,if_pos (by omega)]
 rw[e];congr 2;omega
theorem jiq(l:List Int)(c:Int):cntZ l c≤l.length:=List.length_filter_le ..
def iv:Value→Int
 | .int _ n=>n
 | _=>0
def zc(c:List Value)(n:Nat):List Int:=(c.take n).map iv
def jci(c:List Value)(n cap:Nat):Bool:=jcc (c.take n) && (ja4 c&& (Nat.beq c.length cap&& (Nat.ble n cap&&Nat.ble cap 9223372036854775807)))
theorem cz_of:∀{l:List Value},jcc l=true→cz (l.map iv)=l
 | [],_=>rfl
 | .int .u8 n::r,h=>by
  have:=cz_of (l:=r) (by simpa[jcc]using h);simp only[cz]at this;simp only[List.map_cons,cz,iv,this]
structure RowP (c:List Value)(n cap:Nat):Prop where
 bytes:jcc (c.take n)=true
 plain:ja4 c=true
 len:c.length=cap
 le:n≤cap
 cap:cap≤9223372036854775807
theorem jat{c:List Value}{n cap:Nat}:jci c n cap=true↔RowP c n cap:=by
 simp only[jci,jaf,Nat.ble_eq,Nat.beq_eq];exact⟨fun⟨h1,h2,h3,h4,h5⟩=>⟨h1,h2,h3,h4,h5⟩,fun⟨h1,h2,h3,h4,h5⟩=>⟨h1,h2,h3,h4,h5⟩⟩
theorem ja9{c:List Value}{n cap:Nat}(h:RowP c n cap):(zc c n).length=n:=by
 have h1:=h.len;have h2:=h.le;simp only[zc,List.length_map,List.length_take];omega
theorem RowP.eq{c:List Value}{n cap:Nat}(h:RowP c n cap):c=cz (zc c n)++c.drop n:=by
 rw[zc,cz_of h.bytes,List.take_append_drop]
theorem RowP.take{c:List Value}{n cap:Nat}(h:RowP c n cap):c.take n=cz (zc c n):=(cz_of h.bytes).symm
theorem RowP.str{c:List Value}{n cap:Nat}(h:RowP c n cap):jbf c 0 n=true∧jbb c 0 n=sz (zc c n):=by
 have hz:=ja9 h;have e:=h.eq;have h1:=bytesOK_cz (zc c n) (c.drop n);have h2:=bytesOf_cz (zc c n) (c.drop n);rw[←e,hz]at h1 h2;exact⟨h1,h2⟩
theorem plainL_append{a b:List Value}:ja4 (a++b)=true↔ja4 a=true∧ja4 b=true:=by
 simp only[ja8,List.mem_append];exact⟨fun h=>⟨fun v hv=>h v (.inl hv),fun v hv=>h v (.inr hv)⟩,fun⟨h1,h2⟩ v hv=>hv.elim (h1 v) (h2 v)⟩
theorem jjx(L:List Int){tail:List Value}{cap:Nat}(ht:ja4 tail=true)(hl:L.length+tail.length=cap)(hc:cap≤9223372036854775807):RowP (cz L++tail) L.length cap∧zc (cz L++tail) L.length=L:=by
 have e:(cz L++tail).take L.length=cz L:=by rw[List.take_append_of_le_length (by simp),List.take_of_length_le (by simp)]
 refine⟨⟨by rw[e];exact jem L,plainL_append.2 ⟨jjo L,ht⟩,by simp[hl],by omega,hc⟩,?_⟩;show List.map iv ((cz L++tail).take L.length)=L;rw[e];simp only[cz,List.map_map];have:(iv∘fun n:Int=>Value.int .u8 n)=id:=by funext n;rfl
 rw[this,List.map_id]
theorem je5{tail:List Value}{cap need size:Nat}(h:jay tail cap need size=true):ja4 tail=true∧tail.length+need*size=cap*size∧need≤cap∧cap≤9223372036854775807:=by
 simp only[jay,jaf,Nat.ble_eq,Nat.beq_eq]at h;exact⟨h.1.1.1,h.1.1.2,h.1.2,h.2⟩
theorem RowP.app{c:List Value}{n cap:Nat}(h:RowP c n cap)(M:List Int){tail:List Value}{cap':Nat}(ht:jay tail cap' (n+M.length) 1=true):
  RowP (c.take n++cz M++tail) (n+M.length) cap'∧zc (c.take n++cz M++tail) (n+M.length)=zc c n++M:=by
 obtain⟨t1,t2,t3,t4⟩:=je5 ht;have hz:=ja9 h;have:=jjx (zc c n++M) (tail:=tail) (cap:=cap') t1 (by simp only[List.length_append,hz];omega) t4;simp only[List.length_append,hz,cz_append]at this;rw[h.take];exact this
theorem RowP.app1{c:List Value}{n cap:Nat}(h:RowP c n cap)(x:Int){tail:List Value}{cap':Nat}(ht:jay tail cap' (n+1) 1=true):
  RowP (c.take (n*1)++ [.int .u8 x]++tail) (n+1) cap'∧zc (c.take (n*1)++ [.int .u8 x]++tail) (n+1)=zc c n++ [x]:=by
 rw[Nat.mul_one];exact h.app [x] ht
theorem RowP.ask{c:List Value}{n cap:Nat}(h:RowP c n cap){k:Nat}(hk:n+k≤1000000):
  (Nat.beq c.length (cap*1) &&Nat.ble n cap&&Nat.ble cap 9223372036854775807&&true&&jbw (n+k) 1)=true:=by
 have h1:=h.len;have h2:=h.le;have h3:=h.cap;simp only[jbw,jaf,Nat.ble_eq,Nat.beq_eq,Nat.mul_one];exact⟨⟨⟨⟨h1,h2⟩,h3⟩,trivial⟩,by omega,by omega⟩
theorem jgn(M:List Int){tail:List Value}{cap':Nat}(ht:jay tail cap' M.length 1=true):RowP (cz M++tail) M.length cap'∧zc (cz M++tail) M.length=M:=by
 obtain⟨t1,t2,t3,t4⟩:=je5 ht;exact jjx M t1 (by omega) t4
theorem RowP.good{c:List Value}{n cap:Nat}(h:RowP c n cap)(ps:List (Nat×Nat)):jav ps c=true:=goodL_plain h.plain
theorem RowP.rlb{c:List Value}{n cap:Nat}(h:RowP c n cap)(ps:List (Nat×Nat)):rlbL ps c=c:=rlbL_plain ps h.plain
theorem jfu{d:List Value}{m cap:Nat}(hr:RowP d m cap)(hm:m≤100000)(x:Int)(ps:List (Nat×Nat))(K:Nat→List Value→Prop)
  (h:∀(cap':Nat)(d':List Value),RowP d' (m+1) cap'→zc d' (m+1)=zc d m++ [x]→K cap' d'):
  bif Nat.beq d.length (cap*1) &&Nat.ble m cap&&Nat.ble cap 9223372036854775807&&true&&jbw (m+1) 1 then
   ∀(cap1:Nat)(tail:List Value),jay tail cap1 (m+1) 1=true→
    bif jav ps (List.take (m*1) d++ [.int .u8 x]++tail) &&true&&true then K cap1 (rlbL ps (List.take (m*1) d++ [.int .u8 x]++tail))else False
  else False:=by
 rw[hr.ask (k:=1) (by omega)];intro cap1 tail ht;obtain⟨h1,h2⟩:=hr.app1 x ht;rw[h1.good,h1.rlb];exact h cap1 _ h1 h2
theorem jbg{c:List Value}(h:ja4 c=true)(n:Nat):ja0 n c=true:=by
 simp[ja0,jaq h]
def G0:Env:=Env.nil
theorem ok_G0:jax Tryz.prog G0:=jao
def s82(c:U8):Bool×Value:=(decide (0≤c.n∧c.n<256),.int .u8 (upZ c.n))
theorem fn82:Fn1 Tryz.prog 211 Tryz.f211:= .m Tryz.func211
def qcf(a b:Bool)(d e:Value)(c:Value→Prop):Prop:=bif a then bif b then c d else c e else False
def qa2(a b c:Int):Bool:=decide (a≥b) &&decide (a≤c)
def qfv(a b:Int):Bool:=decide (a≥b) || true
theorem v82(c:U8)(R:Value→Prop):ja1 Tryz.prog G0 noL Tryz.f211 [Enc.enc c] (fun _=>none) 0 (fun v _ _=>R v)=(qcf (qfv (U8.n c) 97) (qa2 (U8.n c) 97 122) (.int .u8 (IntKind.u8.wrap (IntKind.u8.wrap (U8.n c-97)+65))) (.int .u8 (U8.n c)) R):=by kernel_rfl
theorem ok82:jan Tryz.prog 211 (sp1 s82):=by
 refine jb9 ok_G0 hmix fn82 jai jag fun c hc=> ?_
 rw[ja2,v82];delta qcf qa2 qfv;have hc:(0≤c.n∧c.n<256):=jab hc;dsimp only[s82];unfold upZ;refine c_t (by simp) ?_;apply cond_intro<;>intro h
 ·have h:97≤c.n∧c.n≤122:=by simpa using h
  rw[if_pos h,w8 (n:=c.n-97) (by omega),w8 (by omega),show c.n-97+65=c.n-32 by omega]
 ·have h:¬(97≤c.n∧c.n≤122):=by simpa using h
  rw[if_neg h]
def V40_0:ByteArray×Int×Bool×Int→List Value:=fun(s,c,b,i)=> [S s,C8 c,B b,I i]
def B40_0:ByteArray×Int×Bool×Int→List (Option Blk):=fun _=> []
def S40_0:LSpec (ByteArray×Int×Bool×Int) where
 live:=[0,1,4,5]
 mid:=[]
 n:=60
 dec vs bs:=match vs,bs with | [.string s,.int .u8 c,.bool b,.int .i64 i],[]=>some (s,c,b,i) | _,_=>none
 pre:=fun(s,c,b,i)=>decide (0≤i∧i≤s.size∧s.size≤9223372036854775807)
 fin:=fun(s,c,b,i) Z=>(bif hasZ ((bz s).drop i.toNat) c then(∀i',Z .ret [S s,C8 c,B true,I i'] [])else Z (.exit 0) [S s,C8 c,B b,I s.size] [])
def qf8(a b:Bool)(c d:Prop):Prop:=bif a then bif b then c else d else False
def qfq(a:ByteArray):Int:=(a.size:Int)
def qcr(b:ByteArray)(a:Int):Bool:=decide (a<qfq b)
def qc5(c d:Bool)(a:ByteArray)(g:Exit→List Value→List (Option Blk)→Prop)(b:Int)(l:List (Option Blk))(k:List Value)(h:Nat)(e f:Prop)(i j:Value):Prop:=bif qcr a b then qf8 c d e f else g (.exit h) (i::j::k) l
def qe7(a:Int):Value:= .int .u8 a
def qes(b:ByteArray)(a:Exit→List Value→List (Option Blk)→Prop)(d:List Value)(c:Value):Prop:=a .normal (S b::c::d) []
def qaw(a:Int):Int:=IntKind.i64.wrap (a+1)
def qbw(a:Int):Value:=I (qaw a)
def qbk(a:Int):Value:=I a
def qe9(a:ByteArray)(b:Int):Int:=jak a b.toNat
def qa9(a:ByteArray)(b c:Int):Bool:=qe9 a b==c
def qal(b:ByteArray)(a:Int):Bool:=decide (0≤a∧a<qfq b)
theorem r40_0(s:ByteArray)(c:Int)(b:Bool)(i:Int)(jk:Tmps)(R:Exit→List Value→List (Option Blk)→Prop):(jbs Tryz.prog G0 noL Tryz.f202.ntmps (ja7 Tryz.f202 0) (tl S40_0.live (V40_0 (s,c,b,i)) jk) (ml S40_0.mid (B40_0 (s,c,b,i))) S40_0.n fun e t' m' _=>R e (List.map t' S40_0.live) (List.map m' S40_0.mid))=(qc5 (qal s i) (qa9 s i c) s R i [] [B b,qbk i] 0 (R .ret [S s,qe7 c,B true,qbk i] []) (qes s R [B b,qbw i] (qe7 c)) (S s) (qe7 c)):=by kernel_rfl
theorem l40_0:LOKf Tryz.prog (oneL 0 S40_0.h) Tryz.f202:=by
 refine jbn (h:=S40_0.h) (by kernel_rfl) (jbk ok_G0 hmix (by kernel_rfl) (ja6 _) S40_0 V40_0 B40_0 (fun(s,c,b,i)=>(s.size-i).toNat) ?_ ?_ ?_)
 ·intro vs bs s h;simp only[S40_0]at h;split at h
  all_goals first | (cases h;exact⟨rfl,rfl⟩) | cases h
 ·exact fun _ _ _ h=>h
 ·intro⟨s,c,b,i⟩ jk Z hp hf;rw[r40_0];delta qf8 qfq qcr qc5 qe7 qes qaw qbw qbk qe9 qa9 qal;simp only[S40_0]at hp hf;simp only[jae]at hp;apply cond_intro<;>intro h
  ·have h:=jab h;rw[jb7 hp.1 h]at hf;refine c_t (jaa (by omega)) ?_;simp only[hasZ,List.any_cons]at hf;apply cond_intro<;>intro hb
   ·rw[hb]at hf;exact hf i
   ·rw[hb,Bool.false_or]at hf;rw[w64 (by omega)];exact⟨(s,c,b,i+1),rfl,rfl,by simp only[S40_0,jae];omega,by simp only;omega,hf⟩
  ·have h:=jac h;rw[jcp (by omega)]at hf;obtain rfl:i=s.size:=by omega
   exact hf
def s40(s:ByteArray)(c:U8):Bool×Value:=(decide (s.size≤9223372036854775807),.bool (hasZ (bz s) c.n))
theorem fn40:Fn1 Tryz.prog 202 Tryz.f202:= .m Tryz.func202
def qg1(a b:Bool)(c d:Prop):Prop:=bif a then bif b then c else d else False
def qgr(a:Value→Prop):Prop:=a (B false)
def qa5(a:ByteArray):List Int:=(bz a).drop (Int.toNat 0)
theorem v40(s:ByteArray)(c:U8)(R:Value→Prop):ja1 Tryz.prog G0 (oneL 0 S40_0.h) Tryz.f202 [Enc.enc s,Enc.enc c] (fun _=>none) 0 (fun v _ _=>R v)=(qg1 (S40_0.pre (s,(U8.n c,(false,(0:Int))))) (hasZ (qa5 s) (U8.n c)) (Int→Tmps→R (B true)) (Tmps→qgr R)):=by kernel_rfl
theorem ok40:jan Tryz.prog 202 (sp2 s40):=by
 refine jc5 ok_G0 hmix fn40 l40_0 jag fun s c hc=> ?_
 rw[ja2,v40];delta qg1 qgr qa5;have hc:(s.size≤9223372036854775807):=jab hc;dsimp only[s40];refine c_t (by simp only[S40_0,jae];omega) ?_;rw[show List.drop (Int.toNat 0) (bz s)=bz s from rfl];exact cond_intro (fun h _ _=>by rw[h]) (fun h _=>by rw[h])
def V75_0:ByteArray×Int×Int×Int→List Value:=fun(s,c,n,i)=> [S s,C8 c,I n,I i]
def B75_0:ByteArray×Int×Int×Int→List (Option Blk):=fun _=> []
def S75_0:LSpec (ByteArray×Int×Int×Int) where
 live:=[0,1,5,6]
 mid:=[]
 n:=60
 dec vs bs:=match vs,bs with | [.string s,.int .u8 c,.int .i64 n,.int .i64 i],[]=>some (s,c,n,i) | _,_=>none
 pre:=fun(s,c,n,i)=>decide (0≤i∧i≤s.size∧s.size≤9223372036854775807∧0≤n∧n≤i)
 fin:=fun(s,c,n,i) Z=>Z (.exit 0) [S s,C8 c,I (n+cntZ ((bz s).drop i.toNat) c),I s.size] []
def qag(a b:Int):List Value:=[qbk a,qbw b]
def qap(a b:Int):List Value:=[qbk a,qbk b]
theorem r75_0(s:ByteArray)(c:Int)(n:Int)(i:Int)(jk:Tmps)(R:Exit→List Value→List (Option Blk)→Prop):(jbs Tryz.prog G0 noL Tryz.f199.ntmps (ja7 Tryz.f199 0) (tl S75_0.live (V75_0 (s,c,n,i)) jk) (ml S75_0.mid (B75_0 (s,c,n,i))) S75_0.n fun e t' m' _=>R e (List.map t' S75_0.live) (List.map m' S75_0.mid))=(qc5 (qal s i) (qa9 s i c) s R i [] (qap n i) 0 (qes s R [qbw n,qbw i] (qe7 c)) (qes s R (qag n i) (qe7 c)) (S s) (qe7 c)):=by kernel_rfl
theorem l75_0:LOKf Tryz.prog (oneL 0 S75_0.h) Tryz.f199:=by
 refine jbn (h:=S75_0.h) (by kernel_rfl) (jbk ok_G0 hmix (by kernel_rfl) (ja6 _) S75_0 V75_0 B75_0 (fun(s,c,n,i)=>(s.size-i).toNat) ?_ ?_ ?_)
 ·intro vs bs s h;simp only[S75_0]at h;split at h
  all_goals first | (cases h;exact⟨rfl,rfl⟩) | cases h
 ·exact fun _ _ _ h=>h
 ·intro⟨s,c,n,i⟩ jk Z hp hf;rw[r75_0];delta qf8 qfq qcr qc5 qe7 qes qaw qbw qbk qag qap qe9 qa9 qal;simp only[S75_0]at hp hf;simp only[jae]at hp;apply cond_intro<;>intro h
  ·have h:=jab h;rw[jb7 hp.1 h]at hf;refine c_t (jaa (by omega)) ?_;simp only[cntZ,List.filter_cons]at hf;apply cond_intro<;>intro hb
   ·rw[hb]at hf;rw[w64 (n:=n+1) (by omega),w64 (by omega)];refine⟨(s,c,n+1,i+1),rfl,rfl,by simp only[S75_0,jae];omega,by simp only;omega,?_⟩;simp only[S75_0,cntZ];simp only[if_true,List.length_cons]at hf;rw[show n+1+((List.filter (fun x=>x==c) (List.drop (Int.toNat (i+1)) (bz s))).length:Int)=n+((List.filter (fun x=>x==c) (List.drop (Int.toNat (i+1)) (bz s))).length+1:Nat)by omega];exact hf
   ·rw[hb]at hf;rw[w64 (by omega)];exact⟨(s,c,n,i+1),rfl,rfl,by simp only[S75_0,jae];omega,by simp only;omega,hf⟩
  ·have h:=jac h;rw[jcp (by omega)]at hf;obtain rfl:i=s.size:=by omega
   simp only[cntZ,List.filter_nil,List.length_nil]at hf;rw[show n+((0:Nat):Int)=n by omega]at hf;exact hf
def s75(s:ByteArray)(c:U8):Bool×Value:=(decide (s.size≤9223372036854775807),.int .i64 (cntZ (bz s) c.n))
theorem fn75:Fn1 Tryz.prog 199 Tryz.f199:= .m Tryz.func199
def qhm(a:Bool)(c:Prop)(b:Type):Prop:=bif a then b→c else False
theorem v75(s:ByteArray)(c:U8)(R:Value→Prop):ja1 Tryz.prog G0 (oneL 0 S75_0.h) Tryz.f199 [Enc.enc s,Enc.enc c] (fun _=>none) 0 (fun v _ _=>R v)=(qhm (S75_0.pre (s,(U8.n c,((0:Int),(0:Int))))) (R (I (0+(cntZ (qa5 s) (U8.n c):Int)))) Tmps):=by kernel_rfl
theorem ok75:jan Tryz.prog 199 (sp2 s75):=by
 refine jc5 ok_G0 hmix fn75 l75_0 jag fun s c hc=> ?_
 rw[ja2,v75];delta qhm qa5;have hc:(s.size≤9223372036854775807):=jab hc;dsimp only[s75];refine c_t (by simp only[S75_0,jae];omega) ?_;rw[show List.drop (Int.toNat 0) (bz s)=bz s from rfl,Int.zero_add];exact fun _=>rfl
def rep1(c:Int)(n:Nat):List Int:=List.replicate n c
theorem jhr(c:Int)(n:Nat):[c]++rep1 c n=rep1 c (n+1):=rfl
def V57_0:Int×Int×List Value×Nat×Nat×Int→List Value:=fun(c,n,d,m,cap,i)=> [C8 c,I n,.slice (some ⟨200,0,some 1⟩) m cap,I i]
def B57_0:Int×Int×List Value×Nat×Nat×Int→List (Option Blk):=fun(c,n,d,m,cap,i)=> [some ⟨d,5,true⟩]
def S57_0:LSpecA (Int×Int×List Value×Nat×Nat×Int) where
 live:=[0,1,5,6]
 mid:=[200]
 n:=210
 ap:=[(.tmp 5,200)]
 dec vs bs:=match vs,bs with | [.int .u8 c,.int .i64 n,.slice (some ⟨200,0,some 1⟩) m cap,.int .i64 i],[some ⟨d,5,true⟩]=>some (c,n,d,m,cap,i) | _,_=>none
 pre:=fun(c,n,d,m,cap,i)=>jci d m cap&&decide (0≤i∧i≤n∧n≤1000∧i=m)
 fin:=fun(c,n,d,m,cap,i) Z=>∀d' cap',jci d' n.toNat cap'=true→zc d' n.toNat=zc d m++rep1 c (n-i).toNat→Z (.exit 0) [C8 c,I n,.slice (some ⟨200,0,some 1⟩) n.toNat cap',I n] [some ⟨d',5,true⟩]
def qcp(a:Bool)(b:Exit→List Value→List (Option Blk)→Prop)(g:List (Option Blk))(f:List Value)(c:Nat)(d e:Value):Prop:=bif a then b (.exit c) (d::e::f) g else False
def qbp(a b:Nat):Option Addr:=some (.mk a 0 (some b))
def qfa(a b c:Nat):Value:= .slice (qbp a 1) b c
def qhl(c:Bool)(a:List Value)(b:TypeId):Option Blk:=some (.mk a b c)
def qbf(a:List Value):List (Option Blk):=[qhl true (rlbL [(200,200)] a) 5]
def qb5(c:List Value)(a b:Nat):Bool:=jav [(a,b)] c&&true&&true
def qaf(a:List Value)(b c:Nat):Bool:=a.length.beq (b*1) &&c.ble b&&b.ble 9223372036854775807&&true
def qbi(a:List Value)(b c d:Nat):Bool:=qaf a b c&&jbw (c+1) d
def qgz(a:List Value)(b c d:Nat)(e:Prop):Prop:=bif qbi a b c d then e else False
def qca(a:Bool)(b:Exit→List Value→List (Option Blk)→Prop)(d:List (Option Blk))(c:List Value):Prop:=bif a then b .normal c d else False
def qgb(b:List Value)(a:Nat):List Value:=b.take (a*1)
def qbx(e:Int)(d f:List Value)(a b c:Nat):Blk:= .mk (rlbL [(a,b)] (qgb d c++ [qe7 e]++f)) 5 true
def qdc(e:Int)(d f:List Value)(a b c:Nat):Bool:=jav [(a,b)] (qgb d c++ [qe7 e]++f) &&true
def qb0(a:List Value)(b c:Nat):Prop:=jay a b c 1=true
def qfn(a b:Int):Bool:=decide (a<b)
theorem r57_0(c:Int)(n:Int)(d:List Value)(m:Nat)(cap:Nat)(i:Int)(jk:Tmps)(R:Exit→List Value→List (Option Blk)→Prop):(jbs Tryz.prog G0 noL Tryz.f229.ntmps (ja7 Tryz.f229 0) (tl S57_0.live (V57_0 (c,n,d,m,cap,i)) jk) (ml S57_0.mid (B57_0 (c,n,d,m,cap,i))) S57_0.n fun e t' m' _=>S57_0.out R e t' m')=(bif qfn i n then qgz d cap m 1 (∀a:Nat,∀b:List Value,qb0 b a (m+1)→qca (qdc c d b 216 200 m&&true) R [some (qbx c d b 216 200 m)] [qe7 c,qbk n,qfa 200 (m+1) a,qbw i])else qcp (qb5 d 200 200) R (qbf d) [qfa 200 m cap,qbk i] 0 (qe7 c) (qbk n)):=by kernel_rfl
theorem l57_0:LOKf Tryz.prog (oneL 0 S57_0.hA) Tryz.f229:=by
 refine jbn (h:=S57_0.hA) (by kernel_rfl) (jbq ok_G0 hmix (by kernel_rfl) (ja6 _) S57_0 V57_0 B57_0 (fun(c,n,d,m,cap,i)=>(n-i).toNat) ?_ ?_ ?_)
 ·intro vs bs s h;simp only[S57_0]at h;split at h
  all_goals first | (cases h;exact⟨rfl,rfl⟩) | cases h
 ·exact fun⟨c,n,d,m,cap,i⟩ hp=>by
   simp only[S57_0,jaf]at hp;simp[V57_0,B57_0,S57_0,ja0,jbx,idsL,ids,jaq (jat.1 hp.1).plain]
 ·intro⟨c,n,d,m,cap,i⟩ jk Z hp hf;rw[r57_0];delta qcp qbk qe7 qbp qfa qhl qbf qb5 qaf qbi qgz qca qaw qbw qgb qbx qdc qb0 qfn;simp only[S57_0]at hp hf;simp only[jaf,jae]at hp;obtain⟨hr,hp⟩:=hp;have hr:=jat.1 hr;apply cond_intro<;>intro h
  ·have h:=jab h;refine c_t (hr.ask (by omega)) (fun cap1 tail ht=> ?_);obtain⟨h1,h2⟩:=hr.app1 c ht;refine c_t (by rw[h1.good];rfl) ?_;rw[h1.rlb,w64 (by omega)];refine⟨(c,n,_,m+1,cap1,i+1),rfl,rfl,by simp only[S57_0,jaf,jae];exact⟨jat.2 h1,by omega⟩,by simp only;omega,?_⟩;intro d' cap' g1 g2;refine hf d' cap' g1 ?_;rw[g2,h2,show(n-i).toNat=(n-(i+1)).toNat+1 by omega,←jhr,List.append_assoc]
  ·have h:=jac h;refine c_t (by rw[hr.good];rfl) ?_;rw[hr.rlb];obtain rfl:i=n:=by omega
   have e:i.toNat=m:=by omega
   have:=hf d cap (by rw[e];exact jat.2 hr) (by rw[e];simp[rep1]);rw[e]at this;exact this
def s57(c:U8)(n:Int):Bool×Value:=(decide (0≤n∧n≤1000),.string (sz (rep1 c.n n.toNat)))
theorem fn57:Fn1 Tryz.prog 229 Tryz.f229:= .m Tryz.func229
def qg5(c:Bool)(b:List Value)(a:Nat)(d:Prop):Prop:=bif ja0 a b&&c then Tmps→d else False
def qgf(a:Bool)(c:Value)(b:Value→Prop):Prop:=bif a then b c else False
def qb6(h:Bool)(d e:List Int)(a g:List Value)(b c f:Nat)(i:Value→Prop):Prop:=jci a b c=true→zc a b=d++e→qg5 h g f (qgf (jbf a 0 b) (S (jbb a 0 b)) i)
theorem v57(c:U8)(n:Int)(R:Value→Prop):ja1 Tryz.prog G0 (oneL 0 S57_0.hA) Tryz.f229 [Enc.enc c,Enc.enc n] (fun _=>none) 0 (fun v _ _=>R v)=(bif S57_0.toLSpec.pre (U8.n c,(n,(([]:List Value),(0,(0,(0:Int))))))then∀a:List Value,∀b:Nat,qb6 true (zc [] 0) (rep1 (U8.n c) (Int.toNat (n-0))) a a n.toNat b 210 R else False):=by kernel_rfl
theorem ok57:jan Tryz.prog 229 (sp2 s57):=by
 refine jc5 ok_G0 hmix fn57 l57_0 jag fun c n hc=> ?_
 rw[ja2,v57];delta qg5 qgf qb6;have hc:(0≤n∧n≤1000):=jab hc;dsimp only[s57];refine c_t ?_ (fun d' cap' h1 h2=> ?_)
 ·simp only[S57_0,jaf,jae];exact⟨rfl,by omega⟩
 have h1:=jat.1 h1;refine c_t (by rw[jbg h1.plain];rfl) (fun _=>c_t h1.str.1 ?_);rw[h1.str.2,h2,show(n-0).toNat=n.toNat by omega];rfl
def tenZ(n:Nat):Int:=10^n
theorem tenZ_succ(n:Nat):tenZ (n+1)=tenZ n*10:=Int.pow_succ ..
theorem tenZ_le{n:Nat}(h:n≤18):1≤tenZ n∧tenZ n≤1000000000000000000:=by
 have:n=0∨n=1∨n=2∨n=3∨n=4∨n=5∨n=6∨n=7∨n=8∨n=9∨n=10∨n=11∨n=12∨n=13∨n=14∨n=15∨n=16∨n=17∨n=18:=by omega
 rcases this with rfl | rfl | rfl | rfl | rfl | rfl | rfl | rfl | rfl | rfl | rfl | rfl | rfl | rfl | rfl | rfl | rfl | rfl | rfl<;>decide
def unK(c:Int):Bool:=hasZ punchedZ c
def unD(c:Int):Int:=if unK c then(idxZ punchedZ c)%10 else 0
def unM(c:Int):Bool:=if unK c then decide (10≤idxZ punchedZ c)else false
def puZ(d:Int)(m:Bool):Int:=if 0≤d∧d≤9 then punchedZ.getD (if m then d+10 else d).toNat 0 else 0
def sgZ(c:Int)(m:Bool):Int:=if c=36 then 36 else if m then(if c=43 then 32 else 45)else if c=45 then 32 else 43
def fmZ(c d:Int)(m:Bool):Int:=if c=89∧d=48 then 32 else if c=84∨(c=73∧m=false)∨(c=82∧m=true)then puZ (d-48) m else d
def letZ(b:Int):Bool:=decide (65≤b∧b≤90∨97≤b∧b≤122)
def oneZ(c b:Int):Bool:=if c=88∨b=32 then true else if c=57 then je1 b else letZ b
theorem dig_cases{d:Int}(h:0≤d∧d≤9):d=0∨d=1∨d=2∨d=3∨d=4∨d=5∨d=6∨d=7∨d=8∨d=9:=by omega
def s29(c:U8):Bool×Value:=(true,.tuple ⟨[.int .i64 (unD c.n),.bool (unM c.n),.bool (unK c.n)]⟩)
theorem fn29:Fn1 Tryz.prog 209 Tryz.f209:= .m Tryz.func209
def qgy(a:List Value):Value:= .tuple ⟨a⟩
def qau(d:List Value)(b c:Value)(a:Value→Prop):Prop:=a (qgy (b::c::d))
def qa4(a c:Bool)(b:Int)(d:Value→Prop):Prop:=qau [B a] (qbk b) (B c) d
def qdv(a:Int)(b:Px.U8):Bool:=a==U8.n b
def qgu(a:Int)(b:Value→Prop):Prop:=qa4 true false a b
theorem v29(c:U8)(R:Value→Prop):ja1 Tryz.prog G0 noL Tryz.f209 [Enc.enc c] (fun _=>none) 0 (fun v _ _=>R v)=(bif qdv 123 c then qgu 0 R else bif qdv 125 c then qa4 true true 0 R else bif qdv 65 c then qgu 1 R else bif qdv 74 c then qa4 true true 1 R else bif qdv 66 c then qgu 2 R else bif qdv 75 c then qa4 true true 2 R else bif qdv 67 c then qgu 3 R else bif qdv 76 c then qa4 true true 3 R else bif qdv 68 c then qgu 4 R else bif qdv 77 c then qa4 true true 4 R else bif qdv 69 c then qgu 5 R else bif qdv 78 c then qa4 true true 5 R else bif qdv 70 c then qgu 6 R else bif qdv 79 c then qa4 true true 6 R else bif qdv 71 c then qgu 7 R else bif qdv 80 c then qa4 true true 7 R else bif qdv 72 c then qgu 8 R else bif qdv 81 c then qa4 true true 8 R else bif qdv 73 c then qgu 9 R else bif qdv 82 c then qa4 true true 9 R else qa4 false false 0 R):=by kernel_rfl
theorem ok29:jan Tryz.prog 209 (sp1 s29):=by
 refine jb9 ok_G0 hmix fn29 jai jag fun c hc=> ?_
 rw[ja2,v29];delta qgy qau qbk qa4 qdv qgu;dsimp only[s29];obtain⟨c⟩:=c;dsimp only
 repeat' (refine cond_intro (fun h=> ?_) (fun h=> ?_))
 all_goals first
  | (have h:=eq_of_beq h;subst h;rfl)
  | (have hk : unK c = false := by simp_all [unK, hasZ, punchedZ]
     simp[unD,unM,hk])
def s28(c:U8):Bool×Value:=(true,.tuple ⟨[.int .i64 (unD c.n),.bool (unM c.n),.bool (unK c.n)]⟩)
theorem fn28:Fn1 Tryz.prog 248 Tryz.f248:= .m Tryz.func248
def qcl(b:Int)(a:Nat)(c:Value→Prop):Prop:=qa4 true (decide (a≥10)) b c
theorem v28(c:U8)(R:Value→Prop):ja1 Tryz.prog G0 noL Tryz.f248 [Enc.enc c] (fun _=>none) 0 (fun v _ _=>R v)=(bif qdv 123 c then qcl 0 0 R else bif qdv 65 c then qcl 1 1 R else bif qdv 66 c then qcl 2 2 R else bif qdv 67 c then qcl 3 3 R else bif qdv 68 c then qcl 4 4 R else bif qdv 69 c then qcl 5 5 R else bif qdv 70 c then qcl 6 6 R else bif qdv 71 c then qcl 7 7 R else bif qdv 72 c then qcl 8 8 R else bif qdv 73 c then qcl 9 9 R else bif qdv 125 c then qcl 0 10 R else bif qdv 74 c then qcl 1 11 R else bif qdv 75 c then qcl 2 12 R else bif qdv 76 c then qcl 3 13 R else bif qdv 77 c then qcl 4 14 R else bif qdv 78 c then qcl 5 15 R else bif qdv 79 c then qcl 6 16 R else bif qdv 80 c then qcl 7 17 R else bif qdv 81 c then qcl 8 18 R else bif qdv 82 c then qcl 9 19 R else qa4 false false 0 R):=by kernel_rfl
theorem ok28:jan Tryz.prog 248 (sp1 s28):=by
 refine jb9 ok_G0 hmix fn28 jai jag fun c hc=> ?_
 rw[ja2,v28];delta qgy qau qbk qa4 qcl qdv;dsimp only[s28];obtain⟨c⟩:=c;dsimp only
 repeat' (refine cond_intro (fun h=> ?_) (fun h=> ?_))
 all_goals first
  | (have h:=eq_of_beq h;subst h;rfl)
  | (have hk : unK c = false := by simp_all [unK, hasZ, punchedZ]
     simp[unD,unM,hk])
def s27(d:Int)(m:Bool):Bool×Value:=(true,.tuple ⟨[.int .u8 (puZ d m),.bool (decide (0≤d∧d≤9))]⟩)
theorem fn27:Fn1 Tryz.prog 289 Tryz.f289:= .m Tryz.func289
def qdn(a b c:Bool)(d e:Prop):Prop:=bif a || b then bif c then d else e else False
def qbm(a b:Int):Bool:=decide (0≤a∧a<b)
def qhk(a b:Int):Bool:=decide (a>b)
def qfu(a b:Int):Bool:=decide (a<b)
theorem v27(d:Int)(m:Bool)(R:Value→Prop):ja1 Tryz.prog G0 noL Tryz.f289 [Enc.enc d,Enc.enc m] (fun _=>none) 0 (fun v _ _=>R v)=(qdn (qfu d 0) true (qfu d 0 || qhk d 9) (qau [] (qe7 0) (B false) R) (bif m then bif qbm d 10 then qau [] (.int .u8 (jak ⟨#[125,74,75,76,77,78,79,80,81,82]⟩ d.toNat)) (B true) R else False else bif qbm d 10 then qau [] (.int .u8 (jak ⟨#[123,65,66,67,68,69,70,71,72,73]⟩ d.toNat)) (B true) R else False)):=by kernel_rfl
theorem ok27:jan Tryz.prog 289 (sp2 s27):=by
 refine jc5 ok_G0 hmix fn27 jai jag fun d m hc=> ?_
 rw[ja2,v27];delta qdn qgy qau qbm qe7 qhk qfu;dsimp only[s27];refine c_t (by simp) ?_;apply cond_intro<;>intro h
 ·have h:¬(0≤d∧d≤9):=by
   simp only[Bool.or_eq_true,jae]at h;omega
  simp[puZ,h]
 ·have h:0≤d∧d≤9:=by
   simp only[Bool.or_eq_false_iff,decide_eq_false_iff_not]at h;omega
  rcases dig_cases h with rfl | rfl | rfl | rfl | rfl | rfl | rfl | rfl | rfl | rfl<;>cases m<;>exact rfl
def s26(d:Int)(m:Bool):Bool×Value:=(true,.tuple ⟨[.int .u8 (puZ d m),.bool (decide (0≤d∧d≤9))]⟩)
theorem fn26:Fn1 Tryz.prog 288 Tryz.f288:= .m Tryz.func288
def qed(c:Bool)(a b:Int)(d e:Prop):Prop:=bif qbm a b then bif c then d else e else False
def qbh(a:Int):Nat:=0+a.toNat*1
def qbc:List Value:=[qe7 123,qe7 65,qe7 66,qe7 67,qe7 68,qe7 69,qe7 70,qe7 71,qe7 72,qe7 73,qe7 125,qe7 74,qe7 75,qe7 76,qe7 77,qe7 78,qe7 79,qe7 80,qe7 81,qe7 82]
def qgl(a:Int)(b:Value→Prop):Prop:=qed (jbt .u8 qbc (qbh a)) a 20 (qau [] (.int .u8 (jau qbc (qbh a))) (B true) b) False
def qg6(a b:Int):Int:=IntKind.i64.wrap (a+b)
theorem v26(d:Int)(m:Bool)(R:Value→Prop):ja1 Tryz.prog G0 noL Tryz.f288 [Enc.enc d,Enc.enc m] (fun _=>none) 0 (fun v _ _=>R v)=(qdn (qfu d 0) true (qfu d 0 || qhk d 9) (qau [] (qe7 0) (B false) R) (bif m then qgl (qg6 d 10) R else qgl d R)):=by kernel_rfl
theorem ok26:jan Tryz.prog 288 (sp2 s26):=by
 refine jc5 ok_G0 hmix fn26 jai jag fun d m hc=> ?_
 rw[ja2,v26];delta qdn qbm qed qgy qau qbh qe7 qbc qgl qg6 qhk qfu;dsimp only[s26];refine c_t (by simp) ?_;apply cond_intro<;>intro h
 ·have h:¬(0≤d∧d≤9):=by
   simp only[Bool.or_eq_true,jae]at h;omega
  simp[puZ,h]
 ·have h:0≤d∧d≤9:=by
   simp only[Bool.or_eq_false_iff,decide_eq_false_iff_not]at h;omega
  rcases dig_cases h with rfl | rfl | rfl | rfl | rfl | rfl | rfl | rfl | rfl | rfl<;>cases m<;>exact rfl
def G1:Env:=((Env.nil.add 211 (sp1 s82)).add 202 (sp2 s40)).add 289 (sp2 s27)
theorem ok_G1:jax Tryz.prog G1:=jaj (jaj (jaj jao ok82) ok40) ok27
def s77(n:Int):Bool×Value:=(decide (-9223372036854775808≤n∧n≤9223372036854775807),.int .u64 n.natAbs)
theorem fn77:Fn1 Tryz.prog 270 Tryz.f270:= .m Tryz.func270
def qc0(a b:Int):Int:=IntKind.i64.wrap (a-b)
theorem v77(n:Int)(R:Value→Prop):ja1 Tryz.prog G1 noL Tryz.f270 [Enc.enc n] (fun _=>none) 0 (fun v _ _=>R v)=(bif qfu n 0 then R (.int .u64 (IntKind.u64.wrap (IntKind.u64.wrap (qc0 0 (qaw n))+1)))else R (.int .u64 (IntKind.u64.wrap n))):=by kernel_rfl
theorem ok77:jan Tryz.prog 270 (sp1 s77):=by
 refine jb9 ok_G1 hmix fn77 jai jag fun n hc=> ?_
 rw[ja2,v77];delta qc0 qaw qfu;have hc:(-9223372036854775808≤n∧n≤9223372036854775807):=jab hc;dsimp only[s77];apply cond_intro<;>intro h
 ·have h:=jab h;rw[w64 (n:=n+1) (by omega),w64 (by omega),wu64 (n:=0-(n+1)) (by omega),wu64 (by omega)];congr 1;omega
 ·have h:=jac h;rw[wu64 (by omega)];congr 1;omega
def s58(s:ByteArray):Bool×Value:=(decide (s.size≤9223372036854775807),.int .u8 (if hasZ (bz s) 42 then 42 else 32))
theorem fn58:Fn1 Tryz.prog 259 Tryz.f259:= .m Tryz.func259
def qbl(a:ByteArray):Bool:=decide (a.size≤9223372036854775807)
theorem v58(s:ByteArray)(R:Value→Prop):ja1 Tryz.prog G1 noL Tryz.f259 [Enc.enc s] (fun _=>none) 0 (fun v _ _=>R v)=(qcf (qbl s) (hasZ (bz s) 42) (qe7 42) (qe7 32) R):=by kernel_rfl
theorem ok58:jan Tryz.prog 259 (sp1 s58):=by
 refine jb9 ok_G1 hmix fn58 jai jag fun s hc=> ?_
 rw[ja2,v58];delta qcf qe7 qbl;have hc:(s.size≤9223372036854775807):=jab hc;dsimp only[s58];exact c_t (jaa hc) (by cases hasZ (bz s) 42<;>rfl)
def s85(c:U8)(m:Bool):Bool×Value:=(true,.int .u8 (sgZ c.n m))
theorem fn85:Fn1 Tryz.prog 262 Tryz.f262:= .m Tryz.func262
def qgv(b:Int)(a:Px.U8):Bool:=U8.n a==b
theorem v85(c:U8)(m:Bool)(R:Value→Prop):ja1 Tryz.prog G1 noL Tryz.f262 [Enc.enc c,Enc.enc m] (fun _=>none) 0 (fun v _ _=>R v)=(bif qgv 36 c then R (qe7 36)else bif m then bif qgv 43 c then R (qe7 32)else R (qe7 45)else bif qgv 45 c then R (qe7 32)else R (qe7 43)):=by kernel_rfl
theorem ok85:jan Tryz.prog 262 (sp2 s85):=by
 refine jc5 ok_G1 hmix fn85 jai jag fun c m hc=> ?_
 rw[ja2,v85];delta qe7 qgv;dsimp only[s85];obtain⟨c⟩:=c;dsimp only;simp only[sgZ];cases m<;>by_cases h1:c=36<;>by_cases h2:c=43<;>by_cases h3:c=45<;>simp[h1,h2,h3]
def s97(c:U8)(d:U8)(m:Bool):Bool×Value:=(decide (48≤d.n∧d.n≤57),.int .u8 (fmZ c.n d.n m))
theorem fn97:Fn1 Tryz.prog 260 Tryz.f260:= .m Tryz.func260
def qho(b:Int)(a:IntKind):Int:=IntKind.i64.wrap (a.wrap (b-48))
def qg7(a b c:Bool):Bool:=bif a then b else c
theorem v97(c:U8)(d:U8)(m:Bool)(R:Value→Prop):ja1 Tryz.prog G1 noL Tryz.f260 [Enc.enc c,Enc.enc d,Enc.enc m] (fun _=>none) 0 (fun v _ _=>R v)=(qdn (qgv 89 c) true (qgv 89 c&&qgv 48 d) (R (qe7 32)) (qcf (qgv 84 c || qg7 (qgv 73 c) (!m || (qgv 82 c || true)) (qgv 82 c || true)) (qgv 84 c || qg7 (qgv 73 c) (!m || qgv 82 c&&m) (qgv 82 c&&m)) (.int .u8 (puZ (qho (U8.n d) .u8) m)) (.int .u8 (U8.n d)) R)):=by kernel_rfl
theorem ok97:jan Tryz.prog 260 (sp3 s97):=by
 refine jg6 ok_G1 hmix fn97 jai jag fun c d m hc=> ?_
 rw[ja2,v97];delta qdn qcf qho qg7 qgv qe7;have hc:(48≤d.n∧d.n≤57):=jab hc;dsimp only[s97];obtain⟨c⟩:=c;obtain⟨d⟩:=d;dsimp only at*;rw[w8 (n:=d-48) (by omega),w64 (by omega)];simp only[fmZ];cases m<;>by_cases h1:c=89<;>by_cases h2:c=84<;>by_cases h3:c=73<;>by_cases h4:c=82<;>by_cases h5:d=48<;>simp[h1,h2,h3,h4,h5]
def s72(c:U8)(b:U8):Bool×Value:=(decide (0≤b.n∧b.n<256),.bool (oneZ c.n b.n))
theorem fn72:Fn1 Tryz.prog 150 Tryz.f150:= .m Tryz.func150
theorem v72(c:U8)(b:U8)(R:Value→Prop):ja1 Tryz.prog G1 noL Tryz.f150 [Enc.enc c,Enc.enc b] (fun _=>none) 0 (fun v _ _=>R v)=(qdn (qgv 88 c) true (qgv 88 c || qgv 32 b) (R (B true)) (bif qgv 57 c then qgf (qfv (U8.n b) 48) (B (qa2 (U8.n b) 48 57)) R else qgf (qbm (U8.n b) 256&&qg7 (decide (upZ (U8.n b)≥65)) (qbm (U8.n b) 256&&true) true) (B (qa2 (upZ (U8.n b)) 65 90)) R)):=by kernel_rfl
theorem ok72:jan Tryz.prog 150 (sp2 s72):=by
 refine jc5 ok_G1 hmix fn72 jai jag fun c b hc=> ?_
 rw[ja2,v72];delta qdn qgf qa2 qg7 qbm qfv qgv;have hc:(0≤b.n∧b.n<256):=jab hc;dsimp only[s72];obtain⟨hb0,hb1⟩:=hc;obtain⟨c⟩:=c;obtain⟨b⟩:=b;dsimp only at*
 have hl:(decide (upZ b≥65) &&decide (upZ b≤90))=letZ b:=by
  rw[Bool.eq_iff_iff];simp only[letZ,jaf,jae];unfold upZ;by_cases hq:97≤b∧b≤122
  ·simp only[if_pos hq];constructor<;>intro h<;>omega
  ·simp only[if_neg hq];constructor<;>intro h<;>omega
 have hd:(decide (b≥48) &&decide (b≤57))=je1 b:=by
  rw[Bool.eq_iff_iff];simp only[je1,jaf,jae]
  try omega
 rw[hl,hd]
 all_goals (by_cases h1:c=88<;>by_cases h2:b=32<;>by_cases h3:c=57<;>simp_all[oneZ])
def G2:Env:=(Env.nil.add 202 (sp2 s40)).add 199 (sp2 s75)
theorem ok_G2:jax Tryz.prog G2:=jaj (jaj jao ok40) ok75
def drGo(s:List Int):List Int→Int
 | []=>0
 | c::r=>if hasZ [36,83,43,45] c=true∧2≤cntZ s c then c else drGo s r
def drZ(s:List Int):Int:=drGo s s
def je4(s:List Int):Bool:=s.all (fun c=>hasZ [65,88,57] c) && (hasZ s 65 || hasZ s 88)
def crZ(s:List Int):Bool:=decide (2≤s.length) && (decide (s.drop (s.length-2)=[67,82]) || decide (s.drop (s.length-2)=[68,66]))
theorem has_dr{c:Int}:hasZ [36,83,43,45] c=true↔c=36∨c=83∨c=43∨c=45:=by simp[jbc]
theorem jdm(l:List Int):List.drop (Int.toNat 0) l=l:=rfl
def V96_0:ByteArray×Int×Int→List Value:=fun(s,b,i)=> [S s,C8 b,I i]
def B96_0:ByteArray×Int×Int→List (Option Blk):=fun _=> []
def S96_0:LSpec (ByteArray×Int×Int) where
 live:=[0,2,3]
 mid:=[]
 n:=60
 dec vs bs:=match vs,bs with | [.string s,.int .u8 b,.int .i64 i],[]=>some (s,b,i) | _,_=>none
 pre:=fun(s,b,i)=>decide (0≤i∧i≤s.size∧s.size≤9223372036854775807)
 fin:=fun(s,b,i) Z=>(bif drGo (bz s) ((bz s).drop i.toNat)==0 then Z (.exit 0) [S s,C8 b,I s.size] []else(∀i',Z .ret [S s,C8 (drGo (bz s) ((bz s).drop i.toNat)),I i'] []))
def qdw(a:ByteArray)(b:Int):Bool:=hasZ (bz ⟨#[36,83,43,45]⟩) (qe9 a b)
def qf2(c f:Bool)(a d:ByteArray)(b e:Int):Bool:=qal a b&&qg7 c (qal d e&&f) true
theorem r96_0(s:ByteArray)(b:Int)(i:Int)(jk:Tmps)(R:Exit→List Value→List (Option Blk)→Prop):(jbs Tryz.prog G2 noL Tryz.f242.ntmps (ja7 Tryz.f242 0) (tl S96_0.live (V96_0 (s,b,i)) jk) (ml S96_0.mid (B96_0 (s,b,i))) S96_0.n fun e t' m' _=>R e (List.map t' S96_0.live) (List.map m' S96_0.mid))=(qc5 (qf2 (qdw s i) (qbl s&&true) s s i i) (qdw s i&&decide ((cntZ (bz s) (qe9 s i):Int)≥2)) s R i [] [qbk i] 0 (bif qal s i then R .ret [S s,.int .u8 (qe9 s i),qbk i] []else False) (qes s R [qbw i] (qe7 b)) (S s) (qe7 b)):=by kernel_rfl
theorem l96_0:LOKf Tryz.prog (oneL 0 S96_0.h) Tryz.f242:=by
 refine jbn (h:=S96_0.h) (by kernel_rfl) (jbk ok_G2 hmix (by kernel_rfl) (ja6 _) S96_0 V96_0 B96_0 (fun(s,b,i)=>(s.size-i).toNat) ?_ ?_ ?_)
 ·intro vs bs s h;simp only[S96_0]at h;split at h
  all_goals first | (cases h;exact⟨rfl,rfl⟩) | cases h
 ·exact fun _ _ _ h=>h
 ·intro⟨s,b,i⟩ jk Z hp hf;rw[r96_0];delta qf8 qfq qcr qc5 qe7 qes qaw qbw qbk qe9 qal qdw qg7 qf2 qbl;simp only[S96_0]at hp hf;simp only[jae]at hp;apply cond_intro<;>intro h
  ·have h:=jab h;rw[jb7 hp.1 h]at hf;have h1:decide (0≤i∧i<(s.size:Int))=true:=jaa (by omega);have h2:decide (s.size≤9223372036854775807)=true:=jaa (by omega);have k:bz ⟨#[36,83,43,45]⟩=[36,83,43,45]:=rfl;rw[k];refine c_t (by rw[h1,h2];cases hasZ [36,83,43,45] (jak s i.toNat) <;>rfl) ?_;rw[drGo]at hf;refine cond_intro (fun hd=>c_t h1 ?_) (fun hd=> ?_)
   ·simp only[jaf,jae]at hd
    have hne:(jak s i.toNat==0)=false:=by
     have:=has_dr.1 hd.1;simp only[beq_eq_false_iff_ne];omega
    rw[if_pos ⟨hd.1,by omega⟩,hne]at hf;exact hf i
   ·have hd':¬(hasZ [36,83,43,45] (jak s i.toNat)=true∧2≤cntZ (bz s) (jak s i.toNat)):=by
     rintro ⟨q1,q2⟩;rw[q1,Bool.true_and,decide_eq_false_iff_not]at hd;omega
    rw[if_neg hd']at hf;rw[w64 (by omega)];exact⟨(s,b,i+1),rfl,rfl,by simp only[S96_0,jae];omega,by simp only;omega,hf⟩
  ·have h:=jac h;rw[jcp (by omega)]at hf;obtain rfl:i=s.size:=by omega
   exact hf
def s96(s:ByteArray):Bool×Value:=(decide (s.size≤9223372036854775807),.int .u8 (drZ (bz s)))
theorem fn96:Fn1 Tryz.prog 242 Tryz.f242:= .m Tryz.func242
theorem v96(s:ByteArray)(R:Value→Prop):ja1 Tryz.prog G2 (oneL 0 S96_0.h) Tryz.f242 [Enc.enc s] (fun _=>none) 0 (fun v _ _=>R v)=(qg1 (S96_0.pre (s,((0:Int),(0:Int)))) (drGo (bz s) (qa5 s)==0) (Tmps→R (qe7 0)) (Int→Tmps→R (.int .u8 (drGo (bz s) (qa5 s))))):=by kernel_rfl
theorem ok96:jan Tryz.prog 242 (sp1 s96):=by
 refine jb9 ok_G2 hmix fn96 l96_0 jag fun s hc=> ?_
 rw[ja2,v96];delta qg1 qa5 qe7;have hc:(s.size≤9223372036854775807):=jab hc;dsimp only[s96];refine c_t (by simp only[S96_0,jae];omega) ?_;rw[jdm];refine cond_intro (fun h _=> ?_) (fun h _ _=>rfl);rw[drZ,eq_of_beq h]
def V73_0:ByteArray×Bool×Int→List Value:=fun(s,b,i)=> [S s,B b,I i]
def B73_0:ByteArray×Bool×Int→List (Option Blk):=fun _=> []
def S73_0:LSpec (ByteArray×Bool×Int) where
 live:=[0,2,3]
 mid:=[]
 n:=60
 dec vs bs:=match vs,bs with | [.string s,.bool b,.int .i64 i],[]=>some (s,b,i) | _,_=>none
 pre:=fun(s,b,i)=>decide (0≤i∧i≤s.size∧s.size≤9223372036854775807)
 fin:=fun(s,b,i) Z=>(bif ((bz s).drop i.toNat).all (fun c=>hasZ [65,88,57] c)then Z (.exit 0) [S s,B b,I s.size] []else(∀i',Z .ret [S s,B false,I i'] []))
theorem r73_0(s:ByteArray)(b:Bool)(i:Int)(jk:Tmps)(R:Exit→List Value→List (Option Blk)→Prop):(jbs Tryz.prog G2 noL Tryz.f197.ntmps (ja7 Tryz.f197 0) (tl S73_0.live (V73_0 (s,b,i)) jk) (ml S73_0.mid (B73_0 (s,b,i))) S73_0.n fun e t' m' _=>R e (List.map t' S73_0.live) (List.map m' S73_0.mid))=(qc5 (qal s i) (!hasZ (bz ⟨#[65,88,57]⟩) (qe9 s i)) s R i [] [qbk i] 0 (R .ret [S s,B false,qbk i] []) (qes s R [qbw i] (B b)) (S s) (B b)):=by kernel_rfl
theorem l73_0:LOKf Tryz.prog (oneL 0 S73_0.h) Tryz.f197:=by
 refine jbn (h:=S73_0.h) (by kernel_rfl) (jbk ok_G2 hmix (by kernel_rfl) (ja6 _) S73_0 V73_0 B73_0 (fun(s,b,i)=>(s.size-i).toNat) ?_ ?_ ?_)
 ·intro vs bs s h;simp only[S73_0]at h;split at h
  all_goals first | (cases h;exact⟨rfl,rfl⟩) | cases h
 ·exact fun _ _ _ h=>h
 ·intro⟨s,b,i⟩ jk Z hp hf;rw[r73_0];delta qf8 qfq qcr qc5 qes qaw qbw qbk qe9 qal;simp only[S73_0]at hp hf;simp only[jae]at hp;apply cond_intro<;>intro h
  ·have h:=jab h;rw[jb7 hp.1 h,List.all_cons]at hf;have k:bz ⟨#[65,88,57]⟩=[65,88,57]:=rfl;rw[k];refine c_t (jaa (by omega)) ?_;apply cond_intro<;>intro hd
   ·simp only[Bool.not_eq_true']at hd;rw[hd]at hf;exact hf i
   ·simp only[Bool.not_eq_false']at hd;rw[hd,Bool.true_and]at hf;rw[w64 (by omega)];exact⟨(s,b,i+1),rfl,rfl,by simp only[S73_0,jae];omega,by simp only;omega,hf⟩
  ·have h:=jac h;rw[jcp (by omega)]at hf;obtain rfl:i=s.size:=by omega
   exact hf
def s73(s:ByteArray):Bool×Value:=(decide (s.size≤9223372036854775807),.bool (je4 (bz s)))
theorem fn73:Fn1 Tryz.prog 197 Tryz.f197:= .m Tryz.func197
def qdz(a:Value→Prop):Prop:=Int→Tmps→qgr a
theorem v73(s:ByteArray)(R:Value→Prop):ja1 Tryz.prog G2 (oneL 0 S73_0.h) Tryz.f197 [Enc.enc s] (fun _=>none) 0 (fun v _ _=>R v)=(qg1 (S73_0.pre (s,(false,(0:Int)))) ((qa5 s).all (fun a:Int=>hasZ [65,88,57] a)) (Tmps→qgf (qbl s&& (hasZ (bz s) 65 || qbl s&&true)) (B (hasZ (bz s) 65 || hasZ (bz s) 88)) R) (qdz R)):=by kernel_rfl
theorem ok73:jan Tryz.prog 197 (sp1 s73):=by
 refine jb9 ok_G2 hmix fn73 l73_0 jag fun s hc=> ?_
 rw[ja2,v73];delta qg1 qgr qdz qgf qbl qa5;have hc:(s.size≤9223372036854775807):=jab hc;dsimp only[s73];refine c_t (by simp only[S73_0,jae];omega) ?_;rw[jdm];refine cond_intro (fun h _=>c_t (by rw[jaa hc];cases hasZ (bz s) 65<;>rfl) ?_) (fun h _ _=> ?_)
 ·simp only[je4,h,Bool.true_and]
 ·simp only[je4,h,Bool.false_and]
def s101(s:ByteArray):Bool×Value:=(decide (s.size≤9223372036854775807),.bool (crZ (bz s)))
theorem fn101:Fn1 Tryz.prog 238 Tryz.f238:= .m Tryz.func238
def qfo(a b:Bool)(d:Value)(c:Value→Prop):Prop:=bif bif a then b else true then c d else False
def qbo(a b:ByteArray):Bool:=a.toList==b.toList
def qgs(a:ByteArray)(b c:UInt8):Bool:=qbo (a.extract (qc0 (qfq a) 2).toNat a.size) ⟨#[b,c]⟩
def qb2(a b c d e:Int):Bool:=decide (a≤b∧b≤c∧d≤e)
theorem v101(s:ByteArray)(R:Value→Prop):ja1 Tryz.prog G2 noL Tryz.f238 [Enc.enc s] (fun _=>none) 0 (fun v _ _=>R v)=(qfo (decide (qfq s≥2)) (qb2 0 (qc0 (qfq s) 2) (qfq s) (qfq s) (qfq s) && (qgs s 67 82 || qb2 0 (qc0 (qfq s) 2) (qfq s) (qfq s) (qfq s) &&true)) (B (decide (qfq s≥2) && (qgs s 67 82 || qgs s 68 66))) R):=by kernel_rfl
theorem ok101:jan Tryz.prog 238 (sp1 s101):=by
 refine jb9 ok_G2 hmix fn101 jai jag fun s hc=> ?_
 rw[ja2,v101];delta qfo qbo qc0 qfq qgs qb2;have hc:(s.size≤9223372036854775807):=jab hc;dsimp only[s101];have e:((s.size:Int)-2).toNat=s.size-2:=by omega
 have ex:bz (s.extract (s.size-2) s.size)=(bz s).drop (s.size-2):=by rw[jca,List.take_of_length_le (by rw[jap];omega)]
 have k1:bz ⟨#[67,82]⟩=[67,82]:=rfl;have k2:bz ⟨#[68,66]⟩=[68,66]:=rfl;rw[w64 (by omega),e,jch,jch,ex,k1,k2];by_cases h2:2≤s.size
 ·have d1:decide ((s.size:Int)≥2)=true:=jaa (by omega);have d2:decide (0≤(s.size:Int)-2∧(s.size:Int)-2≤s.size∧(s.size:Int)≤s.size)=true:=jaa (by omega);rw[d1,d2];refine c_t (by simp) ?_;simp[crZ,h2]
 ·have d1:decide ((s.size:Int)≥2)=false:=jad (by omega);rw[d1];refine c_t rfl ?_;simp[crZ,h2]
def cdGo:List Int→Int→Int→Bool×Int×Int
 | [],n,i=>(true,n,i)
 | c::r,n,i=>if je1 c=true then(if 1≤n*10+(c-48)∧n*10+(c-48)≤32 then cdGo r (n*10+(c-48)) (i+1)else(false,0,0))else(true,n,i)
def ctP(l:List Int)(i:Int):Prop:=(cdGo (l.drop i.toNat) 0 i).1=true∧1≤(cdGo (l.drop i.toNat) 0 i).2.1∧(cdGo (l.drop i.toNat) 0 i).2.2<l.length∧l.getD (cdGo (l.drop i.toNat) 0 i).2.2.toNat 0=41
instance (l:List Int)(i:Int):Decidable (ctP l i):=by unfold ctP;infer_instance
def ctZ(l:List Int)(i:Int):Int×Int:=if ctP l i then((cdGo (l.drop i.toNat) 0 i).2.1,(cdGo (l.drop i.toNat) 0 i).2.2+1)else(0,0)
theorem jhj:∀(l:List Int)(n i:Int),0≤n∧n≤32→(cdGo l n i).1=true→0≤(cdGo l n i).2.1∧(cdGo l n i).2.1≤32∧i≤(cdGo l n i).2.2∧(cdGo l n i).2.2≤i+l.length
 | [],n,i,h,_=>by simp only[cdGo,List.length_nil];omega
 | c::r,n,i,h,hok=>by
  simp only[cdGo]at hok ⊢;split
  ·rename_i hd;rw[if_pos hd]at hok;split
   ·rename_i hq;rw[if_pos hq]at hok;have:=jhj r _ _ (by omega) hok;simp only[List.length_cons];omega
   ·rename_i hq;rw[if_neg hq]at hok;cases hok
  ·simp only[List.length_cons];omega
def V81_0:ByteArray×Int×Int×Int×Int→List Value:=fun(s,r1,r2,n,i)=> [S s,I r1,I r2,I n,I i]
def B81_0:ByteArray×Int×Int×Int×Int→List (Option Blk):=fun _=> []
def S81_0:LSpec (ByteArray×Int×Int×Int×Int) where
 live:=[0,4,5,6,7]
 mid:=[]
 n:=80
 dec vs bs:=match vs,bs with | [.string s,.int .i64 r1,.int .i64 r2,.int .i64 n,.int .i64 i],[]=>some (s,r1,r2,n,i) | _,_=>none
 pre:=fun(s,r1,r2,n,i)=>decide (0≤i∧i≤s.size∧s.size≤9223372036854775807∧0≤n∧n≤32)
 fin:=fun(s,r1,r2,n,i) Z=>(bif (cdGo ((bz s).drop i.toNat) n i).1 then Z (.exit 0) [S s,I r1,I r2,I (cdGo ((bz s).drop i.toNat) n i).2.1,I (cdGo ((bz s).drop i.toNat) n i).2.2] []else(∀n' i',Z .ret [S s,I 0,I 0,I n',I i'] []))
def qhe(a b c d:Bool)(e f:Prop):Prop:=bif qg7 a b c then bif d then e else f else False
def qbr(a b d:Int)(c:IntKind):Int:=IntKind.i64.wrap (IntKind.i64.wrap (a*b)+qho d c)
theorem r81_0(s:ByteArray)(r1:Int)(r2:Int)(n:Int)(i:Int)(jk:Tmps)(R:Exit→List Value→List (Option Blk)→Prop):(jbs Tryz.prog G2 noL Tryz.f237.ntmps (ja7 Tryz.f237 0) (tl S81_0.live (V81_0 (s,r1,r2,n,i)) jk) (ml S81_0.mid (B81_0 (s,r1,r2,n,i))) S81_0.n fun e t' m' _=>R e (List.map t' S81_0.live) (List.map m' S81_0.mid))=(qhe (qcr s i) (qf2 (decide (qe9 s i≥48)) true s s i i) true (qcr s i&&qa2 (qe9 s i) 48 57) (bif qal s i then qdn (qfu (qbr n 10 (qe9 s i) .u8) 1) true (qfu (qbr n 10 (qe9 s i) .u8) 1 || decide (qbr n 10 (qe9 s i) .u8>32)) (R .ret [S s,qbk 0,qbk 0,I (qbr n 10 (qe9 s i) .u8),qbk i] []) (qes s R [qbk r2,I (qbr n 10 (qe9 s i) .u8),qbw i] (qbk r1))else False) (R (.exit 0) (S s::qbk r1::qbk r2::qap n i) [])):=by kernel_rfl
theorem l81_0:LOKf Tryz.prog (oneL 0 S81_0.h) Tryz.f237:=by
 refine jbn (h:=S81_0.h) (by kernel_rfl) (jbk ok_G2 hmix (by kernel_rfl) (ja6 _) S81_0 V81_0 B81_0 (fun(s,r1,r2,n,i)=>(s.size-i).toNat) ?_ ?_ ?_)
 ·intro vs bs s h;simp only[S81_0]at h;split at h
  all_goals first | (cases h;exact⟨rfl,rfl⟩) | cases h
 ·exact fun _ _ _ h=>h
 ·intro⟨s,r1,r2,n,i⟩ jk Z hp hf;rw[r81_0];delta qg7 qhe qbk qap qdn qes qaw qbw qho qbr qe9 qfu qfq qal qa2 qcr qf2;simp only[S81_0]at hp hf;simp only[jae]at hp;have h1:i<(s.size:Int)→decide (0≤i∧i<(s.size:Int))=true:=fun h=>jaa (by omega)
  refine c_t ?_ ?_
  ·by_cases hi:i<(s.size:Int)
   ·rw[jaa hi,h1 hi];cases decide (jak s i.toNat≥48) <;>rfl
   ·rw[jad hi];rfl
  apply cond_intro<;>intro h
  ·simp only[jaf,jae]at h;obtain⟨hi,hd1,hd2⟩:=h;rw[jb7 hp.1 hi]at hf;refine c_t (h1 hi) (c_t (by simp) ?_);have hdig:je1 (jak s i.toNat)=true:=jaa (by omega);rw[cdGo,if_pos hdig]at hf;rw[w8 (n:=jak s i.toNat-48) (by omega),w64 (n:=jak s i.toNat-48) (by omega),w64 (n:=n*10) (by omega),w64 (n:=n*10+(jak s i.toNat-48)) (by omega)];apply cond_intro<;>intro hd
   ·simp only[Bool.or_eq_true,jae]at hd;rw[if_neg (by omega)]at hf;exact hf _ i
   ·simp only[Bool.or_eq_false_iff,decide_eq_false_iff_not]at hd;rw[if_pos (by omega)]at hf;rw[w64 (by omega)];exact⟨(s,r1,r2,_,i+1),rfl,rfl,by simp only[S81_0,jae];omega,by simp only;omega,hf⟩
  ·by_cases hi:i<(s.size:Int)
   ·rw[jaa hi,Bool.true_and]at h
    have hdig:¬je1 (jak s i.toNat)=true:=by
     intro hq;have:=jab hq;rw[jaa (by omega),jaa (by omega)]at h;cases h
    rw[jb7 hp.1 hi,cdGo,if_neg hdig]at hf;exact hf
   ·rw[jcp (by omega)]at hf;exact hf
def s81(s:ByteArray)(i:Int):Bool×Value:=(decide (0≤i∧i≤s.size∧s.size≤9223372036854775807),.tuple ⟨[.int .i64 (ctZ (bz s) i).1,.int .i64 (ctZ (bz s) i).2]⟩)
theorem fn81:Fn1 Tryz.prog 237 Tryz.f237:= .m Tryz.func237
def qfx(a:Int):Value:=I (IntKind.i64.wrap a)
def qc8(b:ByteArray)(a:Int):List Int:=(bz b).drop a.toNat
def qe0(a:ByteArray)(b:Int):Prod Int Int:=(cdGo (qc8 a b) 0 b).snd
theorem v81(s:ByteArray)(i:Int)(R:Value→Prop):ja1 Tryz.prog G2 (oneL 0 S81_0.h) Tryz.f237 [Enc.enc s,Enc.enc i] (fun _=>none) 0 (fun v _ _=>R v)=(qg1 (S81_0.pre (s,((0:Int),((0:Int),((0:Int),i))))) (cdGo (qc8 s i) 0 i).fst (Tmps→qdn (qfu (qe0 s i).fst 1) (decide ((qe0 s i).snd≥qfq s) || qbm (qe0 s i).snd (qfq s) &&true) (qfu (qe0 s i).fst 1 || (decide ((qe0 s i).snd≥qfq s) || jak s (qe0 s i).snd.toNat !=41)) (qau [] (qbk 0) (qbk 0) R) (qau [] (I (qe0 s i).fst) (qfx ((qe0 s i).snd+1)) R)) (Int→Int→Tmps→qau [] (qbk 0) (qbk 0) R)):=by kernel_rfl
theorem ok81:jan Tryz.prog 237 (sp2 s81):=by
 refine jc5 ok_G2 hmix fn81 l81_0 jag fun s i hc=> ?_
 rw[ja2,v81];delta qg1 qgy qau qbk qdn qfx qc8 qe0 qfq qfu qbm;have hc:(0≤i∧i≤s.size∧s.size≤9223372036854775807):=jab hc;dsimp only[s81];refine c_t (by simp only[S81_0,jae];omega) ?_;refine cond_intro (fun h _=> ?_) (fun h _ _ _=> ?_)
 ·have hr:=jhj ((bz s).drop i.toNat) 0 i (by omega) h;rw[List.length_drop,jap]at hr
  have hP:ctP (bz s) i↔1≤(cdGo ((bz s).drop i.toNat) 0 i).2.1∧(cdGo ((bz s).drop i.toNat) 0 i).2.2<s.size∧jak s (cdGo ((bz s).drop i.toNat) 0 i).2.2.toNat=41:=by
   simp only[ctP,h,true_and,jap,jeo]
  have hz:ctZ (bz s) i=if ctP (bz s) i then((cdGo ((bz s).drop i.toNat) 0 i).2.1,(cdGo ((bz s).drop i.toNat) 0 i).2.2+1)else(0,0):=rfl
  rw[hz];generalize cdGo ((bz s).drop i.toNat) 0 i=q at*;refine c_t ?_ (cond_intro (fun hd=> ?_) (fun hd=> ?_))
  ·by_cases h1:q.2.2<s.size
   ·rw[jaa (p:=0≤q.2.2∧q.2.2<(s.size:Int)) (by omega)];simp
   ·rw[jaa (p:=q.2.2≥(s.size:Int)) (by omega)];simp
  ·have hn:¬ctP (bz s) i:=by
    rw[hP];simp only[Bool.or_eq_true,jae,bne_iff_ne,ne_eq]at hd;omega
   rw[if_neg hn]
  ·have hn:ctP (bz s) i:=by
    rw[hP];simp only[Bool.or_eq_false_iff,decide_eq_false_iff_not,bne_eq_false_iff_eq]at hd;omega
   have:=hP.1 hn;rw[if_pos hn,w64 (by omega)]
 ·have hn:¬ctP (bz s) i:=fun hq=>by rw[hq.1]at h;cases h
  rw[ctZ,if_neg hn]
def kL:List Int:=[57,86,90,42,89,84,73,82,83,43,45,36,44,46,47,66,67,68,65,88]
def xpGo:List Int→Int→Int→List Int→List Int×Bool
 | [],st,_,out=>(out,decide (st=0))
 | c::r,st,n,out=>
  if st=1 then
   (if c=41 then(if 0<n then xpGo r 2 n out else([],false))
   else if je1 c=true∧ ¬(n=0∧c=48)∧10*n+(c-48)≤32 then xpGo r 1 (10*n+(c-48)) out else([],false))
  else if c=41∨st=2∧c=40 then([],false)
  else if c=40 then xpGo r 1 0 out
  else if hasZ kL (upZ c)=true∧(out.length:Int)+(if st=2 then n else 1)≤32 then xpGo r 0 0 (out++rep1 (upZ c) (if st=2 then n else 1).toNat)else([],false)
theorem xp_put{c:Int}{r:List Int}{st n:Int}{out:List Int}(hs:st=2∨st=0∧c≠40):
  xpGo (c::r) st n out=if hasZ kL (upZ c)=true∧(out.length:Int)+(if st=2 then n else 1)≤32 then xpGo r 0 0 (out++rep1 (upZ c) (if st=2 then n else 1).toNat)else([],false):=by
 rw[xpGo,if_neg (by omega)];by_cases h1:c=41
 ·subst h1;rw[if_pos (.inl rfl),if_neg (by intro h;exact absurd h.1 (by decide))]
 ·by_cases h2:c=40
  ·subst h2;have:st=2:=by omega
   subst this;rw[if_pos (.inr ⟨rfl,rfl⟩),if_neg (by intro h;exact absurd h.1 (by decide))]
  ·rw[if_neg (by omega),if_neg h2]
theorem xp_num:∀(l:List Int)(n i:Int)(out:List Int),0≤n∧n≤32→
  if(cdGo l n i).1=true∧1≤(cdGo l n i).2.1∧(l.drop ((cdGo l n i).2.2-i).toNat).head?=some 41 then xpGo l 1 n out=xpGo (l.drop ((cdGo l n i).2.2-i+1).toNat) 2 (cdGo l n i).2.1 out
  else(xpGo l 1 n out).2=false
 | [],n,i,out,_=>by
  rw[if_neg (by simp[cdGo])];rfl
 | c::r,n,i,out,h=>by
  by_cases hd:je1 c=true
  ·have hd':=jab hd;by_cases hq:1≤n*10+(c-48)∧n*10+(c-48)≤32
   ·have e:cdGo (c::r) n i=cdGo r (n*10+(c-48)) (i+1):=by rw[cdGo,if_pos hd,if_pos hq]
    have e2:xpGo (c::r) 1 n out=xpGo r 1 (n*10+(c-48)) out:=by
     rw[xpGo,if_pos rfl,if_neg (by omega),if_pos ⟨hd,by omega,by omega⟩,show 10*n+(c-48)=n*10+(c-48)by omega]
    have ih:=xp_num r (n*10+(c-48)) (i+1) out (by omega);rw[e,e2];by_cases hk:(cdGo r (n*10+(c-48)) (i+1)).1=true
    ·have hr:=jhj r _ (i+1) (by omega) hk;have e3:((cdGo r (n*10+(c-48)) (i+1)).2.2-i).toNat=((cdGo r (n*10+(c-48)) (i+1)).2.2-(i+1)).toNat+1:=by omega
     have e4:((cdGo r (n*10+(c-48)) (i+1)).2.2-i+1).toNat=((cdGo r (n*10+(c-48)) (i+1)).2.2-(i+1)+1).toNat+1:=by omega
     rw[e3,e4,List.drop_succ_cons,List.drop_succ_cons];exact ih
    ·rw[if_neg (fun q=>hk q.1)]at ih ⊢;exact ih
   ·have e:cdGo (c::r) n i=(false,0,0):=by rw[cdGo,if_pos hd,if_neg hq]
    rw[e,if_neg (by simp)];rw[xpGo,if_pos rfl,if_neg (by omega),if_neg (by omega)]
  ·have e:cdGo (c::r) n i=(true,n,i):=by rw[cdGo,if_neg hd]
   rw[e];simp only[Int.sub_self,Int.toNat_zero,List.drop_zero,List.head?_cons,Option.some.injEq,true_and,Int.zero_add,Int.toNat_one,List.drop_succ_cons];rw[xpGo,if_pos rfl];by_cases h41:c=41
   ·rw[if_pos h41];by_cases hn:0<n
    ·rw[if_pos hn,if_pos ⟨by omega,h41⟩]
    ·rw[if_neg hn,if_neg (by omega)]
   ·rw[if_neg h41,if_neg (show¬(je1 c=true∧ ¬(n=0∧c=48)∧10*n+(c-48)≤32)from fun q=>hd q.1),if_neg (show¬(1≤n∧c=41)from fun q=>h41 q.2)]
theorem xp_ct(l:List Int)(i:Int)(out:List Int)(hi:0≤i)(hl:i≤l.length):
  if ctP l i then xpGo (l.drop i.toNat) 1 0 out=xpGo (l.drop (ctZ l i).2.toNat) 2 (ctZ l i).1 out∧1≤(ctZ l i).1∧(ctZ l i).1≤32∧i<(ctZ l i).2∧(ctZ l i).2≤l.length
  else(xpGo (l.drop i.toNat) 1 0 out).2=false∧ctZ l i=(0,0):=by
 have N:=xp_num (l.drop i.toNat) 0 i out (by omega);by_cases hk:(cdGo (l.drop i.toNat) 0 i).1=true
 ·have hr:=jhj _ 0 i (by omega) hk;rw[List.length_drop]at hr;have e1:i.toNat+((cdGo (l.drop i.toNat) 0 i).2.2-i).toNat=(cdGo (l.drop i.toNat) 0 i).2.2.toNat:=by omega
  have e2:i.toNat+((cdGo (l.drop i.toNat) 0 i).2.2-i+1).toNat=((cdGo (l.drop i.toNat) 0 i).2.2+1).toNat:=by omega
  have hh:((l.drop i.toNat).drop ((cdGo (l.drop i.toNat) 0 i).2.2-i).toNat).head?=some 41↔(cdGo (l.drop i.toNat) 0 i).2.2<l.length∧l.getD (cdGo (l.drop i.toNat) 0 i).2.2.toNat 0=41:=by
   rw[List.drop_drop,e1,List.head?_drop,List.getD_eq_getElem?_getD];constructor
   ·intro h;have:=(List.getElem?_eq_some_iff.1 h).1;exact⟨by omega,by rw[h];rfl⟩
   ·rintro ⟨h1,h2⟩;rw[List.getElem?_eq_getElem (by omega)]at h2 ⊢;simpa using h2
  by_cases hP:ctP l i
  ·rw[if_pos hP];rw[if_pos ⟨hk,hP.2.1,hh.2 ⟨hP.2.2.1,hP.2.2.2⟩⟩,List.drop_drop,e2]at N;have hz:ctZ l i=((cdGo (l.drop i.toNat) 0 i).2.1,(cdGo (l.drop i.toNat) 0 i).2.2+1):=if_pos hP;have:=hP.2.1;have:=hP.2.2.1;rw[hz];exact⟨N,by simp only;omega,by simp only;omega,by simp only;omega,by simp only;omega⟩
  ·rw[if_neg hP];rw[if_neg (fun q=>hP ⟨hk,q.2.1,(hh.1 q.2.2).1,(hh.1 q.2.2).2⟩)]at N;exact⟨N,if_neg hP⟩
 ·have hP:¬ctP l i:=fun q=>hk q.1
  rw[if_neg hP];rw[if_neg (fun q=>hk q.1)]at N;exact⟨N,if_neg hP⟩
def G3:Env:=(((((Env.nil.add 211 (sp1 s82)).add 202 (sp2 s40)).add 229 (sp2 s57)).add 242 (sp1 s96)).add 238 (sp1 s101)).add 237 (sp2 s81)
theorem ok_G3:jax Tryz.prog G3:=jaj (jaj (jaj (jaj (jaj (jaj jao ok82) ok40) ok57) ok96) ok101) ok81
def V45_0:ByteArray×ByteArray×Int×ByteArray×Int→List Value:=fun(s,r,e,o,i)=> [S s,S r,I e,S o,I i]
def B45_0:ByteArray×ByteArray×Int×ByteArray×Int→List (Option Blk):=fun _=> []
def S45_0:LSpec (ByteArray×ByteArray×Int×ByteArray×Int) where
 live:=[0,2,3,4,5]
 mid:=[]
 n:=80
 dec vs bs:=match vs,bs with | [.string s,.string r,.int .i64 e,.string o,.int .i64 i],[]=>some (s,r,e,o,i) | _,_=>none
 pre:=fun(s,r,e,o,i)=>decide (0≤i∧i≤s.size∧s.size≤9223372036854775807∧o.size≤32)
 fin:=fun(s,r,e,o,i) Z=>(bif (xpGo ((bz s).drop i.toNat) 0 0 (bz o)).2 then Z (.exit 0) [S s,S r,I e,S (sz (xpGo ((bz s).drop i.toNat) 0 0 (bz o)).1),I s.size] []else(∀o' i',Z .ret [S s,S e0,I 30,S o',I i'] []))
def qgg(c:Bool)(a:ByteArray)(b:Int)(d e:Prop):Prop:=bif qal a b then bif c then d else e else False
def qg4(a e f:ByteArray)(d:Exit→List Value→List (Option Blk)→Prop)(b c g:Int)(h:Value):Prop:=qca (jb0 (a.size+(sz (rep1 (upZ b) c.toNat)).size)) d [] [S e,S f,qbk g,S (a++sz (rep1 (upZ b) c.toNat)),h]
def qgh:ByteArray:=⟨#[]⟩
def qfr:Value:=S qgh
def qb3:List Int:=bz ⟨#[57,86,90,42,89,84,73,82,83,43,45,36,44,46,47,66,67,68,65,88]⟩
def qhd(a b c:Bool)(d e:Prop):Prop:=bif a || b then bif c then d else e else False
def qfg(a:ByteArray)(b:Int):Int:=(ctZ (bz a) (qaw b)).snd
def qcn(a b c:Int):Bool:=decide (a≤b∧b≤c)
def qb7(c:ByteArray)(a b:Int)(d:Nat):Bool:=decide (0≤a∧a≤b∧c.size≤d)
theorem r45_0(s:ByteArray)(r:ByteArray)(e:Int)(o:ByteArray)(i:Int)(jk:Tmps)(R:Exit→List Value→List (Option Blk)→Prop):(jbs Tryz.prog G3 noL Tryz.f196.ntmps (ja7 Tryz.f196 0) (tl S45_0.live (V45_0 (s,r,e,o,i)) jk) (ml S45_0.mid (B45_0 (s,r,e,o,i))) S45_0.n fun e t' m' _=>R e (List.map t' S45_0.live) (List.map m' S45_0.mid))=(qc5 (qal s i) (qa9 s i 40) s R i [] [qbk e,S o,qbk i] 0 (bif qb7 s (qaw i) (qfq s) 9223372036854775807 then qdn (qfu (ctZ (bz s) (qaw i)).fst 1) true (qfu (ctZ (bz s) (qaw i)).fst 1 || decide (qfg s i≥qfq s)) (R .ret [S s,qfr,qbk 30,S o,I (qfg s i)] []) (qed (qbm (jak s (qfg s i).toNat) 256) (qfg s i) (qfq s) (qhd (!hasZ qb3 (upZ (jak s (qfg s i).toNat))) true (!hasZ qb3 (upZ (jak s (qfg s i).toNat)) || decide (qg6 (qfq o) (ctZ (bz s) (qaw i)).fst>32)) (R .ret [S s,qfr,qbk 30,S o,I (qfg s i)] []) (bif qcn 0 (ctZ (bz s) (qaw i)).fst 1000 then qg4 o s r R (jak s (qfg s i).toNat) (ctZ (bz s) (qaw i)).fst e (qfx (qfg s i+1))else False)) False)else False) (qgg (qbm (qe9 s i) 256) s i (qdn (!hasZ qb3 (upZ (qe9 s i))) true (!hasZ qb3 (upZ (qe9 s i)) || decide (qg6 (qfq o) 1>32)) (R .ret [S s,qfr,qbk 30,S o,qbk i] []) (qg4 o s r R (qe9 s i) 1 e (qbw i))) False) (S s) (S r)):=by kernel_rfl
theorem l45_0:LOKf Tryz.prog (oneL 0 S45_0.h) Tryz.f196:=by
 refine jbn (h:=S45_0.h) (by kernel_rfl) (jbk ok_G3 hmix (by kernel_rfl) (ja6 _) S45_0 V45_0 B45_0 (fun(s,r,e,o,i)=>(s.size-i).toNat) ?_ ?_ ?_)
 ·intro vs bs s h;simp only[S45_0]at h;split at h
  all_goals first | (cases h;exact⟨rfl,rfl⟩) | cases h
 ·exact fun _ _ _ h=>h
 ·intro⟨s,r,e,o,i⟩ jk Z hp hf;rw[r45_0];delta qf8 qfq qcr qc5 qal qgg qdn qca qbk qg4 qaw qbw qe9 qgh qfr qg6 qb3 qbm qed qhd qfx qfg qcn qfu qb7 qa9;simp only[S45_0]at hp hf;simp only[jae]at hp;apply cond_intro<;>intro h
  ·have h:=jab h;have hc:=jft s i.toNat;rw[jb7 hp.1 h]at hf;have k:bz ⟨#[57,86,90,42,89,84,73,82,83,43,45,36,44,46,47,66,67,68,65,88]⟩=kL:=rfl
   have put:∀(c:Int)(q:Nat),0≤c∧c<256→bz (o++sz (rep1 (upZ c) q))=bz o++rep1 (upZ c) q∧(o++sz (rep1 (upZ c) q)).size=o.size+q:=fun c q hc=>by
    have hb:IsB (rep1 (upZ c) q):=fun x hx=>by
     rw[List.eq_of_mem_replicate hx];unfold upZ;split<;>omega
    have e:bz (o++sz (rep1 (upZ c) q))=bz o++rep1 (upZ c) q:=by rw[jcv,jc6 hb]
    exact⟨e,by rw[←jap,e,List.length_append,jap];simp[rep1]⟩
   refine c_t (jaa (by omega)) (cond_intro (fun h40=> ?_) (fun h40=> ?_))
   ·have h40:=eq_of_beq h40;rw[h40]at hf
    have e1:xpGo (40::(bz s).drop (i+1).toNat) 0 0 (bz o)=xpGo ((bz s).drop (i+1).toNat) 1 0 (bz o):=by
     rw[xpGo,if_neg (by decide),if_neg (by decide),if_pos rfl]
    rw[e1]at hf;rw[w64 (n:=i+1) (by omega),k];have N:=xp_ct (bz s) (i+1) (bz o) (by omega) (by rw[jap];omega);refine c_t (jaa (by omega)) (c_t (by simp) ?_);by_cases hP:ctP (bz s) (i+1)
    ·rw[if_pos hP]at N;obtain⟨n1,n2,n3,n4,n5⟩:=N;rw[n1]at hf;rw[jap]at n5;generalize (ctZ (bz s) (i+1)).1=n' at*;generalize (ctZ (bz s) (i+1)).2=a' at*;apply cond_intro<;>intro hd
     ·simp only[Bool.or_eq_true,jae]at hd;rw[jcp (by omega)]at hf;exact hf o a'
     ·simp only[Bool.or_eq_false_iff,decide_eq_false_iff_not]at hd;have hc2:=jft s a'.toNat;obtain⟨u1,u2⟩:=put (jak s a'.toNat) n'.toNat hc2;rw[jb7 (by omega) (show a'<s.size by omega),xp_put (.inl rfl),jap,if_pos rfl]at hf;rw[w64 (n:=(o.size:Int)+n') (by omega)];refine c_t (jaa (by omega)) (c_t (jaa hc2) (c_t (by simp) (cond_intro (fun hq=> ?_) (fun hq=> ?_))))
      ·rw[if_neg (by
        intro hz;rw[hz.1]at hq;simp only[Bool.not_true,Bool.false_or,jae]at hq;omega)]at hf
       exact hf o a'
      ·simp only[Bool.or_eq_false_iff,Bool.not_eq_false',decide_eq_false_iff_not]at hq;rw[if_pos ⟨hq.1,by omega⟩]at hf;refine c_t (jaa (by omega)) (c_t ?_ ?_)
       ·rw[jcm];simp only[jb0,Nat.ble_eq,rep1,List.length_replicate];omega
       ·rw[w64 (by omega)];refine⟨(s,r,e,_,a'+1),rfl,rfl,by simp only[S45_0,jae];omega,by simp only;omega,?_⟩;simp only[S45_0,u1];exact hf
    ·rw[if_neg hP]at N;rw[N.1]at hf;rw[N.2];exact hf o 0
   ·have h40:jak s i.toNat≠40:=by simpa using h40
    obtain⟨u1,u2⟩:=put (jak s i.toNat) (Int.toNat 1) hc;rw[xp_put (.inr ⟨rfl,h40⟩),jap,if_neg (show¬((0:Int)=2)by decide)]at hf;rw[k,w64 (n:=(o.size:Int)+1) (by omega)];refine c_t (jaa (by omega)) (c_t (jaa hc) (c_t (by simp) (cond_intro (fun hq=> ?_) (fun hq=> ?_))))
    ·rw[if_neg (by
      intro hz;rw[hz.1]at hq;simp only[Bool.not_true,Bool.false_or,jae]at hq;omega)]at hf
     exact hf o i
    ·simp only[Bool.or_eq_false_iff,Bool.not_eq_false',decide_eq_false_iff_not]at hq;rw[if_pos ⟨hq.1,by omega⟩]at hf;refine c_t ?_ ?_
     ·rw[jcm];simp only[jb0,Nat.ble_eq,rep1,List.length_replicate];omega
     ·rw[w64 (by omega)];refine⟨(s,r,e,_,i+1),rfl,rfl,by simp only[S45_0,jae];refine⟨by omega,by omega,by omega,?_⟩;rw[u2];omega,by simp only;omega,?_⟩;simp only[S45_0];rw[u1];exact hf
  ·have h:=jac h;rw[jcp (by omega)]at hf;obtain rfl:i=s.size:=by omega
   have:sz (bz o)=o:=jg5 o;simp only[xpGo,this]at hf;exact hf
def exOK(l:List Int):Bool:=(xpGo l 0 0 []).2&& !(xpGo l 0 0 []).1.isEmpty
def eE(l:List Int):Int:=if exOK l=true then 0 else 30
def exZ(l:List Int):List Int:=if exOK l=true then(xpGo l 0 0 []).1 else []
theorem sz_empty(l:List Int):decide (bz (sz l)=bz ⟨#[]⟩)=l.isEmpty:=by
 cases l with
 | nil=>rfl
 | cons c r=>
  have:bz (sz (c::r))≠ []:=fun h=>by
   have:=congrArg List.length h;rw[jap,jcm]at this;simp at this
  exact jad this
def s45(s:ByteArray):Bool×Value:=(decide (s.size≤9223372036854775807),.tuple ⟨[.string (sz (exZ (bz s))),.int .i64 (eE (bz s))]⟩)
theorem fn45:Fn1 Tryz.prog 196 Tryz.f196:= .m Tryz.func196
def qhp(a:Bool)(b c:Prop):Prop:=Tmps→(bif a then b else c)
theorem v45(s:ByteArray)(R:Value→Prop):ja1 Tryz.prog G3 (oneL 0 S45_0.h) Tryz.f196 [Enc.enc s] (fun _=>none) 0 (fun v _ _=>R v)=(qg1 (S45_0.pre (s,(qgh,((0:Int),(qgh,(0:Int)))))) (xpGo (qa5 s) 0 0 (bz qgh)).snd (qhp (qbo (sz (xpGo (qa5 s) 0 0 (bz qgh)).fst) qgh) (qau [] qfr (qbk 30) R) (qau [] (S (sz (xpGo (qa5 s) 0 0 (bz qgh)).fst)) (qbk 0) R)) (ByteArray→Int→Tmps→qau [] (S Px.e0) (qbk 30) R)):=by kernel_rfl
theorem ok45:jan Tryz.prog 196 (sp1 s45):=by
 refine jb9 ok_G3 hmix fn45 l45_0 jag fun s hc=> ?_
 rw[ja2,v45];delta qg1 qgy qau qbk qhp qgh qa5 qfr qbo;have hc:(s.size≤9223372036854775807):=jab hc;dsimp only[s45];refine c_t (by simp only[S45_0,jae];exact⟨by omega,by omega,by omega,by decide⟩) ?_;rw[jdm,show bz ⟨#[]⟩=[]from rfl];refine cond_intro (fun h x=> ?_) (fun h _ _ _=> ?_)
 ·rw[jch,sz_empty];apply cond_intro<;>intro he
  ·have:exOK (bz s)=false:=by simp[exOK,he]
   simp only[exZ,eE,this];rfl
  ·have:exOK (bz s)=true:=by simp[exOK,he,h]
   simp only[exZ,eE,this,if_true]
 ·have:exOK (bz s)=false:=by simp[exOK,h]
  simp only[exZ,eE,this];rfl
def mk1(dr:Int)(seen:Bool)(c:Int):Int:=bif hasZ [57,89,84,73,82] c then 100 else bif hasZ [90,42] c || (dr !=0&& (c==dr&&seen))then 99
 else bif c==86 then 118 else bif c==36 then 109 else bif hasZ [83,43,45] c then 115 else 105
def mkGo(dr:Int):Bool→List Int→List Int
 | _,[]=> []
 | seen,c::r=>mk1 dr seen c::mkGo dr (seen || (dr !=0&&c==dr)) r
def jal(s:List Int):List Int:=if crZ s=true then s.take (s.length-2)else s
def jar(s:List Int):List Int:=mkGo (drZ (jal s)) false (jal s)++(if crZ s=true then [115,115]else [])
def V69_0:ByteArray×ByteArray×ByteArray×Int×List Value×Nat×Nat×Bool×Int→List Value:=fun(s,r,b,dr,d,m,cap,seen,i)=> [S s,S r,S b,C8 dr,.slice (some ⟨200,0,some 1⟩) m cap,B seen,I i]
def B69_0:ByteArray×ByteArray×ByteArray×Int×List Value×Nat×Nat×Bool×Int→List (Option Blk):=fun(s,r,b,dr,d,m,cap,seen,i)=> [some ⟨d,5,true⟩]
def S69_0:LSpecA (ByteArray×ByteArray×ByteArray×Int×List Value×Nat×Nat×Bool×Int) where
 live:=[0,2,3,4,5,6,7]
 mid:=[200]
 n:=260
 ap:=[(.tmp 5,200)]
 dec vs bs:=match vs,bs with | [.string s,.string r,.string b,.int .u8 dr,.slice (some ⟨200,0,some 1⟩) m cap,.bool seen,.int .i64 i],[some ⟨d,5,true⟩]=>some (s,r,b,dr,d,m,cap,seen,i) | _,_=>none
 pre:=fun(s,r,b,dr,d,m,cap,seen,i)=>jci d m cap&&decide (0≤i∧i≤b.size∧b.size≤1000∧i=m)
 fin:=fun(s,r,b,dr,d,m,cap,seen,i) Z=>∀d' cap' seen',jci d' b.size cap'=true→zc d' b.size=zc d m++mkGo dr seen ((bz b).drop i.toNat)→Z (.exit 0) [S s,S r,S b,C8 dr,.slice (some ⟨200,0,some 1⟩) b.size cap',B seen',I b.size] [some ⟨d',5,true⟩]
def qew(a:List Value)(b c d:Nat):Prop:=jay a b c d=true
def qan(l:Bool)(h i j:ByteArray)(g:Exit→List Value→List (Option Blk)→Prop)(f k m:Int)(e:List Value)(b d:Nat):Prop:=∀a:Nat,∀c:List Value,qew c a (b+1) 1→qca (qdc f e c d 200 b&&true) g [some (qbx f e c d 200 b)] [S h,S i,S j,qe7 k,qfa 200 (b+1) a,B (l || k !=0&&qa9 j m k),qbw m]
def qcv(a:Bool)(f g h:ByteArray)(i:Exit→List Value→List (Option Blk)→Prop)(b j k:Int)(c:List Value)(d e l:Nat):Prop:=bif a || (b !=0 || true)then bif qbi c d e 1 then qan a f g h i j b k c e l else False else False
theorem r69_0(s:ByteArray)(r:ByteArray)(b:ByteArray)(dr:Int)(d:List Value)(m:Nat)(cap:Nat)(seen:Bool)(i:Int)(jk:Tmps)(R:Exit→List Value→List (Option Blk)→Prop):(jbs Tryz.prog G3 noL Tryz.f201.ntmps (ja7 Tryz.f201 0) (tl S69_0.live (V69_0 (s,r,b,dr,d,m,cap,seen,i)) jk) (ml S69_0.mid (B69_0 (s,r,b,dr,d,m,cap,seen,i))) S69_0.n fun e t' m' _=>S69_0.out R e t' m')=(bif qcr b i then qgg (hasZ (bz ⟨#[57,89,84,73,82]⟩) (qe9 b i)) b i (qcv seen s r b R dr 100 i d cap m 286) (qdn (hasZ (bz ⟨#[90,42]⟩) (qe9 b i)) (qg7 (dr !=0) (qa9 b i dr || true) true) (hasZ (bz ⟨#[90,42]⟩) (qe9 b i) || dr !=0&& (qa9 b i dr&&seen)) (qcv seen s r b R dr 99 i d cap m 300) (bif qa9 b i 86 then qcv seen s r b R dr 118 i d cap m 302 else bif qa9 b i 36 then qcv seen s r b R dr 109 i d cap m 304 else bif hasZ (bz ⟨#[83,43,45]⟩) (qe9 b i)then qcv seen s r b R dr 115 i d cap m 306 else qcv seen s r b R dr 105 i d cap m 305))else qcp (qb5 d 200 200) R (qbf d) [S b,qe7 dr,qfa 200 m cap,B seen,qbk i] 0 (S s) (S r)):=by kernel_rfl
theorem l69_0:LOKf Tryz.prog (oneL 0 S69_0.hA) Tryz.f201:=by
 refine jbn (h:=S69_0.hA) (by kernel_rfl) (jbq ok_G3 hmix (by kernel_rfl) (ja6 _) S69_0 V69_0 B69_0 (fun(s,r,b,dr,d,m,cap,seen,i)=>(b.size-i).toNat) ?_ ?_ ?_)
 ·intro vs bs s h;simp only[S69_0]at h;split at h
  all_goals first | (cases h;exact⟨rfl,rfl⟩) | cases h
 ·exact fun⟨s,r,b,dr,d,m,cap,seen,i⟩ hp=>by
   simp only[S69_0,jaf]at hp;simp[V69_0,B69_0,S69_0,ja0,jbx,idsL,ids,jaq (jat.1 hp.1).plain]
 ·intro⟨s,r,b,dr,d,m,cap,seen,i⟩ jk Z hp hf;rw[r69_0];delta qcp qbk qbp qfa qe7 qhl qbf qb5 qfq qal qgg qdn qca qaw qbw qe9 qa9 qgb qbx qdc qew qan qaf qbi qcv qg7 qcr;simp only[S69_0]at hp hf;simp only[jaf,jae]at hp;obtain⟨hr,hp⟩:=hp;have hr:=jat.1 hr;apply cond_intro<;>intro h
  ·have h:=jab h;have k1:bz ⟨#[57,89,84,73,82]⟩=[57,89,84,73,82]:=rfl;have k2:bz ⟨#[90,42]⟩=[90,42]:=rfl;have k3:bz ⟨#[83,43,45]⟩=[83,43,45]:=rfl;rw[k1,k2,k3];rw[jb7 hp.1 h]at hf;refine c_t (jaa (by omega)) ?_
   have fin:∀(cap':Nat)(d':List Value)(x:Int),mk1 dr seen (jak b i.toNat)=x→RowP d' (m+1) cap'→zc d' (m+1)=zc d m++ [x]→
     S69_0.step V69_0 B69_0 (fun(s,r,b,dr,d,m,cap,seen,i)=>(b.size-i).toNat) (s,r,b,dr,d,m,cap,seen,i) Z Exit.normal [S s,S r,S b,C8 dr,.slice (some ⟨200,0,some 1⟩) (m+1) cap',B (seen || dr !=0&&jak b i.toNat==dr),I (IntKind.wrap .i64 (i+1))] [some ⟨d',5,true⟩]:=by
    intro cap' d' x hx g1 g2;rw[w64 (by omega)];refine⟨(s,r,b,dr,d',m+1,cap',_,i+1),rfl,rfl,by simp only[S69_0,jaf,jae];exact⟨jat.2 g1,by omega⟩,by simp only;omega,?_⟩;intro d'' cap'' seen'' h1 h2;refine hf d'' cap'' seen'' h1 ?_;rw[h2,g2,mkGo,hx,List.append_assoc];rfl
   have sn:(seen || (dr !=0 || true))=true:=by simp
   have K:Nat→Nat→List Value→Prop:=fun _ _ _=>True
   apply cond_intro<;>intro h1
   ·exact c_t sn (jfu hr (by omega) 100 _ (fun cap' d'=>S69_0.step V69_0 B69_0 _ (s,r,b,dr,d,m,cap,seen,i) Z Exit.normal [S s,S r,S b,C8 dr,.slice (some ⟨200,0,some 1⟩) (m+1) cap',B (seen || dr !=0&&jak b i.toNat==dr),I (IntKind.wrap .i64 (i+1))] [some ⟨d',5,true⟩]) (fun cap' d' g1 g2=>fin cap' d' 100 (by simp only[mk1,h1,cond_true]) g1 g2))
   ·refine c_t (by cases hasZ [90,42] (jak b i.toNat) <;>cases(dr !=0) <;>simp) (cond_intro (fun h2=> ?_) (fun h2=> ?_))
    ·exact c_t sn (jfu hr (by omega) 99 _ (fun cap' d'=>S69_0.step V69_0 B69_0 _ (s,r,b,dr,d,m,cap,seen,i) Z Exit.normal [S s,S r,S b,C8 dr,.slice (some ⟨200,0,some 1⟩) (m+1) cap',B (seen || dr !=0&&jak b i.toNat==dr),I (IntKind.wrap .i64 (i+1))] [some ⟨d',5,true⟩]) (fun cap' d' g1 g2=>fin cap' d' 99 (by simp only[mk1,h1,h2,cond_true,cond_false]) g1 g2))
    ·apply cond_intro<;>intro h3
     ·exact c_t sn (jfu hr (by omega) 118 _ (fun cap' d'=>S69_0.step V69_0 B69_0 _ (s,r,b,dr,d,m,cap,seen,i) Z Exit.normal [S s,S r,S b,C8 dr,.slice (some ⟨200,0,some 1⟩) (m+1) cap',B (seen || dr !=0&&jak b i.toNat==dr),I (IntKind.wrap .i64 (i+1))] [some ⟨d',5,true⟩]) (fun cap' d' g1 g2=>fin cap' d' 118 (by simp only[mk1,h1,h2,h3,cond_true,cond_false]) g1 g2))
     ·apply cond_intro<;>intro h4
      ·exact c_t sn (jfu hr (by omega) 109 _ (fun cap' d'=>S69_0.step V69_0 B69_0 _ (s,r,b,dr,d,m,cap,seen,i) Z Exit.normal [S s,S r,S b,C8 dr,.slice (some ⟨200,0,some 1⟩) (m+1) cap',B (seen || dr !=0&&jak b i.toNat==dr),I (IntKind.wrap .i64 (i+1))] [some ⟨d',5,true⟩]) (fun cap' d' g1 g2=>fin cap' d' 109 (by simp only[mk1,h1,h2,h3,h4,cond_true,cond_false]) g1 g2))
      ·apply cond_intro<;>intro h5
       ·exact c_t sn (jfu hr (by omega) 115 _ (fun cap' d'=>S69_0.step V69_0 B69_0 _ (s,r,b,dr,d,m,cap,seen,i) Z Exit.normal [S s,S r,S b,C8 dr,.slice (some ⟨200,0,some 1⟩) (m+1) cap',B (seen || dr !=0&&jak b i.toNat==dr),I (IntKind.wrap .i64 (i+1))] [some ⟨d',5,true⟩]) (fun cap' d' g1 g2=>fin cap' d' 115 (by simp only[mk1,h1,h2,h3,h4,h5,cond_true,cond_false]) g1 g2))
       ·exact c_t sn (jfu hr (by omega) 105 _ (fun cap' d'=>S69_0.step V69_0 B69_0 _ (s,r,b,dr,d,m,cap,seen,i) Z Exit.normal [S s,S r,S b,C8 dr,.slice (some ⟨200,0,some 1⟩) (m+1) cap',B (seen || dr !=0&&jak b i.toNat==dr),I (IntKind.wrap .i64 (i+1))] [some ⟨d',5,true⟩]) (fun cap' d' g1 g2=>fin cap' d' 105 (by simp only[mk1,h1,h2,h3,h4,h5,cond_true,cond_false]) g1 g2))
  ·have h:=jac h;refine c_t (by rw[hr.good];rfl) ?_;rw[hr.rlb];obtain rfl:i=b.size:=by omega
   have e:b.size=m:=by omega
   have:=hf d cap seen (by rw[e];exact jat.2 hr) (by rw[jcp (Int.le_refl _),e];simp[mkGo]);rw[e]at this ⊢;exact this
def s69(s:ByteArray):Bool×Value:=(decide (s.size≤1000),.string (sz (jar (bz s))))
theorem fn69:Fn1 Tryz.prog 201 Tryz.f201:= .m Tryz.func201
def qe1(b:Bool)(a:ByteArray)(c d:Prop):Prop:=bif qbl a then bif b then c else d else False
def qcg(c d:ByteArray)(e:List Int)(f:Value→Prop):Prop:=bif qbl c then bif S69_0.toLSpec.pre (d,(qgh,(c,(drZ (bz c),(([]:List Value),(0,(0,(false,(0:Int)))))))))then∀a:List Value,∀b:Nat,Bool→jci a c.size b=true→zc a c.size=zc [] 0++mkGo (drZ (bz c)) false e→qg5 true a 260 (qe1 (crZ (bz d)) d (bif jbf a 0 c.size then qgf (jb0 ((jbb a 0 c.size).size+(ByteArray.mk #[115,115]).size)) (S (jbb a 0 c.size++⟨#[115,115]⟩)) f else False) (qgf (jbf a 0 c.size) (S (jbb a 0 c.size)) f))else False else False
def qe5(a b:Int):Int:=IntKind.i64.wrap (a-b)
def qae(a:ByteArray):ByteArray:=a.extract 0 (qe5 (qfq a) 2).toNat
def qgm(a:ByteArray):Bool:=qb2 0 0 (qc0 (qfq a) 2) (qc0 (qfq a) 2) (qfq a)
theorem v69(s:ByteArray)(R:Value→Prop):ja1 Tryz.prog G3 (oneL 0 S69_0.hA) Tryz.f201 [Enc.enc s] (fun _=>none) 0 (fun v _ _=>R v)=(qe1 (crZ (bz s)) s (bif qgm s then qcg (qae s) s (qc8 (qae s) 0) R else False) (qcg s s (qa5 s) R)):=by kernel_rfl
theorem ok69:jan Tryz.prog 201 (sp1 s69):=by
 refine jb9 ok_G3 hmix fn69 l69_0 jag fun s hc=> ?_
 rw[ja2,v69];delta qbl qe1 qg5 qgf qgh qcg qa5 qc8 qe5 qfq qae qb2 qc0 qgm;have hc:(s.size≤1000):=jab hc;dsimp only[s69];have hz0:zc [] 0=[]:=rfl;have kss:(⟨#[115,115]⟩:ByteArray)=sz [115,115]:=rfl;refine c_t (jaa (by omega)) (cond_intro (fun hcr=> ?_) (fun hcr=> ?_))
 ·have h2:2≤s.size:=by
   simp only[crZ,jaf,jae,jap]at hcr;exact hcr.1
  have e:((s.size:Int)-2).toNat=s.size-2:=by omega
  rw[w64 (by omega),e];have eb:bz (s.extract 0 (s.size-2))=(bz s).take (s.size-2):=by rw[jca];simp
  have hbs:(s.extract 0 (s.size-2)).size=s.size-2:=by rw[←jap,eb,List.length_take,jap];omega
  generalize s.extract 0 (s.size-2)=b at*;refine c_t (jaa (by omega)) (c_t (jaa (by omega)) (c_t ?_ (fun d' cap' seen' h1 h3=> ?_)))
  ·simp only[S69_0,jaf,jae];exact⟨rfl,by omega⟩
  have h1:=jat.1 h1;have hsz:(jbb d' 0 b.size).size=b.size:=by rw[h1.str.2,jcm,ja9 h1]
  refine c_t (by rw[jbg h1.plain];rfl) (fun _=>c_t (jaa (by omega)) (c_t hcr (c_t h1.str.1 (c_t ?_ ?_))))
  ·rw[hsz];simp only[jb0,Nat.ble_eq];show b.size+2≤_;omega
  ·rw[h1.str.2,h3,hz0,jdm,kss,←sz_append];simp only[jar,jal,hcr,if_true,jap,eb,List.nil_append]
 ·refine c_t (jaa (by omega)) (c_t ?_ (fun d' cap' seen' h1 h3=> ?_))
  ·simp only[S69_0,jaf,jae];exact⟨rfl,by omega⟩
  have h1:=jat.1 h1;refine c_t (by rw[jbg h1.plain];rfl) (fun _=>c_t (jaa (by omega)) (c_f hcr (c_t h1.str.1 ?_)));rw[h1.str.2,h3,hz0,jdm];simp[jar,jal,hcr]
def G4:Env:=(((Env.nil.add 202 (sp2 s40)).add 199 (sp2 s75)).add 242 (sp1 s96)).add 238 (sp1 s101)
theorem ok_G4:jax Tryz.prog G4:=jaj (jaj (jaj (jaj jao ok40) ok75) ok96) ok101
def df1(s:List Int)(dr:Int):List Int→Int→Int→Int→Bool×Int×Int
 | [],_,f,l=>(true,f,l)
 | c::r,i,f,l=>bif c==dr then df1 s dr r (i+1) (if f<0 then i else f) i
  else bif hasZ [36,83,43,45] c&&decide (2≤cntZ s c)then(false,0,0)else df1 s dr r (i+1) f l
def d2Go(dr f:Int):List Int→Int→Bool
 | [],_=>true
 | c::r,i=> !(decide (i<f) &&c==86) && (!(decide (i>f) && (c !=dr&& !hasZ [44,46,47,66,86] c)) &&d2Go dr f r (i+1))
def jcf(s:List Int):Bool:=drZ s==0 || ((df1 s (drZ s) s 0 (-1) (-1)).1&&d2Go (drZ s) (df1 s (drZ s) s 0 (-1) (-1)).2.1 (s.take (df1 s (drZ s) s 0 (-1) (-1)).2.2.toNat) 0)
theorem jkx(s:List Int)(dr:Int):∀(r:List Int)(i f l:Int),0≤i→ -1≤f→f≤i→ -1≤l→l≤i→(df1 s dr r i f l).1=true→ -1≤(df1 s dr r i f l).2.1∧(df1 s dr r i f l).2.1≤i+r.length∧ -1≤(df1 s dr r i f l).2.2∧(df1 s dr r i f l).2.2≤i+r.length
 | [],i,f,l,h0,h1,h2,h3,h4,_=>by simp only[df1,List.length_nil];omega
 | c::r,i,f,l,h0,h1,h2,h3,h4,hk=>by
  simp only[df1,List.length_cons]at hk ⊢;cases hc:(c==dr)with
  | true=>
   rw[hc]at hk;simp only[cond_true]at hk ⊢;have:=jkx s dr r (i+1) _ i (by omega) (by split<;>omega) (by split<;>omega) (by omega) (by omega) hk;omega
  | false=>
   rw[hc]at hk;simp only[cond_false]at hk ⊢;cases hq:(hasZ [36,83,43,45] c&&decide (2≤cntZ s c))with
   | true=>rw[hq]at hk;cases hk
   | false=>
    rw[hq]at hk;simp only[cond_false]at hk ⊢;have:=jkx s dr r (i+1) f l (by omega) h1 (by omega) h3 (by omega) hk;omega
def V104_0:ByteArray×Bool×Int×Int×Int×Int→List Value:=fun(s,b,dr,f,l,i)=> [S s,B b,C8 dr,I f,I l,I i]
def B104_0:ByteArray×Bool×Int×Int×Int×Int→List (Option Blk):=fun _=> []
def S104_0:LSpec (ByteArray×Bool×Int×Int×Int×Int) where
 live:=[0,2,3,4,5,6]
 mid:=[]
 n:=60
 dec vs bs:=match vs,bs with | [.string s,.bool b,.int .u8 dr,.int .i64 f,.int .i64 l,.int .i64 i],[]=>some (s,b,dr,f,l,i) | _,_=>none
 pre:=fun(s,b,dr,f,l,i)=>decide (0≤i∧i≤s.size∧s.size≤9223372036854775807∧ -1≤f∧f≤i∧ -1≤l∧l≤i)
 fin:=fun(s,b,dr,f,l,i) Z=>(bif (df1 (bz s) dr ((bz s).drop i.toNat) i f l).1 then Z (.exit 0) [S s,B b,C8 dr,I (df1 (bz s) dr ((bz s).drop i.toNat) i f l).2.1,I (df1 (bz s) dr ((bz s).drop i.toNat) i f l).2.2,I s.size] []else(∀f' l' i',Z .ret [S s,B false,C8 dr,I f',I l',I i'] []))
theorem r104_0(s:ByteArray)(b:Bool)(dr:Int)(f:Int)(l:Int)(i:Int)(jk:Tmps)(R:Exit→List Value→List (Option Blk)→Prop):(jbs Tryz.prog G4 noL Tryz.f239.ntmps (ja7 Tryz.f239 0) (tl S104_0.live (V104_0 (s,b,dr,f,l,i)) jk) (ml S104_0.mid (B104_0 (s,b,dr,f,l,i))) S104_0.n fun e t' m' _=>R e (List.map t' S104_0.live) (List.map m' S104_0.mid))=(qc5 (qal s i) (qa9 s i dr) s R i [] (qe7 dr::qbk f::qap l i) 0 (bif qfu f 0 then qes s R (qe7 dr::qbk i::qag i i) (B b)else qes s R (qe7 dr::qbk f::qag i i) (B b)) (bif qf2 (qdw s i) (qbl s&&true) s s i i then bif qdw s i&&decide ((cntZ (bz s) (qe9 s i):Int)≥2)then R .ret (S s::B false::qe7 dr::qbk f::qap l i) []else qes s R (qe7 dr::qbk f::qag l i) (B b)else False) (S s) (B b)):=by kernel_rfl
theorem l104_0:∀t m n K,S104_0.h t m n K→Ab.Sem Tryz.prog Tryz.f239.ntmps (.loop (ja7 Tryz.f239 0)) t m n K:=by
 refine jbk ok_G4 hmix (by kernel_rfl) (ja6 _) S104_0 V104_0 B104_0 (fun(s,b,dr,f,l,i)=>(s.size-i).toNat) ?_ ?_ ?_
 ·intro vs bs s h;simp only[S104_0]at h;split at h
  all_goals first | (cases h;exact⟨rfl,rfl⟩) | cases h
 ·exact fun _ _ _ h=>h
 ·intro⟨s,b,dr,f,l,i⟩ jk Z hp hf;rw[r104_0];delta qf8 qfq qcr qc5 qes qaw qbw qbk qag qe7 qap qe9 qdw qg7 qal qf2 qbl qfu qa9;simp only[S104_0]at hp hf;simp only[jae]at hp;apply cond_intro<;>intro h
  ·have h:=jab h;rw[jb7 hp.1 h,df1]at hf;have h1:decide (0≤i∧i<(s.size:Int))=true:=jaa (by omega);have k:bz ⟨#[36,83,43,45]⟩=[36,83,43,45]:=rfl;rw[k];refine c_t h1 (cond_intro (fun hc=> ?_) (fun hc=> ?_))
   ·rw[hc,cond_true]at hf;rw[w64 (n:=i+1) (by omega)];apply cond_intro<;>intro hd
    ·rw[if_pos (jab hd)]at hf;exact⟨(s,b,dr,i,i,i+1),rfl,rfl,by simp only[S104_0,jae];omega,by simp only;omega,hf⟩
    ·rw[if_neg (jac hd)]at hf;exact⟨(s,b,dr,f,i,i+1),rfl,rfl,by simp only[S104_0,jae];omega,by simp only;omega,hf⟩
   ·rw[hc,cond_false]at hf;refine c_t (by rw[h1,jaa hp.2.2.1];cases hasZ [36,83,43,45] (jak s i.toNat) <;>rfl) (cond_intro (fun hd=> ?_) (fun hd=> ?_))
    ·have hd':(hasZ [36,83,43,45] (jak s i.toNat) &&decide (2≤cntZ (bz s) (jak s i.toNat)))=true:=by
      simp only[jaf,jae]at hd ⊢;exact⟨hd.1,by omega⟩
     rw[hd',cond_true]at hf;exact hf f l i
    ·have hd':(hasZ [36,83,43,45] (jak s i.toNat) &&decide (2≤cntZ (bz s) (jak s i.toNat)))=false:=by
      cases q:hasZ [36,83,43,45] (jak s i.toNat)with
      | false=>rfl
      | true=>
       rw[q,Bool.true_and,decide_eq_false_iff_not]at hd;rw[Bool.true_and];exact jad (by omega)
     rw[hd',cond_false]at hf;rw[w64 (by omega)];exact⟨(s,b,dr,f,l,i+1),rfl,rfl,by simp only[S104_0,jae];omega,by simp only;omega,hf⟩
  ·have h:=jac h;rw[jcp (by omega)]at hf;obtain rfl:i=s.size:=by omega
   exact hf
def V104_2:ByteArray×Bool×Int×Int×Int×Int→List Value:=fun(s,b,dr,f,l,i)=> [S s,B b,C8 dr,I f,I l,I i]
def B104_2:ByteArray×Bool×Int×Int×Int×Int→List (Option Blk):=fun _=> []
def S104_2:LSpec (ByteArray×Bool×Int×Int×Int×Int) where
 live:=[0,2,3,4,5,7]
 mid:=[]
 n:=90
 dec vs bs:=match vs,bs with | [.string s,.bool b,.int .u8 dr,.int .i64 f,.int .i64 l,.int .i64 i],[]=>some (s,b,dr,f,l,i) | _,_=>none
 pre:=fun(s,b,dr,f,l,i)=>decide (0≤i∧s.size≤9223372036854775807∧l≤s.size)
 fin:=fun(s,b,dr,f,l,i) Z=>(bif d2Go dr f (((bz s).take l.toNat).drop i.toNat) i then(∀i',Z (.exit 2) [S s,B b,C8 dr,I f,I l,I i'] [])else(∀i',Z .ret [S s,B false,C8 dr,I f,I l,I i'] []))
theorem r104_2(s:ByteArray)(b:Bool)(dr:Int)(f:Int)(l:Int)(i:Int)(jk:Tmps)(R:Exit→List Value→List (Option Blk)→Prop):(jbs Tryz.prog G4 noL Tryz.f239.ntmps (ja7 Tryz.f239 2) (tl S104_2.live (V104_2 (s,b,dr,f,l,i)) jk) (ml S104_2.mid (B104_2 (s,b,dr,f,l,i))) S104_2.n fun e t' m' _=>R e (List.map t' S104_2.live) (List.map m' S104_2.mid))=(bif qfn i l then qhe (qfn i f) (qal s i&&true) true (qfn i f&&qa9 s i 86) (R .ret (S s::B false::qe7 dr::qbk f::qap l i) []) (bif qg7 (qhk i f) (qf2 (qe9 s i !=dr) true s s i i) true then bif qhk i f&& (qe9 s i !=dr&& !hasZ (bz ⟨#[44,46,47,66,86]⟩) (qe9 s i))then R .ret (S s::B false::qe7 dr::qbk f::qap l i) []else qes s R (qe7 dr::qbk f::qag l i) (B b)else False)else R (.exit 2) (S s::B b::qe7 dr::qbk f::qap l i) []):=by kernel_rfl
theorem l104_2:∀t m n K,S104_2.h t m n K→Ab.Sem Tryz.prog Tryz.f239.ntmps (.loop (ja7 Tryz.f239 2)) t m n K:=by
 refine jbk ok_G4 hmix (by kernel_rfl) (ja6 _) S104_2 V104_2 B104_2 (fun(s,b,dr,f,l,i)=>(l-i).toNat) ?_ ?_ ?_
 ·intro vs bs s h;simp only[S104_2]at h;split at h
  all_goals first | (cases h;exact⟨rfl,rfl⟩) | cases h
 ·exact fun _ _ _ h=>h
 ·intro⟨s,b,dr,f,l,i⟩ jk Z hp hf;rw[r104_2];delta qbk qap qe7 qg7 qhe qes qaw qbw qag qe9 qhk qfq qal qf2 qa9 qfn;simp only[S104_2]at hp hf;simp only[jae]at hp;have k:bz ⟨#[44,46,47,66,86]⟩=[44,46,47,66,86]:=rfl;rw[k];apply cond_intro<;>intro h
  ·have h:=jab h;rw[bz_take_at hp.1 h hp.2.2,d2Go]at hf;have h1:decide (0≤i∧i<(s.size:Int))=true:=jaa (by omega);refine c_t (by rw[h1];cases decide (i<f) <;>rfl) (cond_intro (fun ha=> ?_) (fun ha=> ?_))
   ·rw[ha]at hf;exact hf i
   ·rw[ha,Bool.not_false,Bool.true_and]at hf;refine c_t (by rw[h1];cases decide (i>f) <;>cases(jak s i.toNat !=dr) <;>rfl) (cond_intro (fun hb=> ?_) (fun hb=> ?_))
    ·rw[hb]at hf;exact hf i
    ·rw[hb,Bool.not_false,Bool.true_and]at hf;rw[w64 (by omega)];exact⟨(s,b,dr,f,l,i+1),rfl,rfl,by simp only[S104_2,jae];omega,by simp only;omega,hf⟩
  ·have h:=jac h;rw[List.drop_eq_nil_of_le (by rw[List.length_take];omega)]at hf;exact hf i
theorem lok104:LOKf Tryz.prog (twoL 0 S104_0.h 2 S104_2.h) Tryz.f239:=jge (by kernel_rfl) (by kernel_rfl) l104_0 l104_2
def s104(s:ByteArray):Bool×Value:=(decide (s.size≤1000),.bool (jcf (bz s)))
theorem fn104:Fn1 Tryz.prog 239 Tryz.f239:= .m Tryz.func239
def qeu(a:ByteArray):Prod Bool (Prod Int Int):=df1 (bz a) (drZ (bz a)) (qa5 a) 0 (-1) (-1)
theorem v104(s:ByteArray)(R:Value→Prop):ja1 Tryz.prog G4 (twoL 0 S104_0.h 2 S104_2.h) Tryz.f239 [Enc.enc s] (fun _=>none) 0 (fun v _ _=>R v)=(qe1 (drZ (bz s)==0) s (R (B true)) (qg1 (S104_0.pre (s,(false,(drZ (bz s),(-(1:Int),(-(1:Int),(0:Int))))))) (qeu s).fst (qhp (S104_2.pre (s,(false,(drZ (bz s),((qeu s).snd.fst,((qeu s).snd.snd,(0:Int))))))) (bif d2Go (drZ (bz s)) (qeu s).snd.fst (((bz s).take (qeu s).snd.snd.toNat).drop (Int.toNat 0)) 0 then Int→Tmps→R (B true)else qdz R) False) (Int→Int→qdz R))):=by kernel_rfl
theorem ok104:jan Tryz.prog 239 (sp1 s104):=by
 refine jb9 ok_G4 hmix fn104 lok104 jag fun s hc=> ?_
 rw[ja2,v104];delta qbl qe1 qg1 qgr qdz qhp qa5 qeu;have hc:(s.size≤1000):=jab hc;dsimp only[s104];refine c_t (jaa (by omega)) (cond_intro (fun h=>by simp only[jcf,h,Bool.true_or]) (fun h=>c_t (by simp only[S104_0,jae];omega) ?_));rw[jdm];have hr:=jkx (bz s) (drZ (bz s)) (bz s) 0 (-1) (-1) (by omega) (by omega) (by omega) (by omega) (by omega);rw[jap]at hr;simp only[jcf,h,Bool.false_or];generalize df1 (bz s) (drZ (bz s)) (bz s) 0 (-1) (-1)=q at*;refine cond_intro (fun h1 x=>c_t ?_ ?_) (fun h1 _ _ _ _=>by rw[h1];rfl)
 ·have:=hr h1;simp only[S104_2,jae];omega
 ·rw[jdm];exact cond_intro (fun h2 _ _=>by rw[h1,h2];rfl) (fun h2 _ _=>by rw[h1,h2];rfl)
def ldGo:List Int→Bool→Bool→Bool→Int→Bool×Bool×Bool×Int
 | [],fm,bh,_,dg=>(true,fm,bh,dg)
 | m::r,fm,bh,pt,dg=>bif m==118 then ldGo r fm bh true dg else bif m==100 then ldGo r true bh pt (dg+1)
  else bif m==99 then(bif fm then(false,false,false,0)else ldGo r fm (bh || pt) pt (dg+1))else ldGo r fm bh pt dg
def jdk(b ms:List Int):Bool:=bif hasZ b 90&&hasZ b 42 then false else bif (hasZ b 90 || hasZ b 42) &&drZ b !=0 then false
 else(ldGo ms false false false 0).1&& (decide (1≤(ldGo ms false false false 0).2.2.2) && (decide ((ldGo ms false false false 0).2.2.2≤9) && !((ldGo ms false false false 0).2.2.1&& (ldGo ms false false false 0).2.1)))
def V105_0:ByteArray×ByteArray×Bool×Bool×Bool×Bool×Int×Int→List Value:=fun(s,ms,b,fm,bh,pt,dg,i)=> [S s,S ms,B b,B fm,B bh,B pt,I dg,I i]
def B105_0:ByteArray×ByteArray×Bool×Bool×Bool×Bool×Int×Int→List (Option Blk):=fun _=> []
def S105_0:LSpec (ByteArray×ByteArray×Bool×Bool×Bool×Bool×Int×Int) where
 live:=[0,1,4,5,6,7,8,9]
 mid:=[]
 n:=60
 dec vs bs:=match vs,bs with | [.string s,.string ms,.bool b,.bool fm,.bool bh,.bool pt,.int .i64 dg,.int .i64 i],[]=>some (s,ms,b,fm,bh,pt,dg,i) | _,_=>none
 pre:=fun(s,ms,b,fm,bh,pt,dg,i)=>decide (0≤i∧i≤s.size∧s.size=ms.size∧s.size≤1000∧0≤dg∧dg≤i)
 fin:=fun(s,ms,b,fm,bh,pt,dg,i) Z=>(bif (ldGo ((bz ms).drop i.toNat) fm bh pt dg).1 then(∀pt',Z (.exit 0) [S s,S ms,B b,B (ldGo ((bz ms).drop i.toNat) fm bh pt dg).2.1,B (ldGo ((bz ms).drop i.toNat) fm bh pt dg).2.2.1,B pt',I (ldGo ((bz ms).drop i.toNat) fm bh pt dg).2.2.2,I s.size] [])else(∀fm' bh' pt' dg' i',Z .ret [S s,S ms,B false,B fm',B bh',B pt',I dg',I i'] []))
def qg9(a b:ByteArray)(d:List Value)(c:Value):List Value:=S a::S b::c::d
theorem r105_0(s:ByteArray)(ms:ByteArray)(b:Bool)(fm:Bool)(bh:Bool)(pt:Bool)(dg:Int)(i:Int)(jk:Tmps)(R:Exit→List Value→List (Option Blk)→Prop):(jbs Tryz.prog G4 noL Tryz.f240.ntmps (ja7 Tryz.f240 0) (tl S105_0.live (V105_0 (s,ms,b,fm,bh,pt,dg,i)) jk) (ml S105_0.mid (B105_0 (s,ms,b,fm,bh,pt,dg,i))) S105_0.n fun e t' m' _=>R e (List.map t' S105_0.live) (List.map m' S105_0.mid))=(qc5 (qal ms i) (qa9 ms i 118) s R i [] (B b::B fm::B bh::B pt::qap dg i) 0 (qes s R (B b::B fm::B bh::B true::qag dg i) (S ms)) (qgg (qa9 ms i 100) ms i (qes s R [B b,B true,B bh,B pt,qbw dg,qbw i] (S ms)) (bif qal ms i then bif qa9 ms i 99 then bif fm then R .ret (qg9 s ms (B fm::B bh::B pt::qap dg i) (B false)) []else qca (bh || true) R [] (qg9 s ms [B fm,B (bh || pt),B pt,qbw dg,qbw i] (B b))else qes s R (B b::B fm::B bh::B pt::qag dg i) (S ms)else False)) (S s) (S ms)):=by kernel_rfl
theorem l105_0:LOKf Tryz.prog (oneL 0 S105_0.h) Tryz.f240:=by
 refine jbn (h:=S105_0.h) (by kernel_rfl) (jbk ok_G4 hmix (by kernel_rfl) (ja6 _) S105_0 V105_0 B105_0 (fun(s,ms,b,fm,bh,pt,dg,i)=>(s.size-i).toNat) ?_ ?_ ?_)
 ·intro vs bs s h;simp only[S105_0]at h;split at h
  all_goals first | (cases h;exact⟨rfl,rfl⟩) | cases h
 ·exact fun _ _ _ h=>h
 ·intro⟨s,ms,b,fm,bh,pt,dg,i⟩ jk Z hp hf;rw[r105_0];delta qf8 qfq qcr qc5 qal qgg qes qaw qbw qbk qag qca qg9 qap qe9 qa9;simp only[S105_0]at hp hf;simp only[jae]at hp;apply cond_intro<;>intro h
  ·have h:=jab h;rw[jb7 (s:=ms) hp.1 (by omega),ldGo]at hf;have h1:decide (0≤i∧i<(ms.size:Int))=true:=jaa (by omega);refine c_t h1 (cond_intro (fun q1=> ?_) (fun q1=>c_t h1 (cond_intro (fun q2=> ?_) (fun q2=>c_t h1 (cond_intro (fun q3=>cond_intro (fun q4=> ?_) (fun q4=>c_t (by simp) ?_)) (fun q3=> ?_))))))
   ·rw[q1,cond_true]at hf;rw[w64 (by omega)];exact⟨(s,ms,b,fm,bh,true,dg,i+1),rfl,rfl,by simp only[S105_0,jae];omega,by simp only;omega,hf⟩
   ·rw[q1,q2,cond_false,cond_true]at hf;rw[w64 (n:=dg+1) (by omega),w64 (by omega)];exact⟨(s,ms,b,true,bh,pt,dg+1,i+1),rfl,rfl,by simp only[S105_0,jae];omega,by simp only;omega,hf⟩
   ·rw[q1,q2,q3,cond_false,cond_false,cond_true,q4,cond_true]at hf;exact hf fm bh pt dg i
   ·rw[q1,q2,q3,cond_false,cond_false,cond_true,q4,cond_false]at hf;rw[w64 (n:=dg+1) (by omega),w64 (by omega),q4];exact⟨(s,ms,b,false,bh || pt,pt,dg+1,i+1),rfl,rfl,by simp only[S105_0,jae];omega,by simp only;omega,hf⟩
   ·rw[q1,q2,q3,cond_false,cond_false,cond_false]at hf;rw[w64 (by omega)];exact⟨(s,ms,b,fm,bh,pt,dg,i+1),rfl,rfl,by simp only[S105_0,jae];omega,by simp only;omega,hf⟩
  ·have h:=jac h;rw[jcp (by omega)]at hf;obtain rfl:i=s.size:=by omega
   exact hf pt
def s105(s:ByteArray)(ms:ByteArray):Bool×Value:=(decide (s.size=ms.size∧s.size≤1000),.bool (jdk (bz s) (bz ms)))
theorem fn105:Fn1 Tryz.prog 240 Tryz.f240:= .m Tryz.func240
def qhh(a b c:Bool)(d e:Prop):Prop:=bif a&&b then bif c then d else e else False
def qf0(b c:Bool)(a:Int):Bool:=decide (a≥1) && (decide (a≤9) &&qg7 b (!c) (!false))
def qfk(a:ByteArray):Prod Bool (Prod Bool (Prod Bool Int)):=ldGo (qa5 a) false false false 0
def qej(b:Bool)(a:Int):Bool:=bif decide (a≥1)then qg7 (decide (a≤9)) (b || true) true else true
theorem v105(s:ByteArray)(ms:ByteArray)(R:Value→Prop):ja1 Tryz.prog G4 (oneL 0 S105_0.h) Tryz.f240 [Enc.enc s,Enc.enc ms] (fun _=>none) 0 (fun v _ _=>R v)=(qhh (qbl s) (qg7 (hasZ (bz s) 90) (qbl s&&true) true) (hasZ (bz s) 90&&hasZ (bz s) 42) (qgr R) (bif qbl s&&qg7 (hasZ (bz s) 90) (qbl s&&true) (qbl s&& (bif hasZ (bz s) 42 then qbl s&&true else true))then bif qg7 (hasZ (bz s) 90) (drZ (bz s) !=0) (hasZ (bz s) 42&&drZ (bz s) !=0)then qgr R else qg1 (S105_0.pre (s,(ms,(false,(false,(false,(false,((0:Int),(0:Int))))))))) (qfk ms).fst (Bool→Tmps→qgf (qej (qfk ms).snd.snd.fst (qfk ms).snd.snd.snd) (B (qf0 (qfk ms).snd.snd.fst (qfk ms).snd.fst (qfk ms).snd.snd.snd)) R) (Bool→Bool→Bool→Int→qdz R)else False)):=by kernel_rfl
theorem ok105:jan Tryz.prog 240 (sp2 s105):=by
 refine jc5 ok_G4 hmix fn105 l105_0 jag fun s ms hc=> ?_
 rw[ja2,v105];delta qhh qg1 qgr qdz qgf qg7 qf0 qa5 qfk qej qbl;have hc:(s.size=ms.size∧s.size≤1000):=jab hc;dsimp only[s105];have d:decide (s.size≤9223372036854775807)=true:=jaa (by omega);rw[d];refine c_t (by cases hasZ (bz s) 90<;>rfl) (cond_intro (fun a=> ?_) (fun a=> ?_))
 ·simp only[jdk,a,cond_true]
 ·refine c_t (by cases hasZ (bz s) 90<;>cases hasZ (bz s) 42<;>rfl) ?_;have e:(bif hasZ (bz s) 90 then drZ (bz s) !=0 else hasZ (bz s) 42&&drZ (bz s) !=0)=((hasZ (bz s) 90 || hasZ (bz s) 42) &&drZ (bz s) !=0):=by cases hasZ (bz s) 90<;>cases hasZ (bz s) 42<;>rfl
  rw[e];apply cond_intro<;>intro q
  ·simp only[jdk,a,q,cond_true,cond_false]
  ·refine c_t (by simp only[S105_0,jae];omega) ?_;rw[jdm];simp only[jdk,a,q,cond_false];generalize ldGo (bz ms) false false false 0=w;obtain⟨w1,fm,bh,dg⟩:=w;refine cond_intro (fun r pt' x=>c_t ?_ ?_) (fun r _ _ _ _ _ _=> ?_)
   ·simp only;cases decide (dg≥1) <;>cases decide (dg≤9) <;>cases bh<;>rfl
   ·simp only at r ⊢;rw[r];cases fm<;>cases bh<;>rfl
   ·simp only at r ⊢;rw[r];rfl
def b2i(b:Bool):Int:=if b then 1 else 0
def jdf(s:List Int):Int:=b2i (crZ s)+b2i (hasZ (jal s) 83)+b2i (hasZ (jal s) 43)+b2i (hasZ (jal s) 45)+cntZ (jal s) 84+cntZ (jal s) 73+cntZ (jal s) 82
def s76(s:ByteArray):Bool×Value:=(decide (s.size≤1000),.int .i64 (jdf (bz s)))
theorem fn76:Fn1 Tryz.prog 200 Tryz.f200:= .m Tryz.func200
theorem lokf_jvP{fn:Func}{l:List Nat}(h:(match fn.body with | some c=>blks (jV l) c | none=> [])=[]):LOKf Tryz.prog (jV l) fn:=by
 unfold LOKf;split
 ·rename_i c hc;simp only[hc]at h;exact jg1 c fun p hp=>by rw[h]at hp;cases hp
 ·trivial
def bo76(s:ByteArray):ByteArray:=bif crZ (bz s)then s.extract 0 (IntKind.wrap .i64 ((s.size:Int)-2)).toNat else s
def sg76(b:ByteArray)(x c:Int):Int:=bif hasZ (bz b) c then IntKind.wrap .i64 (x+1)else x
def k76(b:ByteArray)(x:Int)(R:Value→Prop):Prop:=bif decide (b.size≤9223372036854775807)then bif hasZ (bz b) 83 || true then bif decide (b.size≤9223372036854775807)then bif hasZ (bz b) 43 || true then bif decide (b.size≤9223372036854775807)then bif hasZ (bz b) 45 || true then bif decide (b.size≤9223372036854775807)then bif decide (b.size≤9223372036854775807)then bif decide (b.size≤9223372036854775807)then R (I (IntKind.wrap .i64 (IntKind.wrap .i64 (IntKind.wrap .i64 (sg76 b (sg76 b (sg76 b x 83) 43) 45+(cntZ (bz b) 84:Int))+(cntZ (bz b) 73:Int))+(cntZ (bz b) 82:Int))))else False else False else False else False else False else False else False else False else False
theorem v76(s:ByteArray)(R:Value→Prop):ja1 Tryz.prog G4 (jV [4]) Tryz.f200 [Enc.enc s] (fun _=>none) 0 (fun v _ _=>R v)=(qe1 (qg7 (crZ (bz s)) (qgm s&&true&&true) true) s (k76 (bo76 s) (bif crZ (bz s)then 1 else 0) R) False):=by kernel_rfl
theorem b2i_r{q:Bool}:0≤b2i q∧b2i q≤1:=by cases q<;>decide
theorem sg_v{b:ByteArray}{x c:Int}(h:0≤x∧x≤1000):sg76 b x c=x+b2i (hasZ (bz b) c):=by
 unfold sg76;cases hasZ (bz b) c
 ·simp[b2i]
 ·rw[cond_true,w64 (by omega)];rfl
theorem ok76:jan Tryz.prog 200 (sp1 s76):=by
 refine jb9 ok_G4 hmix fn76 (lokf_jvP (l:=[4]) (by kernel_rfl)) jag fun s hc=> ?_
 rw[ja2,v76];delta qbl qe1 qg7 qb2 qfq qc0 qgm;have hc:(s.size≤1000):=jab hc;dsimp only[s76]
 have key:(bz (bo76 s)=jal (bz s)∧(bo76 s).size≤1000)∧(crZ (bz s)=true→2≤s.size):=by
  unfold bo76 jal;cases hcr:crZ (bz s)
  ·exact⟨⟨by simp,hc⟩,by simp⟩
  ·have h2:2≤s.size:=by
    simp only[crZ,jaf,jae,jap]at hcr;exact hcr.1
   have e:((s.size:Int)-2).toNat=s.size-2:=by omega
   rw[cond_true,w64 (n:=(s.size:Int)-2) (by omega),e];have eb:bz (s.extract 0 (s.size-2))=(bz s).take (s.size-2):=by rw[jca];simp
   have hbs:(s.extract 0 (s.size-2)).size=s.size-2:=by rw[←jap,eb,List.length_take,jap];omega
   exact⟨⟨by rw[eb];simp,by omega⟩,fun _=>h2⟩
 obtain⟨⟨hB,hb⟩,h2⟩:=key;refine c_t (jaa (by omega)) (c_t ?_ ?_)
 ·cases hcr:crZ (bz s)
  ·rfl
  ·have h2:=h2 hcr;rw[w64 (n:=(s.size:Int)-2) (by omega)];simp;omega
 generalize bo76 s=b at*;have n1:=jiq (bz b) 84;have n2:=jiq (bz b) 73;have n3:=jiq (bz b) 82;rw[jap]at n1 n2 n3;unfold k76;simp only[jaa (show b.size≤9223372036854775807 by omega),Bool.or_true,cond_true,jdf,←hB];have hx:(bif crZ (bz s)then(1:Int)else 0)=b2i (crZ (bz s)):=by cases crZ (bz s) <;>rfl
 have r:=fun q=>b2i_r (q:=q)
 have r0:=r (crZ (bz s));have r1:=r (hasZ (bz b) 83);have r2:=r (hasZ (bz b) 43);have r3:=r (hasZ (bz b) 45);rw[hx,sg_v (x:=b2i (crZ (bz s))) (by omega),sg_v (x:=b2i (crZ (bz s))+b2i (hasZ (bz b) 83)) (by omega),sg_v (by omega),w3 (by omega) (by omega) (by omega) (by omega)]
def G5:Env:=(Env.nil.add 202 (sp2 s40)).add 242 (sp1 s96)
theorem ok_G5:jax Tryz.prog G5:=jaj (jaj jao ok40) ok96
def stIn(dr i:Int):List Int→List Int→Int→Bool→Bool→Bool×Bool
 | c::cs,m::ms,j,a,b=>bif m==100 || (m==99 || c==dr)then stIn dr i cs ms (j+1) (a || decide (j<i)) (b || decide (j>i))else stIn dr i cs ms (j+1) a b
 | _,_,_,a,b=>(a,b)
def stGo(dr:Int)(body ms:List Int):List Int→Int→Bool
 | [],_=>true
 | c::r,i=>(bif !hasZ [36,83,43,45] c || c==dr then true else !((stIn dr i body ms 0 false false).1&& (stIn dr i body ms 0 false false).2)) &&stGo dr body ms r (i+1)
def je6(body ms:List Int):Bool:=stGo (drZ body) body ms body 0
def V106_2:ByteArray×ByteArray×Bool×Int×Int×Bool×Bool×Int→List Value:=fun(s,ms,b,dr,i,a,bh,j)=> [S s,S ms,B b,C8 dr,I i,B a,B bh,I j]
def B106_2:ByteArray×ByteArray×Bool×Int×Int×Bool×Bool×Int→List (Option Blk):=fun _=> []
def S106_2:LSpec (ByteArray×ByteArray×Bool×Int×Int×Bool×Bool×Int) where
 live:=[0,1,4,5,6,7,8,9]
 mid:=[]
 n:=200
 dec vs bs:=match vs,bs with | [.string s,.string ms,.bool b,.int .u8 dr,.int .i64 i,.bool a,.bool bh,.int .i64 j],[]=>some (s,ms,b,dr,i,a,bh,j) | _,_=>none
 pre:=fun(s,ms,b,dr,i,a,bh,j)=>decide (0≤j∧j≤s.size∧s.size=ms.size∧s.size≤1000)
 fin:=fun(s,ms,b,dr,i,a,bh,j) Z=>Z (.exit 2) [S s,S ms,B b,C8 dr,I i,B (stIn dr i ((bz s).drop j.toNat) ((bz ms).drop j.toNat) j a bh).1,B (stIn dr i ((bz s).drop j.toNat) ((bz ms).drop j.toNat) j a bh).2,I s.size] []
theorem r106_2(s:ByteArray)(ms:ByteArray)(b:Bool)(dr:Int)(i:Int)(a:Bool)(bh:Bool)(j:Int)(jk:Tmps)(R:Exit→List Value→List (Option Blk)→Prop):(jbs Tryz.prog G5 noL Tryz.f241.ntmps (ja7 Tryz.f241 2) (tl S106_2.live (V106_2 (s,ms,b,dr,i,a,bh,j)) jk) (ml S106_2.mid (B106_2 (s,ms,b,dr,i,a,bh,j))) S106_2.n fun e t' m' _=>R e (List.map t' S106_2.live) (List.map m' S106_2.mid))=(qc5 (qal ms j&& (qa9 ms j 100 || qal ms j&& (qa9 ms j 99 || qal s j&&true))) (qa9 ms j 100 || (qa9 ms j 99 || qa9 s j dr)) s R j [] [B b,qe7 dr,qbk i,B a,B bh,qbk j] 2 (bif a || true then qca (bh || true) R [] (qg9 s ms [qe7 dr,qbk i,B (a || qfn j i),B (bh || qhk j i),qbw j] (B b))else False) (qes s R [B b,qe7 dr,qbk i,B a,B bh,qbw j] (S ms)) (S s) (S ms)):=by kernel_rfl
theorem l106_2:∀t m n K,S106_2.h t m n K→Ab.Sem Tryz.prog Tryz.f241.ntmps (.loop (ja7 Tryz.f241 2)) t m n K:=by
 refine jbk ok_G5 hmix (by kernel_rfl) (ja6 _) S106_2 V106_2 B106_2 (fun(s,ms,b,dr,i,a,bh,j)=>(s.size-j).toNat) ?_ ?_ ?_
 ·intro vs bs s h;simp only[S106_2]at h;split at h
  all_goals first | (cases h;exact⟨rfl,rfl⟩) | cases h
 ·exact fun _ _ _ h=>h
 ·intro⟨s,ms,b,dr,i,a,bh,j⟩ jk Z hp hf;rw[r106_2];delta qf8 qfq qcr qc5 qes qaw qbw qbk qe7 qca qg9 qhk qfn qe9 qa9 qal;simp only[S106_2]at hp hf;simp only[jae]at hp;apply cond_intro<;>intro h
  ·have h:=jab h;rw[jb7 hp.1 h,jb7 (s:=ms) hp.1 (by omega),stIn]at hf;have h1:decide (0≤j∧j<(ms.size:Int))=true:=jaa (by omega);have h2:decide (0≤j∧j<(s.size:Int))=true:=jaa (by omega);rw[w64 (n:=j+1) (by omega)];refine c_t (by rw[h1,h2];simp) (cond_intro (fun q=> ?_) (fun q=> ?_))
   ·rw[q,cond_true]at hf;exact c_t (by simp) (c_t (by simp) ⟨(s,ms,b,dr,i,_,_,j+1),rfl,rfl,by simp only[S106_2,jae];omega,by simp only;omega,hf⟩)
   ·rw[q,cond_false]at hf;exact⟨(s,ms,b,dr,i,a,bh,j+1),rfl,rfl,by simp only[S106_2,jae];omega,by simp only;omega,hf⟩
  ·have h:=jac h;rw[jcp (s:=s) (by omega)]at hf;obtain rfl:j=s.size:=by omega
   exact hf
theorem lk106:LOK Tryz.prog (oneL 2 S106_2.h) Tryz.f241.ntmps (ja7 Tryz.f241 0):=lok_one (by kernel_rfl) l106_2
def V106_0:ByteArray×ByteArray×Bool×Int×Int→List Value:=fun(s,ms,b,dr,i)=> [S s,S ms,B b,C8 dr,I i]
def B106_0:ByteArray×ByteArray×Bool×Int×Int→List (Option Blk):=fun _=> []
def S106_0:LSpec (ByteArray×ByteArray×Bool×Int×Int) where
 live:=[0,1,4,5,6]
 mid:=[]
 n:=100
 dec vs bs:=match vs,bs with | [.string s,.string ms,.bool b,.int .u8 dr,.int .i64 i],[]=>some (s,ms,b,dr,i) | _,_=>none
 pre:=fun(s,ms,b,dr,i)=>decide (0≤i∧i≤s.size∧s.size=ms.size∧s.size≤1000)
 fin:=fun(s,ms,b,dr,i) Z=>(bif stGo dr (bz s) (bz ms) ((bz s).drop i.toNat) i then Z (.exit 0) [S s,S ms,B b,C8 dr,I s.size] []else(∀i',Z .ret [S s,S ms,B false,C8 dr,I i'] []))
theorem r106_0(s:ByteArray)(ms:ByteArray)(b:Bool)(dr:Int)(i:Int)(jk:Tmps)(R:Exit→List Value→List (Option Blk)→Prop):(jbs Tryz.prog G5 (oneL 2 S106_2.h) Tryz.f241.ntmps (ja7 Tryz.f241 0) (tl S106_0.live (V106_0 (s,ms,b,dr,i)) jk) (ml S106_0.mid (B106_0 (s,ms,b,dr,i))) S106_0.n fun e t' m' _=>R e (List.map t' S106_0.live) (List.map m' S106_0.mid))=(qc5 (qal s i&& (!qdw s i || qal s i&&true)) (!qdw s i || qa9 s i dr) s R i [] [B b,qe7 dr,qbk i] 0 (qes s R [B b,qe7 dr,qbw i] (S ms)) (qhm (S106_2.pre (s,(ms,(b,(dr,(i,(false,(false,(0:Int))))))))) (qdn (stIn dr i (qa5 s) (qa5 ms) 0 false false).fst true ((stIn dr i (qa5 s) (qa5 ms) 0 false false).fst&& (stIn dr i (qa5 s) (qa5 ms) 0 false false).snd) (R .ret (qg9 s ms [qe7 dr,qbk i] (B false)) []) (qes s R [B b,qe7 dr,qbw i] (S ms))) Tmps) (S s) (S ms)):=by kernel_rfl
theorem l106_0:∀t m n K,S106_0.h t m n K→Ab.Sem Tryz.prog Tryz.f241.ntmps (.loop (ja7 Tryz.f241 0)) t m n K:=by
 refine jbk ok_G5 hmix (by kernel_rfl) lk106 S106_0 V106_0 B106_0 (fun(s,ms,b,dr,i)=>(s.size-i).toNat) ?_ ?_ ?_
 ·intro vs bs s h;simp only[S106_0]at h;split at h
  all_goals first | (cases h;exact⟨rfl,rfl⟩) | cases h
 ·exact fun _ _ _ h=>h
 ·intro⟨s,ms,b,dr,i⟩ jk Z hp hf;rw[r106_0];delta qf8 qfq qcr qc5 qhm qdn qes qaw qbw qe7 qg9 qbk qa5 qe9 qa9 qdw qal;simp only[S106_0]at hp hf;simp only[jae]at hp;apply cond_intro<;>intro h
  ·have h:=jab h;rw[jb7 hp.1 h,stGo]at hf;have h1:decide (0≤i∧i<(s.size:Int))=true:=jaa (by omega);have k:bz ⟨#[36,83,43,45]⟩=[36,83,43,45]:=rfl;rw[k];refine c_t (by rw[h1];simp) (cond_intro (fun q=> ?_) (fun q=>c_t ?_ (fun x=>c_t (by simp) ?_)))
   ·rw[q,cond_true,Bool.true_and]at hf;rw[w64 (by omega)];exact⟨(s,ms,b,dr,i+1),rfl,rfl,by simp only[S106_0,jae];omega,by simp only;omega,hf⟩
   ·simp only[S106_2,jae];omega
   ·rw[q,cond_false]at hf;rw[jdm,jdm];apply cond_intro<;>intro w
    ·rw[w]at hf;exact hf i
    ·rw[w,Bool.not_false,Bool.true_and]at hf;rw[w64 (by omega)];exact⟨(s,ms,b,dr,i+1),rfl,rfl,by simp only[S106_0,jae];omega,by simp only;omega,hf⟩
  ·have h:=jac h;rw[jcp (by omega)]at hf;obtain rfl:i=s.size:=by omega
   exact hf
theorem lok106:LOKf Tryz.prog (oneL 0 S106_0.h) Tryz.f241:=jbn (by kernel_rfl) l106_0
def s106(s:ByteArray)(ms:ByteArray):Bool×Value:=(decide (s.size=ms.size∧s.size≤1000),.bool (je6 (bz s) (bz ms)))
theorem fn106:Fn1 Tryz.prog 241 Tryz.f241:= .m Tryz.func241
theorem v106(s:ByteArray)(ms:ByteArray)(R:Value→Prop):ja1 Tryz.prog G5 (oneL 0 S106_0.h) Tryz.f241 [Enc.enc s,Enc.enc ms] (fun _=>none) 0 (fun v _ _=>R v)=(qe1 (S106_0.pre (s,(ms,(false,(drZ (bz s),(0:Int)))))) s (bif stGo (drZ (bz s)) (bz s) (bz ms) (qa5 s) 0 then Tmps→R (B true)else qdz R) False):=by kernel_rfl
theorem ok106:jan Tryz.prog 241 (sp2 s106):=by
 refine jc5 ok_G5 hmix fn106 lok106 jag fun s ms hc=> ?_
 rw[ja2,v106];delta qbl qe1 qgr qdz qa5;have hc:(s.size=ms.size∧s.size≤1000):=jab hc;dsimp only[s106];refine c_t (jaa (by omega)) (c_t (by simp only[S106_0,jae];omega) ?_);rw[jdm];exact cond_intro (fun h _=>by simp only[je6,h]) (fun h _ _=>by simp only[je6,h])
theorem jg0(dr:Int):∀(l:List Int)(b:Bool),(mkGo dr b l).length=l.length
 | [],_=>rfl
 | c::r,b=>by simp only[mkGo,List.length_cons,jg0 dr r]
theorem jeg(l:List Int):(jar l).length=l.length:=by
 unfold jar jal;cases h:crZ l with
 | false=>simp[jg0]
 | true=>
  have:2≤l.length:=by
   simp only[crZ,jaf,jae]at h;exact h.1
  simp[jg0];omega
theorem mk1_rng(dr:Int)(b:Bool)(c:Int):0≤mk1 dr b c∧mk1 dr b c<256:=by
 unfold mk1;cases hasZ [57,89,84,73,82] c<;>cases(hasZ [90,42] c || (dr !=0&& (c==dr&&b))) <;>cases(c==86) <;>cases(c==36) <;>cases hasZ [83,43,45] c<;>decide
theorem mk_isB(dr:Int):∀(l:List Int)(b:Bool),IsB (mkGo dr b l)
 | [],_=>IsB.nil
 | c::r,b=>IsB.cons (mk1_rng dr b c) (mk_isB dr r _)
theorem je9(l:List Int):IsB (jar l):=by
 unfold jar;refine(mk_isB _ _ _).append ?_;split
 ·intro c hc;simp at hc;omega
 ·exact IsB.nil
def numV(s:List Int):Bool:= !je4 s&& (!(jal s).any (hasZ [65,88,67,68]) && (decide ((cntZ (jal s) 86:Int)≤1) && (jcf (jal s) && (jdk (jal s) (jar (jal s)) && (decide (jdf s≤1) &&je6 (jal s) (jar (jal s)))))))
def G6:Env:=((((((((Env.nil.add 202 (sp2 s40)).add 199 (sp2 s75)).add 197 (sp1 s73)).add 238 (sp1 s101)).add 201 (sp1 s69)).add 239 (sp1 s104)).add 240 (sp2 s105)).add 200 (sp1 s76)).add 241 (sp2 s106)
theorem ok_G6:jax Tryz.prog G6:=jaj (jaj (jaj (jaj (jaj (jaj (jaj (jaj (jaj jao ok40) ok75) ok73) ok101) ok69) ok104) ok105) ok76) ok106
def V74_0:ByteArray×Bool×ByteArray×Int→List Value:=fun(s,b,d,i)=> [S s,B b,S d,I i]
def B74_0:ByteArray×Bool×ByteArray×Int→List (Option Blk):=fun _=> []
def S74_0:LSpec (ByteArray×Bool×ByteArray×Int) where
 live:=[0,2,3,4]
 mid:=[]
 n:=80
 dec vs bs:=match vs,bs with | [.string s,.bool b,.string d,.int .i64 i],[]=>some (s,b,d,i) | _,_=>none
 pre:=fun(s,b,d,i)=>decide (0≤i∧i≤d.size∧d.size≤1000)
 fin:=fun(s,b,d,i) Z=>(bif ((bz d).drop i.toNat).any (hasZ [65,88,67,68])then(∀i',Z .ret [S s,B false,S d,I i'] [])else Z (.exit 0) [S s,B b,S d,I d.size] [])
def qgw:ByteArray:=⟨#[65,88,67,68]⟩
theorem r74_0(s:ByteArray)(b:Bool)(d:ByteArray)(i:Int)(jk:Tmps)(R:Exit→List Value→List (Option Blk)→Prop):(jbs Tryz.prog G6 noL Tryz.f198.ntmps (ja7 Tryz.f198 0) (tl S74_0.live (V74_0 (s,b,d,i)) jk) (ml S74_0.mid (B74_0 (s,b,d,i))) S74_0.n fun e t' m' _=>R e (List.map t' S74_0.live) (List.map m' S74_0.mid))=(qc5 (qal d i) (hasZ (bz qgw) (qe9 d i)) d R i [] [S d,qbk i] 0 (R .ret [S s,B false,S d,qbk i] []) (qes s R [S d,qbw i] (B b)) (S s) (B b)):=by kernel_rfl
theorem l74_0:LOKf Tryz.prog (oneL 0 S74_0.h) Tryz.f198:=by
 refine jbn (h:=S74_0.h) (by kernel_rfl) (jbk ok_G6 hmix (by kernel_rfl) (ja6 _) S74_0 V74_0 B74_0 (fun(s,b,d,i)=>(d.size-i).toNat) ?_ ?_ ?_)
 ·intro vs bs s h;simp only[S74_0]at h;split at h
  all_goals first | (cases h;exact⟨rfl,rfl⟩) | cases h
 ·exact fun _ _ _ h=>h
 ·intro⟨s,b,d,i⟩ jk Z hp hf;rw[r74_0];delta qf8 qfq qcr qc5 qes qaw qbw qbk qe9 qgw qal;simp only[S74_0]at hp hf;simp only[jae]at hp;apply cond_intro<;>intro h
  ·have h:=jab h;rw[jb7 hp.1 h,List.any_cons]at hf;have k:bz ⟨#[65,88,67,68]⟩=[65,88,67,68]:=rfl;rw[k];refine c_t (jaa (by omega)) (cond_intro (fun q=> ?_) (fun q=> ?_))
   ·rw[q]at hf;exact hf i
   ·rw[q,Bool.false_or]at hf;rw[w64 (by omega)];exact⟨(s,b,d,i+1),rfl,rfl,by simp only[S74_0,jae];omega,by simp only;omega,hf⟩
  ·have h:=jac h;rw[jcp (by omega)]at hf;obtain rfl:i=d.size:=by omega
   exact hf
def s74(s:ByteArray):Bool×Value:=(decide (s.size≤1000),.bool (numV (bz s)))
theorem fn74:Fn1 Tryz.prog 198 Tryz.f198:= .m Tryz.func198
def qbz(a:ByteArray):Bool:=decide (a.size≤1000)
def qcd(a b:ByteArray)(c:List Int)(d:Value→Prop):Prop:=bif Px.S74_0.pre (a,(false,(b,(0:Int))))then bif c.any (hasZ [65,88,67,68])then qdz d else qhp (qbz b) (qgf (qbl b&&qg7 (decide ((cntZ (bz b) 86:Int)≤1)) (qbz b&& (bif jcf (bz b)then decide (b.size=(sz (jar (bz b))).size∧b.size≤1000) && (bif jdk (bz b) (bz (sz (jar (bz b))))then qbz a&& (bif decide (jdf (bz a)≤1)then decide (b.size=(sz (jar (bz b))).size∧b.size≤1000) &&true else true)else true)else true)) true) (B (decide ((cntZ (bz b) 86:Int)≤1) && (jcf (bz b) && (jdk (bz b) (bz (sz (jar (bz b)))) && (decide (jdf (bz a)≤1) &&je6 (bz b) (bz (sz (jar (bz b))))))))) d) False else False
theorem v74(s:ByteArray)(R:Value→Prop):ja1 Tryz.prog G6 (oneL 0 S74_0.h) Tryz.f198 [Enc.enc s] (fun _=>none) 0 (fun v _ _=>R v)=(qe1 (je4 (bz s)) s (qgr R) (bif qbl s then bif crZ (bz s)then bif qgm s then qcd s (qae s) (qc8 (qae s) 0) R else False else qcd s s (qa5 s) R else False)):=by kernel_rfl
theorem ok74:jan Tryz.prog 198 (sp1 s74):=by
 refine jb9 ok_G6 hmix fn74 l74_0 jag fun s hc=> ?_
 rw[ja2,v74];delta qbl qe1 qhp qgf qg7 qbz qgr qdz qcd qa5 qc8 qe5 qfq qae qb2 qc0 qgm;have hc:(s.size≤1000):=jab hc;dsimp only[s74];have hm:∀b:ByteArray,bz (sz (jar (bz b)))=jar (bz b)∧(sz (jar (bz b))).size=b.size:=fun b=>⟨jc6 (je9 _),by rw[jcm,jeg,jap]⟩
 have d0:decide (s.size≤9223372036854775807)=true:=jaa (by omega);have e4:decide (s.size≤1000)=true:=jaa hc;rw[d0];refine c_t rfl (cond_intro (fun hch=>by simp only[numV,hch,Bool.not_true,Bool.false_and]) (fun hch=>c_t rfl (cond_intro (fun hcr=> ?_) (fun hcr=> ?_))))
 ·have h2:2≤s.size:=by
   simp only[crZ,jaf,jae,jap]at hcr;exact hcr.1
  have e:((s.size:Int)-2).toNat=s.size-2:=by omega
  rw[w64 (n:=(s.size:Int)-2) (by omega),e];have eb:bz (s.extract 0 (s.size-2))=(bz s).take (s.size-2):=by rw[jca];simp
  have hbs:(s.extract 0 (s.size-2)).size=s.size-2:=by rw[←jap,eb,List.length_take,jap];omega
  have hB:jal (bz s)=bz (s.extract 0 (s.size-2)):=by simp[jal,hcr,eb]
  clear eb;generalize s.extract 0 (s.size-2)=b at*;have e1:decide (b.size≤1000)=true:=jaa (by omega);have e2:decide (b.size≤9223372036854775807)=true:=jaa (by omega);refine c_t (jaa (by omega)) (c_t (by simp only[S74_0,jae];omega) ?_);rw[jdm];refine cond_intro (fun ha _ _=> ?_) (fun ha _=> ?_)
  ·simp only[numV,hB,ha,Bool.not_true,Bool.false_and,Bool.and_false]
  ·simp only[(hm b).1,(hm b).2,e1,e2,e4,eq_self,true_and,Bool.true_and,cond_true,Bool.and_true];refine c_t (by simp) ?_;simp only[numV,hch,hB,ha,Bool.not_false,Bool.true_and]
 ·have hB:jal (bz s)=bz s:=by simp[jal,hcr]
  refine c_t (by simp only[S74_0,jae];omega) ?_;rw[jdm];refine cond_intro (fun ha _ _=> ?_) (fun ha _=> ?_)
  ·simp only[numV,hB,ha,Bool.not_true,Bool.false_and,Bool.and_false]
  ·simp only[(hm s).1,(hm s).2,e4,eq_self,true_and,Bool.true_and,cond_true,Bool.and_true];refine c_t (by simp) ?_;simp only[numV,hch,hB,ha,Bool.not_false,Bool.true_and]
def G7:Env:=((((((Env.nil.add 202 (sp2 s40)).add 199 (sp2 s75)).add 197 (sp1 s73)).add 201 (sp1 s69)).add 196 (sp1 s45)).add 200 (sp1 s76)).add 198 (sp1 s74)
theorem ok_G7:jax Tryz.prog G7:=jaj (jaj (jaj (jaj (jaj (jaj (jaj jao ok40) ok75) ok73) ok69) ok45) ok76) ok74
def vOK(l:List Int):Bool:=exOK l&& (je4 (exZ l) || numV (exZ l))
def pN(l:List Int):Bool:=exOK l&&numV (exZ l)
def pS(l:List Int):List Int:=if vOK l=true then exZ l else []
def pW(l:List Int):Int:=if vOK l=true then(if je4 (exZ l)=true then((exZ l).length:Int)else(exZ l).length-cntZ (exZ l) 86)else 0
def isP(m:Int):Bool:=m==100 || m==99
def pdGo:List Int→Int
 | []=>0
 | m::r=>(bif isP m then 1 else 0)+pdGo r
def pqGo(s:List Int):List Int→Int→Int
 | [],_=>0
 | m::r,i=>(bif isP m&&hasZ (s.take i.toNat) 86 then 1 else 0)+pqGo s r (i+1)
def pD(l:List Int):Int:=if pN l=true then pdGo (jar (exZ l))else 0
def pQ(l:List Int):Int:=if pN l=true then pqGo (exZ l) (jar (exZ l)) 0 else 0
def pG(l:List Int):Bool:=pN l&&jdf (exZ l)==1
def pE(l:List Int):Int:=if vOK l=true then 0 else 30
def picV(l:List Int):Value:= .agg ⟨[.string (sz (pS l)),.bool (pN l),.int .i64 (pW l),.int .i64 (pD l),.int .i64 (pQ l),.bool (pG l)]⟩
def V30_0:Int×ByteArray×ByteArray×ByteArray×Bool×Int×Int×Int×Bool×ByteArray×Int×Int×Int×Bool×Bool×Int→List Value:=fun(e,s,ms,z,zb,z1,z2,z3,zg,p,w,d,q,n,g,i)=> [.pointer (some ⟨0,0,some 0⟩),I e,S s,.pointer (some ⟨26,0,some 0⟩),S ms,I i]
def B30_0:Int×ByteArray×ByteArray×ByteArray×Bool×Int×Int×Int×Bool×ByteArray×Int×Int×Int×Bool×Bool×Int→List (Option Blk):=fun(e,s,ms,z,zb,z1,z2,z3,zg,p,w,d,q,n,g,i)=> [some ⟨[S z,B zb,I z1,I z2,I z3,B zg],131,true⟩,some ⟨[S p,B n,I w,I d,I q,B g],131,true⟩]
def S30_0:LSpec (Int×ByteArray×ByteArray×ByteArray×Bool×Int×Int×Int×Bool×ByteArray×Int×Int×Int×Bool×Bool×Int) where
 live:=[2,3,4,6,7,8]
 mid:=[0,26]
 n:=120
 dec vs bs:=match vs,bs with | [.pointer (some ⟨0,0,some 0⟩),.int .i64 e,.string s,.pointer (some ⟨26,0,some 0⟩),.string ms,.int .i64 i],[some ⟨[.string z,.bool zb,.int .i64 z1,.int .i64 z2,.int .i64 z3,.bool zg],131,true⟩,some ⟨[.string p,.bool n,.int .i64 w,.int .i64 d,.int .i64 q,.bool g],131,true⟩]=>some (e,s,ms,z,zb,z1,z2,z3,zg,p,w,d,q,n,g,i) | _,_=>none
 pre:=fun(e,s,ms,z,zb,z1,z2,z3,zg,p,w,d,q,n,g,i)=>decide (0≤i∧i≤ms.size∧ms.size=s.size∧s.size≤1000∧0≤d∧d≤i∧0≤q∧q≤i)
 fin:=fun(e,s,ms,z,zb,z1,z2,z3,zg,p,w,d,q,n,g,i) Z=>Z (.exit 0) [.pointer (some ⟨0,0,some 0⟩),I e,S s,.pointer (some ⟨26,0,some 0⟩),S ms,I ms.size] [some ⟨[S z,B zb,I z1,I z2,I z3,B zg],131,true⟩,some ⟨[S p,B n,I w,I (d+pdGo ((bz ms).drop i.toNat)),I (q+pqGo (bz s) ((bz ms).drop i.toNat) i),B g],131,true⟩]
def qab(a:Nat):Value:= .pointer (qbp a 0)
def qaj(b f:Bool)(a:ByteArray)(c d e:Int):Option Blk:=some (.mk [S a,B b,qbk c,qbk d,qbk e,B f] 131 true)
theorem r30_0(e:Int)(s:ByteArray)(ms:ByteArray)(z:ByteArray)(zb:Bool)(z1:Int)(z2:Int)(z3:Int)(zg:Bool)(p:ByteArray)(w:Int)(d:Int)(q:Int)(n:Bool)(g:Bool)(i:Int)(jk:Tmps)(R:Exit→List Value→List (Option Blk)→Prop):(jbs Tryz.prog G7 noL Tryz.f143.ntmps (ja7 Tryz.f143 0) (tl S30_0.live (V30_0 (e,s,ms,z,zb,z1,z2,z3,zg,p,w,d,q,n,g,i)) jk) (ml S30_0.mid (B30_0 (e,s,ms,z,zb,z1,z2,z3,zg,p,w,d,q,n,g,i))) S30_0.n fun e t' m' _=>R e (List.map t' S30_0.live) (List.map m' S30_0.mid))=(qc5 (qal ms i&& (qa9 ms i 100 || qal ms i&&true)) (qa9 ms i 100 || qa9 ms i 99) ms R i [qaj zb zg z z1 z2 z3,qaj n g p w d q] [S s,qab 26,S ms,qbk i] 0 (bif qb2 0 0 i i (qfq s)then qe1 (hasZ (bz (s.extract 0 i.toNat)) 86) (s.extract 0 i.toNat) (R .normal [qab 0,qbk e,S s,qab 26,S ms,qbw i] [qaj zb zg z z1 z2 z3,qaj n g p w (qaw d) (qaw q)]) (R .normal [qab 0,qbk e,S s,qab 26,S ms,qbw i] [qaj zb zg z z1 z2 z3,qaj n g p w (qaw d) q])else False) (R .normal [qab 0,qbk e,S s,qab 26,S ms,qbw i] [qaj zb zg z z1 z2 z3,qaj n g p w d q]) (qab 0) (qbk e)):=by kernel_rfl
theorem l30_0:LOKf Tryz.prog (oneL 0 S30_0.h) Tryz.f143:=by
 refine jbn (h:=S30_0.h) (by kernel_rfl) (jbk ok_G7 hmix (by kernel_rfl) (ja6 _) S30_0 V30_0 B30_0 (fun(e,s,ms,z,zb,z1,z2,z3,zg,p,w,d,q,n,g,i)=>(ms.size-i).toNat) ?_ ?_ ?_)
 ·intro vs bs s h;simp only[S30_0]at h;split at h
  all_goals first | (cases h;exact⟨rfl,rfl⟩) | cases h
 ·exact fun _ _ _ h=>h
 ·intro⟨e,s,ms,z,zb,z1,z2,z3,zg,p,w,d,q,n,g,i⟩ jk Z hp hf;rw[r30_0];delta qf8 qfq qcr qc5 qbk qbp qab qaj qaw qbw qbl qe1 qb2 qe9 qa9 qal;simp only[S30_0]at hp hf;simp only[jae]at hp;apply cond_intro<;>intro h
  ·have h:=jab h;rw[jb7 (s:=ms) hp.1 h,pdGo,pqGo]at hf;have h1:decide (0≤i∧i<(ms.size:Int))=true:=jaa (by omega);have ex:bz (s.extract 0 i.toNat)=(bz s).take i.toNat:=by rw[jca];simp
   have exs:(s.extract 0 i.toNat).size≤1000:=by rw[←jap,ex,List.length_take,jap];omega
   refine c_t (by rw[h1];simp) (cond_intro (fun a=>c_t (jaa (by omega)) (c_t (jaa (by omega)) ?_)) (fun a=> ?_))
   ·have a':isP (jak ms i.toNat)=true:=a;rw[a',cond_true,Bool.true_and]at hf;rw[ex,w64 (n:=d+1) (by omega),w64 (n:=i+1) (by omega)];apply cond_intro<;>intro b
    ·rw[b,cond_true,←Int.add_assoc,←Int.add_assoc]at hf;rw[w64 (n:=q+1) (by omega)];exact⟨(e,s,ms,z,zb,z1,z2,z3,zg,p,w,d+1,q+1,n,g,i+1),rfl,rfl,by simp only[S30_0,jae];omega,by simp only;omega,hf⟩
    ·rw[b,cond_false,Int.zero_add,←Int.add_assoc]at hf;exact⟨(e,s,ms,z,zb,z1,z2,z3,zg,p,w,d+1,q,n,g,i+1),rfl,rfl,by simp only[S30_0,jae];omega,by simp only;omega,hf⟩
   ·have a':isP (jak ms i.toNat)=false:=a;rw[a',cond_false,Bool.false_and,cond_false,Int.zero_add,Int.zero_add]at hf;rw[w64 (by omega)];exact⟨(e,s,ms,z,zb,z1,z2,z3,zg,p,w,d,q,n,g,i+1),rfl,rfl,by simp only[S30_0,jae];omega,by simp only;omega,hf⟩
  ·have h:=jac h;rw[jcp (s:=ms) (by omega),pdGo,pqGo,Int.add_zero,Int.add_zero]at hf;obtain rfl:i=ms.size:=by omega
   exact hf
theorem up_rng{c:Int}(h:0≤c∧c<256):0≤upZ c∧upZ c<256:=by unfold upZ;split<;>omega
theorem jju:∀(l:List Int)(st n:Int)(out:List Int),IsB l→IsB out→out.length≤32→IsB (xpGo l st n out).1∧(xpGo l st n out).1.length≤32
 | [],st,n,out,_,h2,h3=>⟨h2,h3⟩
 | c::r,st,n,out,h1,h2,h3=>by
  have hc:=h1 c (List.mem_cons_self ..);have hr:IsB r:=fun x hx=>h1 x (List.mem_cons_of_mem _ hx)
  have nil:IsB (([],false):List Int×Bool).1∧(([],false):List Int×Bool).1.length≤32:=⟨IsB.nil,Nat.zero_le _⟩
  rw[xpGo];by_cases e1:st=1
  ·rw[if_pos e1];split
   ·split
    ·exact jju r _ _ out hr h2 h3
    ·exact nil
   ·split
    ·exact jju r _ _ out hr h2 h3
    ·exact nil
  ·rw[if_neg e1];by_cases e2:c=41∨st=2∧c=40
   ·rw[if_pos e2];exact nil
   ·rw[if_neg e2];by_cases e3:c=40
    ·rw[if_pos e3];exact jju r _ _ out hr h2 h3
    ·rw[if_neg e3];by_cases hq:hasZ kL (upZ c)=true∧(out.length:Int)+(if st=2 then n else 1)≤32
     ·rw[if_pos hq];refine jju r _ _ _ hr (h2.append fun x hx=> ?_) ?_
      ·rw[List.eq_of_mem_replicate hx];exact up_rng hc
      ·rw[List.length_append];simp only[rep1,List.length_replicate];have:=hq.2;omega
     ·rw[if_neg hq];exact nil
theorem jlj(s:ByteArray):IsB (exZ (bz s))∧(exZ (bz s)).length≤32:=by
 unfold exZ;split
 ·exact jju _ _ _ _ (jd0 s) IsB.nil (Nat.zero_le _)
 ·exact⟨IsB.nil,Nat.zero_le _⟩
theorem jii:sz []=⟨#[]⟩:=rfl
def s30(s:ByteArray):Bool×Value:=(decide (s.size≤9223372036854775807),.tuple ⟨[picV (bz s),.int .i64 (pE (bz s))]⟩)
theorem fn30:Fn1 Tryz.prog 143 Tryz.f143:= .m Tryz.func143
def qdy(a:ByteArray):ByteArray:=sz (exZ (bz a))
def qg2(a:ByteArray):Int:=(a.size:Int)
def qfz:List Value:=[B false]
def qgk:Value:= .agg ⟨qfr::B false::qbk 0::qbk 0::qbk 0::qfz⟩
theorem v30(s:ByteArray)(R:Value→Prop):ja1 Tryz.prog G7 (oneL 0 S30_0.h) Tryz.f143 [Enc.enc s] (fun _=>none) 0 (fun v _ _=>R v)=(qe1 (eE (bz s) !=0) s (qau [] qgk (I (eE (bz s))) R) (bif qbl (qdy s)then bif je4 (bz (qdy s))then qau [] (.agg ⟨S (qdy s)::B false::I (qg2 (qdy s))::qbk 0::qbk 0::qfz⟩) (qbk 0) R else bif qbz (qdy s)then bif !Px.numV (bz (qdy s))then qau [] qgk (qbk 30) R else bif qbl (qdy s)then bif qbz (qdy s)then bif qbz (qdy s)then qhm (S30_0.pre ((0:Int),(qdy s,(sz (jar (bz (qdy s))),(qgh,(false,((0:Int),((0:Int),((0:Int),(false,(qdy s,(qc0 (qg2 (qdy s)) (cntZ (bz (qdy s)) 86:Int),((0:Int),((0:Int),(true,(jdf (bz (qdy s))==1,(0:Int))))))))))))))))) (qau [] (.agg ⟨[S (qdy s),B true,I (qc0 (qg2 (qdy s)) (cntZ (bz (qdy s)) 86:Int)),I (0+pdGo (qc8 (sz (jar (bz (qdy s)))) 0)),I (0+pqGo (bz (qdy s)) (qc8 (sz (jar (bz (qdy s)))) 0) 0),B (jdf (bz (qdy s))==1)]⟩) (qbk 0) R) Tmps else False else False else False else False else False)):=by kernel_rfl
theorem ok30:jan Tryz.prog 143 (sp1 s30):=by
 refine jb9 ok_G7 hmix fn30 l30_0 jag fun s hc=> ?_
 rw[ja2,v30];delta qbl qe1 qhm qgy qau qbk qdy qc8 qc0 qg2 qgh qbz qfz qfr qgk;have hc:(s.size≤9223372036854775807):=jab hc
 try dsimp only[s30]
 obtain⟨hb,hl⟩:=jlj s;have hmB:=je9 (exZ (bz s));have hml:=jeg (exZ (bz s));have hcn:=jiq (exZ (bz s)) 86;rw[jc6 hb,jcm];refine c_t (jaa hc) (cond_intro (fun he=> ?_) (fun he=> ?_))
 ·have ho:exOK (bz s)=false:=by
   cases h:exOK (bz s)with
   | false=>rfl
   | true=>rw[eE,h]at he;cases he
  simp[picV,pS,pN,pW,pD,pQ,pG,pE,eE,vOK,ho,jii]
 ·have ho:exOK (bz s)=true:=by
   cases h:exOK (bz s)with
   | true=>rfl
   | false=>rw[eE,h]at he;cases he
  refine c_t (jaa (by omega)) (cond_intro (fun hch=> ?_) (fun hch=>c_t (jaa (by omega)) (cond_intro (fun hn=> ?_) (fun hn=>c_t (jaa (by omega)) (c_t (jaa (by omega)) (c_t (jaa (by omega)) (c_t ?_ (fun x=> ?_))))))))
  ·simp[picV,pS,pN,pW,pD,pQ,pG,pE,vOK,ho,hch,numV]
  ·have hn:numV (exZ (bz s))=false:=by simpa using hn
   simp[picV,pS,pN,pW,pD,pQ,pG,pE,vOK,ho,hch,hn,jii]
  ·have e1:(sz (jar (exZ (bz s)))).size=(exZ (bz s)).length:=by rw[jcm,hml]
   have e2:(sz (exZ (bz s))).size=(exZ (bz s)).length:=jcm _;simp only[S30_0,jae,e1];omega
  ·have hn:numV (exZ (bz s))=true:=by simpa using hn
   rw[jc6 hmB,jdm,w64 (by omega)];simp[picV,pS,pN,pW,pD,pQ,pG,pE,vOK,ho,hch,hn]
structure Pic where
 s:ByteArray
 n:Bool
 w:Int
 d:Int
 q:Int
 g:Bool
instance:Enc Pic where
 enc p:= .agg ⟨[.string p.s,.bool p.n,.int .i64 p.w,.int .i64 p.d,.int .i64 p.q,.bool p.g]⟩
 dec | .agg ⟨[.string a,.bool b,.int .i64 c,.int .i64 d,.int .i64 e,.bool f]⟩=>some ⟨a,b,c,d,e,f⟩ | _=>none
 dec_some:=by
  intro v a h;split at h
  ·cases h;rfl
  ·cases h
 plain_enc _:=rfl
def G8:Env:=((Env.nil.add 202 (sp2 s40)).add 262 (sp2 s85)).add 143 (sp1 s30)
theorem ok_G8:jax Tryz.prog G8:=jaj (jaj (jaj jao ok40) ok85) ok30
def tyK(l:List Int):Int:=if vOK l=true then(if pN l=true then 1 else 3)else 0
def tyP(l:List Int):Int:=if vOK l=true then(if pN l=true then pD l else pW l)else 0
def tyV(l:List Int):Value:= .agg ⟨[.int .i64 (tyK l),.int .i64 (tyP l),.int .i64 (pQ l),.bool false,.string ⟨#[]⟩]⟩
def cuM(n q sc:Int):Int:=if q≥sc then(n.natAbs:Int)/tenZ (q-sc).toNat else n.natAbs*tenZ (sc-q).toNat
def cuV(n q sc d:Int):Int:=cuM n q sc%tenZ d.toNat
def cuN(n q sc d:Int)(g:Bool):Int:=if n<0∧g=true then 0-cuV n q sc d else cuV n q sc d
def cuF(n q sc d:Int)(g:Bool):Bool:=decide (cuM n q sc<tenZ d.toNat) && (decide (n≥0) || (g || cuV n q sc d==0))
def ssZ(c dr:Int)(m:Bool):Int:=bif dr !=0&&c==dr then 32 else bif hasZ [67,82,68,66] c then(bif m then c else 32)else sgZ c m
theorem pE_ne(l:List Int):(pE l !=0)= !vOK l:=by
 unfold pE;cases vOK l<;>rfl
theorem jdc{l:List Int}(h:pN l=true):vOK l=true:=by
 simp only[pN,jaf]at h;simp[vOK,h.1,h.2]
theorem pN_or(l:List Int):(!vOK l || !pN l)= !pN l:=by
 cases h:pN l with
 | false=>simp
 | true=>simp[jdc h]
theorem jiw{n:Nat}(h:n≤9):tenZ n≤1000000000:=by
 match n,h with
 | 0,_ | 1,_ | 2,_ | 3,_ | 4,_ | 5,_ | 6,_ | 7,_ | 8,_ | 9,_=>decide
theorem tenZ_add(a b:Nat):tenZ (a+b)=tenZ a*tenZ b:=Int.pow_add ..
theorem jik:∀(ms:List Int)(fm bh pt:Bool)(dg:Int),(ldGo ms fm bh pt dg).1=true→(ldGo ms fm bh pt dg).2.2.2=dg+pdGo ms
 | [],fm,bh,pt,dg,_=>by simp[ldGo,pdGo]
 | m::r,fm,bh,pt,dg,h=>by
  rw[ldGo]at h ⊢;rw[pdGo];cases h1:(m==118)with
  | true=>
   rw[h1,cond_true]at h;have hm:=eq_of_beq h1;subst hm;simp only[cond_true,isP];rw[jik r _ _ _ _ h];simp
  | false=>
   rw[h1,cond_false]at h;cases h2:(m==100)with
   | true=>
    rw[h2,cond_true]at h;simp only[cond_true,cond_false,isP,h2,Bool.true_or];rw[jik r _ _ _ _ h];omega
   | false=>
    rw[h2,cond_false]at h;cases h3:(m==99)with
    | true=>
     rw[h3,cond_true]at h;cases fm with
     | true=>cases h
     | false=>
      rw[cond_false]at h;simp only[cond_true,cond_false,isP,h2,h3,Bool.false_or];rw[jik r _ _ _ _ h];omega
    | false=>
     rw[h3,cond_false]at h;simp only[cond_false,isP,h2,h3,Bool.false_or];rw[jik r _ _ _ _ h];omega
theorem jht:∀a b:List Int,pdGo (a++b)=pdGo a+pdGo b
 | [],b=>by simp[pdGo]
 | m::r,b=>by simp only[List.cons_append,pdGo,jht r b];omega
theorem jg7:∀a:List Int,0≤pdGo a
 | []=>by simp[pdGo]
 | m::r=>by have:=jg7 r;simp only[pdGo];cases isP m<;>simp<;>omega
theorem pq_rng(s:List Int):∀(a:List Int)(i:Int),0≤pqGo s a i∧pqGo s a i≤pdGo a
 | [],i=>by simp[pqGo,pdGo]
 | m::r,i=>by
  have:=pq_rng s r (i+1);simp only[pqGo,pdGo];cases isP m<;>cases hasZ (s.take i.toNat) 86<;>simp<;>omega
theorem body_ncr{s:List Int}(h:(jal s).any (hasZ [65,88,67,68])=false):crZ (jal s)=false:=by
 cases hc:crZ (jal s)with
 | false=>rfl
 | true=>
  exfalso;simp only[crZ,jaf,Bool.or_eq_true,jae]at hc;have:∀c∈jal s,hasZ [65,88,67,68] c=false:=by simpa using h
  rcases hc.2 with h1 | h1
  ·have hm:(67:Int)∈(jal s).drop ((jal s).length-2):=by rw[h1];simp
   exact absurd (this _ (List.mem_of_mem_drop hm)) (by decide)
  ·have hm:(68:Int)∈(jal s).drop ((jal s).length-2):=by rw[h1];simp
   exact absurd (this _ (List.mem_of_mem_drop hm)) (by decide)
theorem jgq{s:List Int}(h:(jal s).any (hasZ [65,88,67,68])=false):jar (jal s)=mkGo (drZ (jal s)) false (jal s):=by
 have hc:=body_ncr h;have gen:∀l:List Int,crZ l=false→jal l=l:=fun l h=>by simp[jal,h]
 have hb:jal (jal s)=jal s:=gen _ hc;unfold jar;rw[hb,hc];simp
structure NumP (s:List Int):Prop where
 nch:je4 s=false
 plain:(jal s).any (hasZ [65,88,67,68])=false
 one:(cntZ (jal s) 86:Int)≤1
 dr:jcf (jal s)=true
 ld:jdk (jal s) (mkGo (drZ (jal s)) false (jal s))=true
 sg:jdf s≤1
 st:je6 (jal s) (mkGo (drZ (jal s)) false (jal s))=true
theorem numV_iff{s:List Int}:numV s=true↔NumP s:=by
 constructor
 ·intro h;simp only[numV,jaf,Bool.not_eq_true',jae]at h;obtain⟨h1,h2,h3,h4,h5,h6,h7⟩:=h;rw[jgq h2]at h5 h7;exact⟨h1,h2,h3,h4,h5,h6,h7⟩
 ·rintro ⟨h1,h2,h3,h4,h5,h6,h7⟩;rw[←jgq h2]at h5 h7;simp only[numV,jaf,Bool.not_eq_true',jae];exact⟨h1,h2,h3,h4,h5,h6,h7⟩
theorem num_digits{s:List Int}(h:NumP s):1≤pdGo (jar s)∧pdGo (jar s)≤9:=by
 have hl:=h.ld
 have e:pdGo (jar s)=pdGo (mkGo (drZ (jal s)) false (jal s)):=by
  unfold jar;rw[jht];split
  ·have:pdGo [115,115]=0:=by decide
   omega
  ·simp[pdGo]
 rw[e];unfold jdk at hl;cases h1:(hasZ (jal s) 90&&hasZ (jal s) 42)with
 | true=>rw[h1]at hl;cases hl
 | false=>
  rw[h1,cond_false]at hl;cases h2:((hasZ (jal s) 90 || hasZ (jal s) 42) &&drZ (jal s) !=0)with
  | true=>rw[h2]at hl;cases hl
  | false=>
   rw[h2,cond_false]at hl;simp only[jaf,jae]at hl;obtain⟨g1,g2,g3,_⟩:=hl;have:=jik _ _ _ _ _ g1;omega
theorem jgz{l:List Int}(h:pN l=true):NumP (exZ l):=by
 simp only[pN,jaf]at h;exact numV_iff.1 h.2
theorem jd4{l:List Int}(h:pN l=true):1≤pD l∧pD l≤9∧0≤pQ l∧pQ l≤pD l:=by
 have h1:=num_digits (jgz h);have h2:=pq_rng (exZ l) (jar (exZ l)) 0;simp only[pD,pQ,h,if_true];omega
theorem jed(s:ByteArray):IsB (pS (bz s))∧(pS (bz s)).length≤32:=by
 unfold pS;split
 ·exact jlj s
 ·exact⟨IsB.nil,Nat.zero_le _⟩
def s48(s:ByteArray):Bool×Value:=(decide (s.size≤9223372036854775807),.int .i64 (pE (bz s)))
theorem fn48:Fn1 Tryz.prog 69 Tryz.f69:= .m Tryz.func69
theorem v48(s:ByteArray)(R:Value→Prop):ja1 Tryz.prog G8 noL Tryz.f69 [Enc.enc s] (fun _=>none) 0 (fun v _ _=>R v)=(bif decide (s.size≤9223372036854775807)then R (I (pE (bz s)))else False):=by kernel_rfl
theorem ok48:jan Tryz.prog 69 (sp1 s48):=by
 refine jb9 ok_G8 hmix fn48 jai jag fun s hc=> ?_
 rw[ja2,v48];have hc:(s.size≤9223372036854775807):=jab hc
 try dsimp only[s48]
 exact c_t (jaa hc) rfl
def s98(c:U8)(dr:U8)(m:Bool):Bool×Value:=(true,.int .u8 (ssZ c.n dr.n m))
theorem fn98:Fn1 Tryz.prog 261 Tryz.f261:= .m Tryz.func261
theorem v98(c:U8)(dr:U8)(m:Bool)(R:Value→Prop):ja1 Tryz.prog G8 noL Tryz.f261 [Enc.enc c,Enc.enc dr,Enc.enc m] (fun _=>none) 0 (fun v _ _=>R v)=(qdn (U8.n dr !=0) true (U8.n dr !=0&&U8.n c==U8.n dr) (R (qe7 32)) (bif hasZ (bz ⟨#[67,82,68,66]⟩) (U8.n c)then bif m then R (.int .u8 (U8.n c))else R (qe7 32)else R (.int .u8 (sgZ (U8.n c) m)))):=by kernel_rfl
theorem ok98:jan Tryz.prog 261 (sp3 s98):=by
 refine jg6 ok_G8 hmix fn98 jai jag fun c dr m hc=> ?_
 rw[ja2,v98];delta qdn qe7
 try dsimp only[s98]
 refine c_t (by simp) (cond_intro (fun h=> ?_) (fun h=>cond_intro (fun h2=>cond_intro (fun h3=> ?_) (fun h3=> ?_)) (fun h2=> ?_)))
 ·simp only[ssZ,h,cond_true]
 ·have h2':hasZ [67,82,68,66] c.n=true:=h2;simp only[ssZ,h,h2',h3,cond_true,cond_false]
 ·have h2':hasZ [67,82,68,66] c.n=true:=h2;simp only[ssZ,h,h2',h3,cond_true,cond_false]
 ·have h2':hasZ [67,82,68,66] c.n=false:=h2;simp only[ssZ,h,h2',cond_false]
def G9:Env:=Env.nil.add 270 (sp1 s77)
theorem ok_G9:jax Tryz.prog G9:=jaj jao ok77
def digZ:Int→Nat→List Int
 | _,0=> []
 | v,n+1=>digZ (v/10) n++ [48+v%10]
theorem isBytes_iff{l:List Value}:jcc l=true↔ ∀v∈l,∃n,v= .int .u8 n:=by
 induction l with
 | nil=>simp[jcc]
 | cons v r ih=>
  constructor
  ·intro h;unfold jcc at h;split at h
   ·rename_i heq;cases heq
   ·rename_i n r' heq;cases heq;intro u hu;rcases List.mem_cons.1 hu with rfl | hu
    ·exact⟨_,rfl⟩
    ·exact ih.1 h u hu
   ·cases h
  ·intro h;obtain⟨n,rfl⟩:=h v (List.mem_cons_self ..);exact ih.2 fun u hu=>h u (List.mem_cons_of_mem _ hu)
theorem RowP.set{c:List Value}{n cap:Nat}(h:RowP c n cap)(x:Int){i:Nat}(hi:i<n):
  RowP (setL c (0+i*1) [.int .u8 x]) n cap∧zc (setL c (0+i*1) [.int .u8 x]) n=(zc c n).set i x∧Nat.ble (0+i*1+1) c.length=true:=by
 have e:setL c (0+i*1) [.int .u8 x]=c.set i (.int .u8 x):=by simp[setL]
 have h1:=h.len;have h2:=h.le;rw[e];refine⟨⟨?_,?_,by simp[h1],h2,h.cap⟩,?_,Nat.ble_eq_true_of_le (by omega)⟩
 ·rw[List.take_set];refine isBytes_iff.2 fun v hv=> ?_
  rcases List.mem_or_eq_of_mem_set hv with hv | rfl
  ·exact isBytes_iff.1 h.bytes v hv
  ·exact⟨_,rfl⟩
 ·refine ja8.2 fun v hv=> ?_
  rcases List.mem_or_eq_of_mem_set hv with hv | rfl
  ·exact ja8.1 h.plain v hv
  ·rfl
 ·simp only[zc,List.take_set,List.map_set,iv]
theorem zrow_u8(k:Nat):zrow (.int .u8 0) k=cz (List.replicate k 0)++ []:=by
 simp only[zrow,Builtin.zeroCells,cz,Value.cells,List.append_nil,List.map_replicate];apply List.ext_getElem?;intro i;simp only[Array.toList_map,Array.toList_range,List.getElem?_map,List.getElem?_replicate];by_cases h:i<k
 ·simp[h,Nat.mod_one]
 ·simp[h]
theorem row_zero{k:Nat}(hk:k≤9223372036854775807):RowP (zrow (.int .u8 0) k) k k:=by
 have:=(jjx (List.replicate k 0) (tail:=[]) (cap:=k) rfl (by simp) hk).1;rw[zrow_u8];simpa using this
theorem w8u(v:Int)(h:0≤v):IntKind.wrap .u8 (IntKind.wrap .u64 (48+v.tmod 10))=48+v%10:=by
 rw[Int.tmod_eq_emod_of_nonneg h,wu64 (by omega),w8 (by omega)]
theorem rep_isB(c:Int)(n:Nat)(h:0≤c∧c<256):IsB (rep1 c n):=fun x hx=>by rw[List.eq_of_mem_replicate hx];exact h
theorem jcn:∀(n:Nat)(v:Int),(digZ v n).length=n
 | 0,_=>rfl
 | n+1,v=>by simp[digZ,jcn n]
def V38_0:Int×List Value×Nat×Nat×Int→List Value:=fun(v,d,m,cap,i)=> [C64 v,.slice (some ⟨200,0,some 1⟩) m cap,I i]
def B38_0:Int×List Value×Nat×Nat×Int→List (Option Blk):=fun(v,d,m,cap,i)=> [some ⟨d,5,true⟩]
def S38_0:LSpecA (Int×List Value×Nat×Nat×Int) where
 live:=[5,6,7]
 mid:=[200]
 n:=210
 ap:=[(.tmp 6,200)]
 dec vs bs:=match vs,bs with | [.int .u64 v,.slice (some ⟨200,0,some 1⟩) m cap,.int .i64 i],[some ⟨d,5,true⟩]=>some (v,d,m,cap,i) | _,_=>none
 pre:=fun(v,d,m,cap,i)=>jci d m cap&&decide (-1≤i∧i<m∧m≤1000∧0≤v∧v≤9223372036854775808)
 fin:=fun(v,d,m,cap,i) Z=>∀d' v',jci d' m cap=true→zc d' m=digZ v (i+1).toNat++(zc d m).drop (i+1).toNat→Z (.exit 0) [.int .u64 v',.slice (some ⟨200,0,some 1⟩) m cap,I (-1)] [some ⟨d',5,true⟩]
def qdo(c:Exit→List Value→List (Option Blk)→Prop)(e f:Int)(d:IntKind)(b h:List Value)(a:Nat)(g:Value):Prop:=qca (jav [(a,200)] b&&true&&true) c [qhl true (rlbL [(a,200)] b) 5] (.int d (d.wrap (e.tdiv f))::g::h)
def qdf(b c:Int)(a:IntKind):Value:= .int .u8 (IntKind.u8.wrap (a.wrap (48+b.tmod c)))
theorem r38_0(v:Int)(d:List Value)(m:Nat)(cap:Nat)(i:Int)(jk:Tmps)(R:Exit→List Value→List (Option Blk)→Prop):(jbs Tryz.prog G9 noL Tryz.f257.ntmps (ja7 Tryz.f257 0) (tl S38_0.live (V38_0 (v,d,m,cap,i)) jk) (ml S38_0.mid (B38_0 (v,d,m,cap,i))) S38_0.n fun e t' m' _=>S38_0.out R e t' m')=(bif decide (i≥0)then qed (Nat.ble (qbh i+1) d.length) i (m:Int) (qdo R v 10 .u64 (setL d (qbh i) [qdf v 10 .u64]) [I (qc0 i 1)] 200 (qfa 200 m cap)) False else qcp (qb5 d 200 200) R (qbf d) [qbk i] 0 (.int .u64 v) (qfa 200 m cap)):=by kernel_rfl
theorem l38_0:LOKf Tryz.prog (oneL 0 S38_0.hA) Tryz.f257:=by
 refine jbn (h:=S38_0.hA) (by kernel_rfl) (jbq ok_G9 hmix (by kernel_rfl) (ja6 _) S38_0 V38_0 B38_0 (fun(v,d,m,cap,i)=>(i+1).toNat) ?_ ?_ ?_)
 ·intro vs bs s h;simp only[S38_0]at h;split at h
  all_goals first | (cases h;exact⟨rfl,rfl⟩) | cases h
 ·exact fun⟨v,d,m,cap,i⟩ hp=>by
   simp only[S38_0,jaf]at hp;simp[V38_0,B38_0,S38_0,ja0,jbx,idsL,ids,jaq (jat.1 hp.1).plain]
 ·intro⟨v,d,m,cap,i⟩ jk Z hp hf;rw[r38_0];delta qcp qbp qfa qbk qhl qbf qb5 qbm qed qca qdo qc0 qdf qbh;simp only[S38_0]at hp hf;simp only[jaf,jae]at hp;obtain⟨hr,hp⟩:=hp;have hr:=jat.1 hr;have hz:=ja9 hr;apply cond_intro<;>intro h
  ·have h:=jab h;rw[w8u v hp.2.2.2.1];obtain⟨h1,h2,h3⟩:=hr.set (48+v%10) (i:=i.toNat) (by omega);have e3:setL d (0+i.toNat*1) [.int .u8 (48+v%10)]=d.set i.toNat (.int .u8 (48+v%10)):=by simp[setL]
   refine c_t (jaa (by omega)) (c_t h3 (c_t (by rw[h1.good];rfl) ?_));rw[h1.rlb,Int.tdiv_eq_ediv_of_nonneg (by omega),wu64 (n:=v/10) (by omega),w64 (by omega)];refine⟨(v/10,_,m,cap,i-1),rfl,rfl,by simp only[S38_0,jaf,jae];exact⟨jat.2 h1,by omega⟩,by simp only;omega,?_⟩;intro d' v' g1 g2;refine hf d' v' g1 ?_;have e1:(i+1).toNat=i.toNat+1:=by omega
   have e2:(i-1+1).toNat=i.toNat:=by omega
   rw[g2,h2,e1,e2,digZ,List.append_assoc];congr 1;rw[List.drop_set];have hd:(zc d m).drop i.toNat=(zc d m).getD i.toNat 0::(zc d m).drop (i.toNat+1):=jei _ _ (by omega);rw[if_neg (by omega),hd,Nat.sub_self];rfl
  ·have h:=jac h;refine c_t (by rw[hr.good];rfl) ?_;rw[hr.rlb];obtain rfl:i= -1:=by omega
   exact hf d v (jat.2 hr) (by simp[digZ])
def s38(n:Int)(k:Int):Bool×Value:=(decide (0≤k∧k≤1000∧ -9223372036854775808≤n∧n≤9223372036854775807),.string (sz (digZ n.natAbs k.toNat)))
theorem fn38:Fn1 Tryz.prog 257 Tryz.f257:= .m Tryz.func257
def qa6(a:List (Prod Nat Nat))(b:List Value)(c:Nat):Bool:=jav a b&&true&&true&& (ja0 c (rlbL a b) &&true)
def qgc(c:Bool)(a:Int)(b:Nat)(d:Prop):Prop:=bif qcn 0 a a&&jbw a.toNat 1 then bif qa6 [(b,200)] (zrow (qe7 0) a.toNat) 210 then bif c then d else False else False else False
def qbj(a:Int)(b:List (Prod Nat Nat))(c:List Value)(d:Nat):List Int:=(zc (rlbL b c) d).drop a.toNat
def qer(a b:Int):List Int:=digZ (a.natAbs:Int) b.toNat
theorem v38(n:Int)(k:Int)(R:Value→Prop):ja1 Tryz.prog G9 (oneL 0 S38_0.hA) Tryz.f257 [Enc.enc n,Enc.enc k] (fun _=>none) 0 (fun v _ _=>R v)=(bif qcn (-9223372036854775808) n 9223372036854775807 then qgc (S38_0.toLSpec.pre ((n.natAbs:Int),(rlbL [(5,200)] (zrow (qe7 0) k.toNat),(k.toNat,(k.toNat,qc0 k 1))))) k 5 (∀a:List Value,Int→qb6 true (qer n (qc0 k 1+1)) (qbj (qc0 k 1+1) [(5,200)] (zrow (qe7 0) k.toNat) k.toNat) a a k.toNat k.toNat 210 R)else False):=by kernel_rfl
theorem ok38:jan Tryz.prog 257 (sp2 s38):=by
 refine jc5 ok_G9 hmix fn38 l38_0 jag fun n k hc=> ?_
 rw[ja2,v38];delta qa6 qe7 qcn qgc qg5 qgf qb6 qbj qc0 qer;have hc:(0≤k∧k≤1000∧ -9223372036854775808≤n∧n≤9223372036854775807):=jab hc
 try dsimp only[s38]
 obtain⟨h1,h2,h3,h4⟩:=hc;have hr:=row_zero (k:=k.toNat) (by omega);refine c_t (jaa ⟨h3,h4⟩) (c_t (by simp[jbw];omega) (c_t ?_ ?_))
 ·rw[hr.good,hr.rlb,jbg hr.plain];rfl
 rw[hr.rlb,w64 (by omega)];refine c_t ?_ (fun d' v' g1 g2=> ?_)
 ·simp only[S38_0,jaf,jae];exact⟨jat.2 hr,by omega⟩
 have g1:=jat.1 g1;refine c_t (by rw[jbg g1.plain];rfl) (fun _=>c_t g1.str.1 ?_);have hz:=ja9 hr;rw[g1.str.2,g2,show(k-1+1).toNat=k.toNat by omega,List.drop_of_length_le (by omega),List.append_nil]
def G10:Env:=((Env.nil.add 202 (sp2 s40)).add 229 (sp2 s57)).add 201 (sp1 s69)
theorem ok_G10:jax Tryz.prog G10:=jaj (jaj (jaj jao ok40) ok57) ok69
def jdi:List Int→List Int→Int→Int
 | [],_,o=>o
 | m::r,ds,o=>bif (m==118 || m==100) || (m==99&&ds.headD 0 !=48)then o else jdi r (bif m==99 then ds.tail else ds) (o+1)
def ldc:List Int→Nat
 | []=>0
 | m::r=>(bif m==99 then 1 else 0)+ldc r
def endZ(ms ds:List Int)(w:Int)(k:Nat):Int:=bif !hasZ ms 99 then 0 else bif !hasZ ms 100&&decide (ds=rep1 48 k)then w else jdi ms ds 0
def V86_0:Int×ByteArray×Bool×Int×Int×Int×Bool×ByteArray×ByteArray×Int×Int×Int→List Value:=fun(r,z,zb,z1,z2,z3,zg,s,ms,o,d,i)=> [I r,.pointer (some ⟨0,0,some 0⟩),S s,S ms,I o,I d,I i]
def B86_0:Int×ByteArray×Bool×Int×Int×Int×Bool×ByteArray×ByteArray×Int×Int×Int→List (Option Blk):=fun(r,z,zb,z1,z2,z3,zg,s,ms,o,d,i)=> [some ⟨[S z,B zb,I z1,I z2,I z3,B zg],131,true⟩]
def S86_0:LSpec (Int×ByteArray×Bool×Int×Int×Int×Bool×ByteArray×ByteArray×Int×Int×Int) where
 live:=[4,2,1,5,6,7,8]
 mid:=[0]
 n:=100
 dec vs bs:=match vs,bs with | [.int .i64 r,.pointer (some ⟨0,0,some 0⟩),.string s,.string ms,.int .i64 o,.int .i64 d,.int .i64 i],[some ⟨[.string z,.bool zb,.int .i64 z1,.int .i64 z2,.int .i64 z3,.bool zg],131,true⟩]=>some (r,z,zb,z1,z2,z3,zg,s,ms,o,d,i) | _,_=>none
 pre:=fun(r,z,zb,z1,z2,z3,zg,s,ms,o,d,i)=>decide (0≤i∧i≤ms.size∧ms.size≤1000∧0≤d∧o=i∧d+ldc ((bz ms).drop i.toNat)≤s.size∧s.size≤1000)
 fin:=fun(r,z,zb,z1,z2,z3,zg,s,ms,o,d,i) Z=>(∀o' d' i',Z .ret [I (jdi ((bz ms).drop i.toNat) ((bz s).drop d.toNat) o),.pointer (some ⟨0,0,some 0⟩),S s,S ms,I o',I d',I i'] [some ⟨[S z,B zb,I z1,I z2,I z3,B zg],131,true⟩])∧(∀d',Z (.exit 0) [I r,.pointer (some ⟨0,0,some 0⟩),S s,S ms,I (jdi ((bz ms).drop i.toNat) ((bz s).drop d.toNat) o),I d',I ms.size] [some ⟨[S z,B zb,I z1,I z2,I z3,B zg],131,true⟩])
theorem r86_0(r:Int)(z:ByteArray)(zb:Bool)(z1:Int)(z2:Int)(z3:Int)(zg:Bool)(s:ByteArray)(ms:ByteArray)(o:Int)(d:Int)(i:Int)(jk:Tmps)(R:Exit→List Value→List (Option Blk)→Prop):(jbs Tryz.prog G10 noL Tryz.f258.ntmps (ja7 Tryz.f258 0) (tl S86_0.live (V86_0 (r,z,zb,z1,z2,z3,zg,s,ms,o,d,i)) jk) (ml S86_0.mid (B86_0 (r,z,zb,z1,z2,z3,zg,s,ms,o,d,i))) S86_0.n fun e t' m' _=>R e (List.map t' S86_0.live) (List.map m' S86_0.mid))=(qc5 (qal ms i&& (qa9 ms i 118 || qal ms i&& (qa9 ms i 100 || qf2 (qa9 ms i 99) true ms s i d))) (qa9 ms i 118 || (qa9 ms i 100 || qa9 ms i 99&&qe9 s d !=48)) ms R i [qaj zb zg z z1 z2 z3] (qg9 s ms (qap d i) (qbk o)) 0 (R .ret (qbk o::qab 0::qg9 s ms (qap d i) (qbk o)) [qaj zb zg z z1 z2 z3]) (qgg (qa9 ms i 99) ms i (R .normal (qbk r::qab 0::qg9 s ms [qbw d,qbw i] (qbw o)) [qaj zb zg z z1 z2 z3]) (R .normal (qbk r::qab 0::qg9 s ms (qag d i) (qbw o)) [qaj zb zg z z1 z2 z3])) (qbk r) (qab 0)):=by kernel_rfl
theorem l86_0:LOKf Tryz.prog (oneL 0 S86_0.h) Tryz.f258:=by
 refine jbn (h:=S86_0.h) (by kernel_rfl) (jbk ok_G10 hmix (by kernel_rfl) (ja6 _) S86_0 V86_0 B86_0 (fun(r,z,zb,z1,z2,z3,zg,s,ms,o,d,i)=>(ms.size-i).toNat) ?_ ?_ ?_)
 ·intro vs bs s h;simp only[S86_0]at h;split at h
  all_goals first | (cases h;exact⟨rfl,rfl⟩) | cases h
 ·exact fun _ _ _ h=>h
 ·intro⟨r,z,zb,z1,z2,z3,zg,s,ms,o,d,i⟩ jk Z hp hf;rw[r86_0];delta qf8 qfq qcr qc5 qbp qab qbk qal qgg qaj qg9 qaw qbw qag qe9 qa9 qap qg7 qf2;simp only[S86_0]at hp hf;simp only[jae]at hp;apply cond_intro<;>intro h
  ·have h:=jab h;have h1:decide (0≤i∧i<(ms.size:Int))=true:=jaa (by omega);rw[jb7 hp.1 h]at hf;have hq:=hp.2.2.2.2.2.1;rw[jb7 hp.1 h,ldc]at hq
   have hd:jak ms i.toNat=99→d<s.size:=by
    intro e;rw[e]at hq;simp only[beq_self_eq_true,cond_true]at hq;omega
   have hc:(decide (0≤i∧i<(ms.size:Int)) && (jak ms i.toNat==118 || decide (0≤i∧i<(ms.size:Int)) && (jak ms i.toNat==100 || decide (0≤i∧i<(ms.size:Int)) &&bif jak ms i.toNat==99 then decide (0≤d∧d<(s.size:Int)) &&true else true)))=true:=by
    rw[h1];cases e:(jak ms i.toNat==99)with
    | true=>
     have:=hd (eq_of_beq e);rw[cond_true,jaa (show 0≤d∧d<(s.size:Int)by omega)];simp
    | false=>simp
   have hhd:jak ms i.toNat=99→(bz s).drop d.toNat=jak s d.toNat::(bz s).drop (d+1).toNat:=fun e=>jb7 hp.2.2.2.1 (hd e)
   have hb:(jak ms i.toNat==99&&jak s d.toNat !=48)=(jak ms i.toNat==99&& ((bz s).drop d.toNat).headD 0 !=48):=by
    cases e:(jak ms i.toNat==99)with
    | true=>rw[hhd (eq_of_beq e)];rfl
    | false=>rfl
   rw[jdi,Bool.or_assoc]at hf;refine c_t hc ?_;rw[hb];refine cond_intro (fun a=> ?_) (fun a=>c_t h1 (cond_intro (fun b=> ?_) (fun b=> ?_)))
   ·rw[a,cond_true]at hf;exact hf.1 _ _ _
   ·rw[a,b,cond_false,cond_true,hhd (eq_of_beq b),List.tail_cons]at hf;rw[b,cond_true]at hq;have:=hd (eq_of_beq b);rw[w64 (n:=o+1) (by omega),w64 (n:=d+1) (by omega),w64 (by omega)];exact⟨(r,z,zb,z1,z2,z3,zg,s,ms,o+1,d+1,i+1),rfl,rfl,by simp only[S86_0,jae];omega,by simp only;omega,hf⟩
   ·rw[a,b,cond_false,cond_false]at hf;rw[b,cond_false]at hq;rw[w64 (n:=o+1) (by omega),w64 (by omega)];exact⟨(r,z,zb,z1,z2,z3,zg,s,ms,o+1,d,i+1),rfl,rfl,by simp only[S86_0,jae];omega,by simp only;omega,hf⟩
  ·have h:=jac h;rw[jcp (s:=ms) (by omega),jdi]at hf;obtain rfl:i=ms.size:=by omega
   exact hf.2 _
def s86(p:Pic)(s:ByteArray):Bool×Value:=(decide (p.s.size≤900∧s.size≤1000∧ldc (jar (bz p.s))≤s.size∧0≤p.d∧p.d≤1000),.int .i64 (endZ (jar (bz p.s)) (bz s) p.w p.d.toNat))
theorem fn86:Fn1 Tryz.prog 258 Tryz.f258:= .m Tryz.func258
def qge(a:Px.Pic):List Int:=bz (Pic.s a)
def qel(a:Px.Pic):ByteArray:=sz (jar (qge a))
theorem v86(p:Pic)(s:ByteArray)(R:Value→Prop):ja1 Tryz.prog G10 (oneL 0 S86_0.h) Tryz.f258 [Enc.enc p,Enc.enc s] (fun _=>none) 0 (fun v _ _=>R v)=(bif qbz (Pic.s p)then qe1 (!hasZ (bz (qel p)) 99) (qel p) (R (qbk 0)) (qhh (qbl (qel p)) (qg7 (!hasZ (bz (qel p)) 100) (qcn 0 (Pic.d p) 1000&&true) true) (!hasZ (bz (qel p)) 100&&qbo s (sz (rep1 48 (Pic.d p).toNat))) (R (I (Pic.w p))) (bif S86_0.pre ((0:Int),(Pic.s p,(Pic.n p,(Pic.w p,(Pic.d p,(Pic.q p,(Pic.g p,(s,(qel p,((0:Int),((0:Int),(0:Int))))))))))))then(Int→Int→Int→Tmps→R (I (jdi (qc8 (qel p) 0) (qa5 s) 0)))∧(Int→Tmps→R (I (jdi (qc8 (qel p) 0) (qa5 s) 0)))else False))else False):=by kernel_rfl
theorem ok86:jan Tryz.prog 258 (sp2 s86):=by
 refine jc5 ok_G10 hmix fn86 l86_0 jag fun p s hc=> ?_
 rw[ja2,v86];delta qbl qe1 qhh qa5 qc8 qge qel qbo qg7 qcn qbk qbz;have hc:(p.s.size≤900∧s.size≤1000∧ldc (jar (bz p.s))≤s.size∧0≤p.d∧p.d≤1000):=jab hc
 try dsimp only[s86]
 have hml:(sz (jar (bz p.s))).size=p.s.size:=by rw[jcm,jeg,jap]
 have hB:=jc6 (je9 (bz p.s));have hr1:bz (sz (rep1 48 p.d.toNat))=rep1 48 p.d.toNat:=jc6 (rep_isB 48 _ (by omega));rw[hB,jch,hr1,hml];refine c_t (jaa (by omega)) (c_t (jaa (by omega)) (cond_intro (fun a=> ?_) (fun a=>c_t ?_ (cond_intro (fun b=> ?_) (fun b=>c_t ?_ ?_)))))
 ·simp only[endZ,a,cond_true]
 ·rw[jaa (show p.s.size≤9223372036854775807 by omega),jaa (show 0≤p.d∧p.d≤1000 by omega)];cases hasZ (jar (bz p.s)) 100<;>rfl
 ·simp only[endZ,a,b,cond_true,cond_false]
 ·simp only[S86_0,jae,hml,hB,Int.toNat_zero,List.drop_zero];exact⟨Int.le_refl _,by omega,by omega,Int.le_refl _,trivial,by omega,by omega⟩
 ·have e:endZ (jar (bz p.s)) (bz s) p.w p.d.toNat=jdi (jar (bz p.s)) (bz s) 0:=by simp only[endZ,a,b,cond_false]
  rw[e,jdm];exact⟨fun _ _ _ _=>rfl,fun _ _=>rfl⟩
def G11:Env:=(((((((((Env.nil.add 202 (sp2 s40)).add 229 (sp2 s57)).add 259 (sp1 s58)).add 262 (sp2 s85)).add 260 (sp3 s97)).add 242 (sp1 s96)).add 201 (sp1 s69)).add 261 (sp3 s98)).add 257 (sp2 s38)).add 258 (sp2 s86)
theorem ok_G11:jax Tryz.prog G11:=jaj (jaj (jaj (jaj (jaj (jaj (jaj (jaj (jaj (jaj jao ok40) ok57) ok58) ok85) ok97) ok96) ok69) ok98) ok38) ok86
def fdGo(le fill dr:Int)(neg:Bool):List Int→List Int→List Int→Int→List Int
 | [],_,_,_=> []
 | m::r,sp,ds,o=>
  bif m==100 then fmZ (sp.headD 0) (ds.headD 0) neg::fdGo le fill dr neg r sp.tail ds.tail (o+1)
  else bif m==99 then(bif decide (o<le)then fill else ds.headD 0)::fdGo le fill dr neg r sp.tail ds.tail (o+1)
  else bif m==105 then(bif sp.headD 0==66 then 32 else bif decide (o<le)then fill else sp.headD 0)::fdGo le fill dr neg r sp.tail ds (o+1)
  else bif m !=118 then ssZ (sp.headD 0) dr neg::fdGo le fill dr neg r sp.tail ds (o+1)
  else fdGo le fill dr neg r sp.tail ds o
def dgL(l:List Int):Bool:=l.all fun d=>decide (48≤d∧d≤57)
def fdFl(sp:List Int):Int:=if hasZ sp 42=true then 42 else 32
def fdLe(sp:List Int)(w:Int)(k:Nat)(n:Int):Int:=endZ (jar sp) (digZ n.natAbs k) w k
def fdBl(sp:List Int)(w:Int)(k:Nat)(n:Int):Bool:=decide (fdLe sp w k n>0) && (fdLe sp w k n==w&& (n==0&& !hasZ (jar sp) 100))
def fdDr(sp:List Int):Int:=bif !hasZ sp 90&& (!hasZ sp 42&&hasZ (jar sp) 99)then drZ sp else 0
def jej(sp:List Int)(w:Int)(k:Nat)(n:Int):List Int:=fdGo (fdLe sp w k n) (fdFl sp) (fdDr sp) (decide (n<0)) (jar sp) sp (digZ n.natAbs k) 0
def jdp(sp:List Int)(w:Int)(k:Nat)(n:Int):List Int:=
 bif fdBl sp w k n then rep1 (fdFl sp) w.toNat else bif fdDr sp !=0 then(jej sp w k n).set (fdLe sp w k n-1).toNat (sgZ (fdDr sp) (decide (n<0)))else jej sp w k n
def fdOK(sp:List Int)(w:Int)(k:Nat)(n:Int):Bool:=fdBl sp w k n || (fdDr sp==0 || decide (1≤fdLe sp w k n∧fdLe sp w k n≤(jej sp w k n).length))
theorem jd8:∀(n:Nat)(v:Int),dgL (digZ v n)=true
 | 0,_=>rfl
 | n+1,v=>by
  have:=jd8 n (v/10);simp only[dgL]at this ⊢;simp only[digZ,List.all_append,this,List.all_cons,List.all_nil,Bool.and_true,Bool.true_and,jae];omega
theorem jg2{l:List Int}(h:dgL l=true):IsB l:=fun x hx=>by
 simp only[dgL,List.all_eq_true,jae]at h;have:=h x hx;omega
theorem ldc_le:∀l:List Int,(ldc l:Int)≤pdGo l
 | []=>by simp[ldc,pdGo]
 | m::r=>by
  have:=ldc_le r;simp only[ldc,pdGo,isP];cases m==100<;>cases m==99<;>simp<;>omega
theorem dg_at{s:ByteArray}(h:dgL (bz s)=true){k:Int}(h0:0≤k)(h1:k<s.size):48≤jak s k.toNat∧jak s k.toNat≤57:=by
 have hm:jak s k.toNat∈bz s:=by
  have:jak s k.toNat∈(bz s).drop k.toNat:=by rw[jb7 h0 h1];exact List.mem_cons_self ..
  exact List.mem_of_mem_drop this
 simp only[dgL,List.all_eq_true,jae]at h;exact h _ hm
def V66_0:Int×ByteArray×Bool×Int×Int×Int×Bool×ByteArray×Int×Int×ByteArray×Int×List Value×Nat×Nat×Int×Int→List Value:=fun(n,z,zb,z1,z2,z3,zg,s,le,fl,ms,dr,d,m,cap,k,i)=> [I n,.pointer (some ⟨0,0,some 0⟩),S s,I le,C8 fl,S ms,C8 dr,.slice (some ⟨200,0,some 1⟩) m cap,I k,I i]
def B66_0:Int×ByteArray×Bool×Int×Int×Int×Bool×ByteArray×Int×Int×ByteArray×Int×List Value×Nat×Nat×Int×Int→List (Option Blk):=fun(n,z,zb,z1,z2,z3,zg,s,le,fl,ms,dr,d,m,cap,k,i)=> [some ⟨[S z,B zb,I z1,I z2,I z3,B zg],131,true⟩,some ⟨d,5,true⟩]
def S66_0:LSpecA (Int×ByteArray×Bool×Int×Int×Int×Bool×ByteArray×Int×Int×ByteArray×Int×List Value×Nat×Nat×Int×Int) where
 live:=[1,2,5,6,7,8,9,10,11,12]
 mid:=[0,200]
 n:=260
 ap:=[(.tmp 10,200)]
 dec vs bs:=match vs,bs with | [.int .i64 n,.pointer (some ⟨0,0,some 0⟩),.string s,.int .i64 le,.int .u8 fl,.string ms,.int .u8 dr,.slice (some ⟨200,0,some 1⟩) m cap,.int .i64 k,.int .i64 i],[some ⟨[.string z,.bool zb,.int .i64 z1,.int .i64 z2,.int .i64 z3,.bool zg],131,true⟩,some ⟨d,5,true⟩]=>some (n,z,zb,z1,z2,z3,zg,s,le,fl,ms,dr,d,m,cap,k,i) | _,_=>none
 pre:=fun(n,z,zb,z1,z2,z3,zg,s,le,fl,ms,dr,d,m,cap,k,i)=>jci d m cap&& (dgL (bz s) &&decide (0≤i∧i≤ms.size∧ms.size≤1000∧ms.size=z.size∧0≤k∧k+pdGo ((bz ms).drop i.toNat)≤s.size∧s.size≤1000∧m≤i))
 fin:=fun(n,z,zb,z1,z2,z3,zg,s,le,fl,ms,dr,d,m,cap,k,i) Z=>∀d' m' cap' k',jci d' m' cap'=true→zc d' m'=zc d m++fdGo le fl dr (decide (n<0)) ((bz ms).drop i.toNat) ((bz z).drop i.toNat) ((bz s).drop k.toNat) m→Z (.exit 0) [I n,.pointer (some ⟨0,0,some 0⟩),S s,I le,.int .u8 fl,S ms,.int .u8 dr,.slice (some ⟨200,0,some 1⟩) m' cap',I k',I ms.size] [some ⟨[S z,B zb,I z1,I z2,I z3,B zg],131,true⟩,some ⟨d',5,true⟩]
def qa8(d e:Int)(a b c:Nat):List Value:=qfa a b c::qap d e
def qa0(d e:Int)(a b c:Nat):List Value:=qfa a b c::qag d e
def qee(h i:Bool)(j:ByteArray)(g:Exit→List Value→List (Option Blk)→Prop)(d k l m:Int)(e n:List Value)(a c f:Nat):Prop:=∀b:List Value,qb0 b a (c+1)→qca (qdc d e b f 200 c&&true) g [qaj h i j k l m,some (qbx d e b f 200 c)] n
def qdx(b e:ByteArray)(a c d f g h:Int)(i j:Nat):List Value:=qbk a::qab 0::S b::qbk c::qe7 d::S e::qe7 f::qa0 g h 200 (i+1) j
def qd7(b e:ByteArray)(a c d f i j:Int)(g h:Nat):List Value:=[qbk a,qab 0,S b,qbk c,qe7 d,S e,qe7 f,qfa 200 (g+1) h,qbw i,qbw j]
theorem r66_0(n:Int)(z:ByteArray)(zb:Bool)(z1:Int)(z2:Int)(z3:Int)(zg:Bool)(s:ByteArray)(le:Int)(fl:Int)(ms:ByteArray)(dr:Int)(d:List Value)(m:Nat)(cap:Nat)(k:Int)(i:Int)(jk:Tmps)(R:Exit→List Value→List (Option Blk)→Prop):(jbs Tryz.prog G11 noL Tryz.f210.ntmps (ja7 Tryz.f210 0) (tl S66_0.live (V66_0 (n,z,zb,z1,z2,z3,zg,s,le,fl,ms,dr,d,m,cap,k,i)) jk) (ml S66_0.mid (B66_0 (n,z,zb,z1,z2,z3,zg,s,le,fl,ms,dr,d,m,cap,k,i))) S66_0.n fun e t' m' _=>S66_0.out R e t' m')=(bif qcr ms i then qgg (qal ms i) z i (bif qa9 ms i 100 then bif qal s k then bif qcn 48 (qe9 s k) 57 then qgz d cap m 1 (∀a:Nat,qee zb zg z R (fmZ (qe9 z i) (qe9 s k) (qfu n 0)) z1 z2 z3 d (qd7 s ms n le fl dr k i m a) a m 287)else False else False else bif qal ms i then bif qa9 ms i 99 then bif qfu (natO m) le then qgz d cap m 1 (∀a:Nat,qee zb zg z R fl z1 z2 z3 d (qd7 s ms n le fl dr k i m a) a m 286)else bif qal s k then qgz d cap m 1 (∀a:Nat,qee zb zg z R (qe9 s k) z1 z2 z3 d (qd7 s ms n le fl dr k i m a) a m 288)else False else bif qal ms i then bif qa9 ms i 105 then bif qa9 z i 66 then qgz d cap m 1 (∀a:Nat,qee zb zg z R 32 z1 z2 z3 d (qdx s ms n le fl dr k i m a) a m 290)else bif qfu (natO m) le then qgz d cap m 1 (∀a:Nat,qee zb zg z R fl z1 z2 z3 d (qdx s ms n le fl dr k i m a) a m 292)else qgz d cap m 1 (∀a:Nat,qee zb zg z R (qe9 z i) z1 z2 z3 d (qdx s ms n le fl dr k i m a) a m 292)else bif qal ms i then bif qe9 ms i !=118 then qgz d cap m 1 (∀a:Nat,qee zb zg z R (ssZ (qe9 z i) dr (qfu n 0)) z1 z2 z3 d (qdx s ms n le fl dr k i m a) a m 297)else qca (qb5 d 200 200) R (qaj zb zg z z1 z2 z3::qbf d) (qbk n::qab 0::S s::qbk le::qe7 fl::S ms::qe7 dr::qa0 k i 200 m cap)else False else False else False) False else qcp (qb5 d 200 200) R (qaj zb zg z z1 z2 z3::qbf d) (S s::qbk le::qe7 fl::S ms::qe7 dr::qa8 k i 200 m cap) 0 (qbk n) (qab 0)):=by kernel_rfl
theorem l66_0:LOKf Tryz.prog (oneL 0 S66_0.hA) Tryz.f210:=by
 refine jbn (h:=S66_0.hA) (by kernel_rfl) (jbq ok_G11 hmix (by kernel_rfl) (ja6 _) S66_0 V66_0 B66_0 (fun(n,z,zb,z1,z2,z3,zg,s,le,fl,ms,dr,d,m,cap,k,i)=>(ms.size-i).toNat) ?_ ?_ ?_)
 ·intro vs bs s h;simp only[S66_0]at h;split at h
  all_goals first | (cases h;exact⟨rfl,rfl⟩) | cases h
 ·exact fun⟨n,z,zb,z1,z2,z3,zg,s,le,fl,ms,dr,d,m,cap,k,i⟩ hp=>by
   simp only[S66_0,jaf]at hp;simp[V66_0,B66_0,S66_0,ja0,jbx,idsL,ids,jaq (jat.1 hp.1).plain]
 ·intro⟨n,z,zb,z1,z2,z3,zg,s,le,fl,ms,dr,d,m,cap,k,i⟩ jk Z hp hf;rw[r66_0];delta qcp qbp qab qbk qap qfa qa8 qe7 qhl qbf qaj qb5 qfq qal qgg qca qaw qbw qag qa0 qaf qbi qgz qgb qbx qdc qb0 qee qdx qfu qe9 qa9 qd7 qcn qcr;simp only[S66_0]at hp hf;simp only[jaf,jae]at hp;rw[jb4];obtain⟨hr,hdg,hp⟩:=hp;have hr:=jat.1 hr;apply cond_intro<;>intro h
  ·have h:=jab h;have hi0:=hp.1;have g1:decide (0≤i∧i<(ms.size:Int))=true:=jaa (by omega);have g2:decide (0≤i∧i<(z.size:Int))=true:=jaa (by omega);have hq:=hp.2.2.2.2.2.1;rw[jb7 hi0 h,pdGo]at hq;have nn:=jg7 ((bz ms).drop (i+1).toNat);have hi1:i<(z.size:Int):=by omega
   have ek:(k+1).toNat=k.toNat+1:=by omega
   have eF:fdGo le fl dr (decide (n<0)) ((bz ms).drop i.toNat) ((bz z).drop i.toNat) ((bz s).drop k.toNat) m=
     (bif jak ms i.toNat==100 then fmZ (jak z i.toNat) (((bz s).drop k.toNat).headD 0) (decide (n<0))::fdGo le fl dr (decide (n<0)) ((bz ms).drop (i+1).toNat) ((bz z).drop (i+1).toNat) ((bz s).drop (k+1).toNat) (m+1)
     else bif jak ms i.toNat==99 then(bif decide ((m:Int)<le)then fl else((bz s).drop k.toNat).headD 0)::fdGo le fl dr (decide (n<0)) ((bz ms).drop (i+1).toNat) ((bz z).drop (i+1).toNat) ((bz s).drop (k+1).toNat) (m+1)
     else bif jak ms i.toNat==105 then(bif jak z i.toNat==66 then 32 else bif decide ((m:Int)<le)then fl else jak z i.toNat)::fdGo le fl dr (decide (n<0)) ((bz ms).drop (i+1).toNat) ((bz z).drop (i+1).toNat) ((bz s).drop k.toNat) (m+1)
     else bif jak ms i.toNat !=118 then ssZ (jak z i.toNat) dr (decide (n<0))::fdGo le fl dr (decide (n<0)) ((bz ms).drop (i+1).toNat) ((bz z).drop (i+1).toNat) ((bz s).drop k.toNat) (m+1)
     else fdGo le fl dr (decide (n<0)) ((bz ms).drop (i+1).toNat) ((bz z).drop (i+1).toNat) ((bz s).drop k.toNat) m):=by
    rw[jb7 (s:=ms) hi0 h,jb7 (s:=z) hi0 hi1,fdGo,List.tail_drop,ek];rfl
   have fin:∀(cap':Nat)(d':List Value)(m1:Nat)(k':Int)(M:List Int),RowP d' m1 cap'→(m1:Int)≤i+1→zc d' m1=zc d m++M→0≤k'→k'+pdGo ((bz ms).drop (i+1).toNat)≤s.size→
     fdGo le fl dr (decide (n<0)) ((bz ms).drop i.toNat) ((bz z).drop i.toNat) ((bz s).drop k.toNat) m=M++fdGo le fl dr (decide (n<0)) ((bz ms).drop (i+1).toNat) ((bz z).drop (i+1).toNat) ((bz s).drop k'.toNat) m1→
     S66_0.step V66_0 B66_0 (fun(n,z,zb,z1,z2,z3,zg,s,le,fl,ms,dr,d,m,cap,k,i)=>(ms.size-i).toNat) (n,z,zb,z1,z2,z3,zg,s,le,fl,ms,dr,d,m,cap,k,i) Z Exit.normal
      [I n,.pointer (some ⟨0,0,some 0⟩),S s,I le,C8 fl,S ms,C8 dr,.slice (some ⟨200,0,some 1⟩) m1 cap',I k',I (IntKind.wrap .i64 (i+1))] [some ⟨[S z,B zb,I z1,I z2,I z3,B zg],131,true⟩,some ⟨d',5,true⟩]:=by
    intro cap' d' m1 k' M q1 q2 q3 q4 q5 q6;rw[w64 (n:=i+1) (by omega)];refine⟨(n,z,zb,z1,z2,z3,zg,s,le,fl,ms,dr,d',m1,cap',k',i+1),rfl,rfl,by simp only[S66_0,jaf,jae];exact⟨jat.2 q1,hdg,by omega⟩,by simp only;omega,?_⟩;intro d'' m'' cap'' k'' r1 r2;exact hf d'' m'' cap'' k'' r1 (by rw[r2,q3,q6,List.append_assoc])
   have hk:isP (jak ms i.toNat)=true→k<s.size∧k+1+pdGo ((bz ms).drop (i+1).toNat)≤s.size:=by
    intro e;rw[e,cond_true]at hq;omega
   have hk0:k+pdGo ((bz ms).drop (i+1).toNat)≤s.size:=by
    revert hq;cases isP (jak ms i.toNat) <;>simp only[cond_true,cond_false] <;>omega
   have hkd:k<s.size→(bz s).drop k.toNat=jak s k.toNat::(bz s).drop (k+1).toNat:=fun e=>jb7 hp.2.2.2.2.1 e
   refine c_t g2 (c_t g1 (cond_intro (fun a=> ?_) (fun a=>c_t g1 (cond_intro (fun b=> ?_) (fun b=>c_t g1 (cond_intro (fun c=> ?_) (fun c=>c_t g1 (cond_intro (fun e=> ?_) (fun e=> ?_)))))))))
   ·obtain⟨k1,k2⟩:=hk (by simp[isP,a]);refine c_t (jaa (by omega)) (c_t (jaa (dg_at hdg (by omega) k1)) ?_);refine c_t (hr.ask (k:=1) (by omega)) (fun cap1 tail ht=> ?_);obtain⟨f1,f2⟩:=hr.app1 (fmZ (jak z i.toNat) (jak s k.toNat) (decide (n<0))) ht;refine c_t (by rw[f1.good];rfl) ?_;rw[f1.rlb];rw[w64 (n:=k+1) (by omega)];exact fin _ _ _ _ _ f1 (by omega) f2 (by omega) k2 (by rw[eF,a,cond_true,hkd k1];rfl)
   ·obtain⟨k1,k2⟩:=hk (by simp[isP,b]);refine cond_intro (fun c=> ?_) (fun c=>c_t (jaa (by omega)) ?_)
    ·refine c_t (hr.ask (k:=1) (by omega)) (fun cap1 tail ht=> ?_);obtain⟨f1,f2⟩:=hr.app1 (fl) ht;refine c_t (by rw[f1.good];rfl) ?_;rw[f1.rlb];rw[w64 (n:=k+1) (by omega)];exact fin _ _ _ _ _ f1 (by omega) f2 (by omega) k2 (by rw[eF,a,b,c,cond_true,cond_false];rfl)
    ·refine c_t (hr.ask (k:=1) (by omega)) (fun cap1 tail ht=> ?_);obtain⟨f1,f2⟩:=hr.app1 (jak s k.toNat) ht;refine c_t (by rw[f1.good];rfl) ?_;rw[f1.rlb];rw[w64 (n:=k+1) (by omega)];exact fin _ _ _ _ _ f1 (by omega) f2 (by omega) k2 (by rw[eF,a,b,c,cond_true,cond_false,cond_false,hkd k1];rfl)
   ·refine cond_intro (fun e=> ?_) (fun e=>cond_intro (fun o=> ?_) (fun o=> ?_))
    ·refine c_t (hr.ask (k:=1) (by omega)) (fun cap1 tail ht=> ?_);obtain⟨f1,f2⟩:=hr.app1 (32) ht;refine c_t (by rw[f1.good];rfl) ?_;rw[f1.rlb];exact fin _ _ _ _ _ f1 (by omega) f2 (by omega) hk0 (by rw[eF,a,b,c,e];rfl)
    ·refine c_t (hr.ask (k:=1) (by omega)) (fun cap1 tail ht=> ?_);obtain⟨f1,f2⟩:=hr.app1 (fl) ht;refine c_t (by rw[f1.good];rfl) ?_;rw[f1.rlb];exact fin _ _ _ _ _ f1 (by omega) f2 (by omega) hk0 (by rw[eF,a,b,c,e,o];rfl)
    ·refine c_t (hr.ask (k:=1) (by omega)) (fun cap1 tail ht=> ?_);obtain⟨f1,f2⟩:=hr.app1 (jak z i.toNat) ht;refine c_t (by rw[f1.good];rfl) ?_;rw[f1.rlb];exact fin _ _ _ _ _ f1 (by omega) f2 (by omega) hk0 (by rw[eF,a,b,c,e,o];rfl)
   ·refine c_t (hr.ask (k:=1) (by omega)) (fun cap1 tail ht=> ?_);obtain⟨f1,f2⟩:=hr.app1 (ssZ (jak z i.toNat) dr (decide (n<0))) ht;refine c_t (by rw[f1.good];rfl) ?_;rw[f1.rlb];exact fin _ _ _ _ _ f1 (by omega) f2 (by omega) hk0 (by rw[eF,a,b,c,e];rfl)
   ·refine c_t (by rw[hr.good];rfl) ?_;rw[hr.rlb];exact fin _ _ _ _ [] hr (by omega) (by simp) (by omega) hk0 (by rw[eF,a,b,c,e];rfl)
  ·have h:=jac h;refine c_t (by rw[hr.good];rfl) ?_;rw[hr.rlb];obtain rfl:i=ms.size:=by omega
   exact hf d m cap k (jat.2 hr) (by rw[jcp (Int.le_refl _)];simp[fdGo])
def s66(p:Pic)(n:Int):Bool×Value:=(decide (p.s.size≤900∧0≤p.d∧p.d≤900∧pdGo (jar (bz p.s))≤p.d∧0≤p.w∧p.w≤900∧ -9223372036854775808≤n∧n≤9223372036854775807∧fdOK (bz p.s) p.w p.d.toNat n=true),.string (sz (jdp (bz p.s) p.w p.d.toNat n)))
theorem fn66:Fn1 Tryz.prog 210 Tryz.f210:= .m Tryz.func210
def qcb(b:Int)(a:Px.Pic):Int:=endZ (jar (qge a)) (bz (sz (qer b (Pic.d a)))) (Pic.w a) (Pic.d a).toNat
def qgn(a c:Int)(b:Px.Pic):List Int:=fdGo (qcb a b) (if hasZ (qge b) 42=true then 42 else 32) c (qfu a 0) (qc8 (qel b) 0) (qc8 (Pic.s b) 0) (qc8 (sz (qer a (Pic.d b))) 0) 0
def qdq(a c:Int)(b:Px.Pic):Bool:=S66_0.toLSpec.pre (a,(Pic.s b,(Pic.n b,(Pic.w b,(Pic.d b,(Pic.q b,(Pic.g b,(sz (qer a (Pic.d b)),(qcb a b,(if hasZ (qge b) 42=true then(42:Int)else(32:Int),(qel b,(c,(([]:List Value),(0,(0,((0:Int),(0:Int)))))))))))))))))
def qfc(a b c d e f:Int):Bool:=decide (a≤b∧b≤c∧d≤e∧e≤f)
theorem v66(p:Pic)(n:Int)(R:Value→Prop):ja1 Tryz.prog G11 (oneL 0 S66_0.hA) Tryz.f210 [Enc.enc p,Enc.enc n] (fun _=>none) 0 (fun v _ _=>R v)=(bif qfc 0 (Pic.d p) 1000 (-9223372036854775808) n 9223372036854775807 then bif decide ((Pic.s p).size≤900∧(sz (qer n (Pic.d p))).size≤1000∧ldc (jar (qge p))≤(sz (qer n (Pic.d p))).size∧0≤Pic.d p∧Pic.d p≤1000)then qe1 (qbz (Pic.s p)) (Pic.s p) (qhe (decide (qcb n p>0)) (bif qcb n p==Pic.w p then bif n==0 then qbl (qel p) &&true else true else true) true (decide (qcb n p>0) && (qcb n p==Pic.w p&& (n==0&& !hasZ (bz (qel p)) 100))) (qgf (qcn 0 (Pic.w p) 1000) (S (sz (rep1 (if hasZ (qge p) 42=true then 42 else 32) (Pic.w p).toNat))) R) (qhh (qbl (Pic.s p)) (qg7 (!hasZ (qge p) 90) (qbl (Pic.s p) && (bif !hasZ (qge p) 42 then qbl (qel p) &&true else true)) true) (!hasZ (qge p) 90&& (!hasZ (qge p) 42&&hasZ (bz (qel p)) 99)) (bif qbl (Pic.s p)then bif qdq n (drZ (qge p)) p then∀a:List Value,∀b:Nat,∀c:Nat,Int→jci a b c=true→zc a b=zc [] 0++qgn n (drZ (qge p)) p→qg5 true a 260 (bif drZ (qge p) !=0 then qed (Nat.ble (qbh (qc0 (qcb n p) 1)+1) a.length) (qc0 (qcb n p) 1) (b:Int) (qgf (jbf (setL a (qbh (qc0 (qcb n p) 1)) [.int .u8 (sgZ (drZ (qge p)) (qfu n 0))]) 0 b) (S (jbb (setL a (qbh (qc0 (qcb n p) 1)) [.int .u8 (sgZ (drZ (qge p)) (qfu n 0))]) 0 b)) R) False else qgf (jbf a 0 b) (S (jbb a 0 b)) R)else False else False) (bif qdq n 0 p then∀a:List Value,∀b:Nat,∀c:Nat,Int→qb6 true (zc [] 0) (qgn n 0 p) a a b c 260 R else False))) False else False else False):=by kernel_rfl
theorem ok66:jan Tryz.prog 210 (sp2 s66):=by
 refine jc5 ok_G11 hmix fn66 l66_0 jag fun p n hc=> ?_
 rw[ja2,v66];delta qbl qe1 qg7 qhe qhh qg5 qgf qb6 qc8 qer qge qel qfu qcb qgn qdq qbm qed qbh qc0 qcn qbz qfc;have hc:(p.s.size≤900∧0≤p.d∧p.d≤900∧pdGo (jar (bz p.s))≤p.d∧0≤p.w∧p.w≤900∧ -9223372036854775808≤n∧n≤9223372036854775807∧fdOK (bz p.s) p.w p.d.toNat n=true):=jab hc
 try dsimp only[s66]
 obtain⟨h1,h2,h3,h4,h5,h6,h7,h8,hok⟩:=hc;have hml:(sz (jar (bz p.s))).size=p.s.size:=by rw[jcm,jeg,jap]
 have hB:=jc6 (je9 (bz p.s));have hdg:=jd8 p.d.toNat (n.natAbs:Int);have hds:bz (sz (digZ n.natAbs p.d.toNat))=digZ n.natAbs p.d.toNat:=jc6 (jg2 hdg);have hdl:(sz (digZ n.natAbs p.d.toNat)).size=p.d.toNat:=by rw[jcm,jcn]
 have hld:=ldc_le (jar (bz p.s));have hz0:zc [] 0=[]:=rfl;rw[hB,hds];have dd:decide (p.s.size≤9223372036854775807)=true:=jaa (by omega);have dm:decide ((sz (jar (bz p.s))).size≤9223372036854775807)=true:=jaa (by omega)
 have pre:∀dr:Int,S66_0.pre (n,p.s,p.n,p.w,p.d,p.q,p.g,sz (digZ n.natAbs p.d.toNat),endZ (jar (bz p.s)) (digZ n.natAbs p.d.toNat) p.w p.d.toNat,(if hasZ (bz p.s) 42=true then 42 else 32),sz (jar (bz p.s)),dr,[],0,0,0,0)=true:=by
  intro dr;simp only[S66_0,jaf,jae,hds,hB,Int.toNat_zero,List.drop_zero];exact⟨rfl,hdg,Int.le_refl _,by omega,by omega,by omega,Int.le_refl _,by omega,by omega,by omega⟩
 refine c_t (jaa (by omega)) (c_t (jaa (by omega)) (c_t dd (c_t (jaa (by omega)) (c_t ?_ (cond_intro (fun a=> ?_) (fun a=> ?_))))))
 ·rw[dm];simp
 ·have a':fdBl (bz p.s) p.w p.d.toNat n=true:=a;refine c_t (jaa (by omega)) ?_;rw[jdp,a',cond_true];rfl
 have a':fdBl (bz p.s) p.w p.d.toNat n=false:=a
 have e1:jdp (bz p.s) p.w p.d.toNat n=bif fdDr (bz p.s) !=0 then(jej (bz p.s) p.w p.d.toNat n).set (fdLe (bz p.s) p.w p.d.toNat n-1).toNat (sgZ (fdDr (bz p.s)) (decide (n<0)))else jej (bz p.s) p.w p.d.toNat n:=by
  rw[jdp,a',cond_false]
 rw[e1];refine c_t (by rw[dd,dm];simp) (cond_intro (fun b=>c_t dd (c_t (pre _) (fun d' m' cap' k' g1 g2=> ?_))) (fun b=>c_t (pre _) (fun d' m' cap' k' g1 g2=> ?_)))
 ·have eD:fdDr (bz p.s)=drZ (bz p.s):=by rw[fdDr,b,cond_true]
  have g1:=jat.1 g1;have hzl:=ja9 g1
  have g2:zc d' m'=jej (bz p.s) p.w p.d.toNat n:=by
   rw[g2,jdm,jdm,jdm,jej,eD];rfl
  rw[eD];refine c_t (by rw[jbg g1.plain];rfl) (fun _=>cond_intro (fun c=> ?_) (fun c=> ?_))
  ·have hx:1≤fdLe (bz p.s) p.w p.d.toNat n∧fdLe (bz p.s) p.w p.d.toNat n≤(jej (bz p.s) p.w p.d.toNat n).length:=by
    have hc0:(drZ (bz p.s)==0)=false:=by simpa using c
    simpa only[fdOK,a',eD,hc0,Bool.false_or,jae]using hok
   rw[←g2,hzl]at hx;have hcp:=g1.cap;have hle:=g1.le;have ele:endZ (jar (bz p.s)) (digZ n.natAbs p.d.toNat) p.w p.d.toNat=fdLe (bz p.s) p.w p.d.toNat n:=rfl;rw[ele,w64 (by omega)];obtain⟨q1,q2,q3⟩:=g1.set (sgZ (drZ (bz p.s)) (decide (n<0))) (i:=(fdLe (bz p.s) p.w p.d.toNat n-1).toNat) (by omega);refine c_t (jaa (by omega)) (c_t q3 (c_t q1.str.1 ?_));rw[q1.str.2,q2,g2,c,cond_true]
  ·refine c_t g1.str.1 ?_;rw[g1.str.2,g2,c,cond_false]
 ·have eD:fdDr (bz p.s)=0:=by rw[fdDr,b,cond_false]
  have g1:=jat.1 g1
  have g2:zc d' m'=jej (bz p.s) p.w p.d.toNat n:=by
   rw[g2,jdm,jdm,jdm,jej,eD];rfl
  refine c_t (by rw[jbg g1.plain];rfl) (fun _=>c_t g1.str.1 ?_);rw[g1.str.2,g2,eD];rfl
theorem drGo_none(s:List Int):∀t:List Int,(∀c∈t,hasZ [36,83,43,45] c=false)→drGo s t=0
 | [],_=>rfl
 | c::r,h=>by
  have h1:=h c (List.mem_cons_self ..);rw[drGo,if_neg (by simp[h1])];exact drGo_none s r fun x hx=>h x (List.mem_cons_of_mem _ hx)
theorem jk2(a b:List Int)(c:Int):cntZ (a++b) c=cntZ a c+cntZ b c:=by
 simp[cntZ]
theorem cnt_none{t:List Int}{c:Int}(h:c∉t):cntZ t c=0:=by
 simp only[cntZ,List.length_eq_zero_iff,List.filter_eq_nil_iff];intro x hx;simp;rintro rfl;exact h hx
theorem dr_app(b t:List Int)(ht:∀c∈t,hasZ [36,83,43,45] c=false):∀r,drGo (b++t) (r++t)=drGo b r
 | []=>by
  rw[List.nil_append,drGo_none _ _ ht];rfl
 | c::r=>by
  rw[List.cons_append,drGo,drGo,dr_app b t ht r];cases hc:hasZ [36,83,43,45] c with
  | false=>simp
  | true=>
   have:c∉t:=fun hx=>by rw[ht c hx]at hc;cases hc
   rw[jk2,cnt_none this];simp
theorem jd6(s:List Int):∃t,s=jal s++t∧(t=[]∧crZ s=false∨(t=[67,82]∨t=[68,66])∧crZ s=true):=by
 unfold jal;by_cases h:crZ s=true
 ·rw[if_pos h];refine⟨s.drop (s.length-2),(List.take_append_drop ..).symm,.inr ⟨?_,h⟩⟩;simp only[crZ,jaf,Bool.or_eq_true,jae]at h;exact h.2
 ·rw[if_neg h];exact⟨[],by simp,.inl ⟨rfl,by simpa using h⟩⟩
theorem dr_body(s:List Int):drZ s=drZ (jal s):=by
 obtain⟨t,h,ht⟩:=jd6 s
 have:=dr_app (jal s) t (by
  intro c hc;rcases ht with⟨rfl,_⟩ | ⟨rfl | rfl,_⟩
  ·cases hc
  ·rcases List.mem_cons.1 hc with rfl | hc
   ·decide
   ·rcases List.mem_cons.1 hc with rfl | hc
    ·decide
    ·cases hc
  ·rcases List.mem_cons.1 hc with rfl | hc
   ·decide
   ·rcases List.mem_cons.1 hc with rfl | hc
    ·decide
    ·cases hc) (jal s)
 rw[←h]at this;exact this
theorem jff(s:List Int):∀r:List Int,drGo s r=0∨(hasZ [36,83,43,45] (drGo s r)=true∧drGo s r∈r)
 | []=> .inl rfl
 | c::r=>by
  rw[drGo];split
  ·rename_i h;exact .inr ⟨h.1,List.mem_cons_self ..⟩
  ·rcases jff s r with h | ⟨h1,h2⟩
   ·exact .inl h
   ·exact .inr ⟨h1,List.mem_cons_of_mem _ h2⟩
theorem jgr:∀(r:List Int)(bh pt:Bool)(dg:Int),99∈r→(ldGo r true bh pt dg).1=false
 | m::r,bh,pt,dg,h=>by
  rw[ldGo];rcases List.mem_cons.1 h with rfl | h
  ·rfl
  ·cases m==118 with
   | true=>exact jgr r _ _ _ h
   | false=>
    cases m==100 with
    | true=>exact jgr r _ _ _ h
    | false=>
     cases m==99 with
     | true=>rfl
     | false=>exact jgr r _ _ _ h
theorem jky(s:List Int)(dr:Int):∀(r:List Int)(i f l:Int),0<i→(f<0∨1≤f)→(df1 s dr r i f l).1=true→(dr∈r∨(1≤f∧1≤l))→1≤(df1 s dr r i f l).2.1∧1≤(df1 s dr r i f l).2.2
 | [],i,f,l,hi,hf,hk,h=>by
  rcases h with h | h
  ·cases h
  ·exact h
 | c::r,i,f,l,hi,hf,hk,h=>by
  rw[df1]at hk ⊢;cases hc:(c==dr)with
  | true=>
   rw[hc,cond_true]at hk;rw[cond_true];exact jky s dr r _ _ _ (by omega) (by split<;>omega) hk (.inr ⟨by split<;>omega,by omega⟩)
  | false=>
   have hne:c≠dr:=by simpa using hc
   rw[hc,cond_false]at hk;rw[cond_false];cases h2:(hasZ [36,83,43,45] c&&decide (2≤cntZ s c))with
   | true=>rw[h2]at hk;cases hk
   | false=>
    rw[h2,cond_false]at hk;rw[cond_false];refine jky s dr r _ _ _ (by omega) hf hk ?_;rcases h with h | h
    ·rcases List.mem_cons.1 h with h | h
     ·exact absurd h.symm hne
     ·exact .inl h
    ·exact .inr h
theorem drifts_head{c:Int}{r:List Int}(h:jcf (c::r)=true)(h0:drZ (c::r)≠0):c≠86:=by
 rintro rfl;simp only[jcf,Bool.or_eq_true,beq_iff_eq,jaf]at h;rcases h with h | ⟨h1,h2⟩
 ·exact h0 h
 have hd:=(jff (86::r) (86::r)).resolve_left h0;have hd:hasZ [36,83,43,45] (drZ (86::r))=true∧drZ (86::r)∈86::r:=hd;generalize hg:drZ (86::r)=dr at*
 have hne:((86:Int)==dr)=false:=by
  cases e:((86:Int)==dr)with
  | false=>rfl
  | true=>rw[←eq_of_beq e]at hd;exact absurd hd.1 (by decide)
 have hs:hasZ [36,83,43,45] 86=false:=by decide
 rw[df1,hne,cond_false,hs,Bool.false_and,cond_false]at h1 h2
 have hm:dr∈r:=by
  rcases List.mem_cons.1 hd.2 with rfl | h
  ·simp at hne
  ·exact h
 obtain⟨g1,g2⟩:=jky (86::r) dr r (0+1) (-1) (-1) (by omega) (by omega) h1 (.inl hm);generalize (df1 (86::r) dr r (0+1) (-1) (-1)).2.2=l at*;generalize (df1 (86::r) dr r (0+1) (-1) (-1)).2.1=f at*;obtain⟨k,hk⟩:∃k,l.toNat=k+1:=⟨l.toNat-1,by omega⟩
 rw[hk,List.take_succ_cons,d2Go,jaa (show 0<f by omega)]at h2;simp at h2
def nv(l:List Int):Nat:=(l.filter (· !=118)).length
theorem jdq(m:Int)(r:List Int):nv (m::r)=(if m=118 then 0 else 1)+nv r:=by
 unfold nv;by_cases h:m=118
 ·simp[h]
 ·simp[h];omega
theorem nv_app(a b:List Int):nv (a++b)=nv a+nv b:=by simp[nv]
theorem jj8:∀(ms ds:List Int)(o:Int),o≤jdi ms ds o∧jdi ms ds o≤o+nv ms
 | [],ds,o=>by simp[jdi,nv]
 | m::r,ds,o=>by
  rw[jdi,jdq];cases h:((m==118 || m==100) || (m==99&&ds.headD 0 !=48))with
  | true=>rw[cond_true];split<;>omega
  | false=>
   rw[cond_false];have:=jj8 r (bif m==99 then ds.tail else ds) (o+1);have hm:m≠118:=by rintro rfl;simp at h
   rw[if_neg hm];omega
theorem jfy(le fill dr:Int)(neg:Bool):∀(ms sp ds:List Int)(o:Int),(fdGo le fill dr neg ms sp ds o).length=nv ms
 | [],_,_,_=>rfl
 | m::r,sp,ds,o=>by
  rw[fdGo,jdq];cases h1:(m==100)with
  | true=>
   have:=eq_of_beq h1;subst this;rw[cond_true,List.length_cons,jfy,if_neg (by decide)];omega
  | false=>
   cases h2:(m==99)with
   | true=>
    have:=eq_of_beq h2;subst this;rw[cond_false,cond_true,List.length_cons,jfy,if_neg (by decide)];omega
   | false=>
    cases h3:(m==105)with
    | true=>
     have:=eq_of_beq h3;subst this;rw[cond_false,cond_false,cond_true,List.length_cons,jfy,if_neg (by decide)];omega
    | false=>
     cases h4:(m !=118)with
     | true=>
      have h4:m≠118:=by simpa using h4
      rw[cond_false,cond_false,cond_false,cond_true,List.length_cons,jfy,if_neg h4];omega
     | false=>
      have h4:m=118:=by simpa using h4
      rw[cond_false,cond_false,cond_false,cond_false,jfy,if_pos h4];omega
theorem jj2{dr:Int}(hd:dr=0∨hasZ [36,83,43,45] dr=true)(seen:Bool)(c:Int):mk1 dr seen c=118↔c=86:=by
 constructor
 ·intro h;unfold mk1 at h;cases h1:hasZ [57,89,84,73,82] c with
  | true=>rw[h1]at h;cases h
  | false=>
   rw[h1,cond_false]at h;cases h2:(hasZ [90,42] c || (dr !=0&& (c==dr&&seen)))with
   | true=>rw[h2]at h;cases h
   | false=>
    rw[h2,cond_false]at h;cases h3:(c==86)with
    | true=>exact eq_of_beq h3
    | false=>
     rw[h3,cond_false]at h;cases h4:(c==36) <;>cases h5:hasZ [83,43,45] c<;>rw[h4,h5]at h<;>exact absurd h (by decide)
 ·rintro rfl;unfold mk1;have h1:hasZ [57,89,84,73,82] 86=false:=by decide
  have h2:hasZ [90,42] 86=false:=by decide
  have h3:((86:Int)==dr)=false:=by
   cases e:((86:Int)==dr)with
   | false=>rfl
   | true=>
    rw[←eq_of_beq e]at hd;rcases hd with hd | hd
    ·cases hd
    ·exact absurd hd (by decide)
  rw[h1,h2,h3];simp
theorem mk_nv{dr:Int}(hd:dr=0∨hasZ [36,83,43,45] dr=true):∀(l:List Int)(seen:Bool),nv (mkGo dr seen l)+cntZ l 86=l.length
 | [],_=>rfl
 | c::r,seen=>by
  have:=mk_nv hd r (seen || (dr !=0&&c==dr));rw[mkGo,jdq,List.length_cons]
  have hc:cntZ (c::r) 86=(if c=86 then 1 else 0)+cntZ r 86:=by
   unfold cntZ;by_cases h:c=86
   ·simp[h];omega
   ·simp[h]
  rw[hc];have hm:=jj2 hd seen c;by_cases h:c=86
  ·rw[if_pos h,if_pos (hm.2 h)];omega
  ·rw[if_neg h,if_neg fun e=>h (hm.1 e)];omega
theorem jhb(s:List Int):nv (jar s)+cntZ s 86=s.length:=by
 obtain⟨t,h,ht⟩:=jd6 s;have h1:=mk_nv (dr:=drZ (jal s)) ((jff _ _).imp id And.left) (jal s) false;unfold jar;rw[nv_app]
 have e:cntZ s 86=cntZ (jal s) 86+cntZ t 86:=by
  conv=>lhs;rw[h]
  exact jk2 ..
 have el:s.length=(jal s).length+t.length:=by
  conv=>lhs;rw[h]
  simp
 rcases ht with⟨rfl,hc⟩ | ⟨rfl | rfl,hc⟩
 ·rw[if_neg (by simp[hc])];have:cntZ [] 86=0:=rfl;have:nv []=0:=rfl;simp only[List.length_nil]at el;omega
 ·rw[if_pos hc];have:cntZ [67,82] 86=0:=by decide
  have:nv [115,115]=2:=by decide
  simp only[List.length_cons,List.length_nil]at el;omega
 ·rw[if_pos hc];have:cntZ [68,66] 86=0:=by decide
  have:nv [115,115]=2:=by decide
  simp only[List.length_cons,List.length_nil]at el;omega
theorem field_ok{s:List Int}(h:NumP s)(k:Nat)(n:Int):fdOK s ((s.length:Int)-cntZ s 86) k n=true:=by
 have hnv:=jhb s;have hw:(s.length:Int)-cntZ s 86=nv (jar s):=by omega
 rw[hw];unfold fdOK;cases hb:fdBl s (nv (jar s)) k n with
 | true=>rfl
 | false=>
  rw[Bool.false_or];cases h0:(fdDr s==0)with
  | true=>rfl
  | false=>
   rw[Bool.false_or,jae,jej,jfy];have h0:fdDr s≠0:=by simpa using h0
   unfold fdDr at h0;cases hq:(!hasZ s 90&& (!hasZ s 42&&hasZ (jar s) 99))with
   | false=>rw[hq]at h0;exact absurd rfl h0
   | true=>
    rw[hq,cond_true]at h0;simp only[jaf,Bool.not_eq_true']at hq;obtain⟨q1,q2,q3⟩:=hq;rw[dr_body]at h0;obtain⟨t,ht,ht2⟩:=jd6 s;have htm:(if crZ s=true then([115,115]:List Int)else [])=[]∨(if crZ s=true then([115,115]:List Int)else [])=[115,115]:=by split<;>simp
    have hld:=h.ld;have hdr:=h.dr;have hms:jar s=mkGo (drZ (jal s)) false (jal s)++(if crZ s=true then [115,115]else []):=rfl;generalize (if crZ s=true then([115,115]:List Int)else [])=tm at*
    have h99:99∈mkGo (drZ (jal s)) false (jal s):=by
     have:=jbc.1 q3;rw[hms,List.mem_append]at this;rcases this with h | h
     ·exact h
     ·rcases htm with rfl | rfl
      ·cases h
      ·exact absurd h (by decide)
    have hz:∀c∈jal s,hasZ [90,42] c=false:=by
     intro c hc;have hcs:c∈s:=by rw[ht];exact List.mem_append_left _ hc
     cases e:hasZ [90,42] c with
     | false=>rfl
     | true=>
      have:=jbc.1 e;rcases List.mem_cons.1 this with rfl | this
      ·rw[jbc.2 hcs]at q1;cases q1
      ·rcases List.mem_cons.1 this with rfl | this
       ·rw[jbc.2 hcs]at q2;cases q2
       ·cases this
    cases hbs:jal s with
    | nil=>rw[hbs]at h0;exact absurd rfl h0
    | cons c r=>
     rw[hbs]at h0 hms h99 hz hld hdr;have hv:=drifts_head hdr h0;have hsg:=(jff (c::r) (c::r)).resolve_left h0;have hsg:hasZ [36,83,43,45] (drZ (c::r))=true:=hsg.1;generalize drZ (c::r)=dr at*;rw[mkGo]at h99 hms hld;have hcz:=hz c (List.mem_cons_self ..);have h118:mk1 dr false c≠118:=fun e=>hv ((jj2 (.inr hsg) false c).1 e)
     have hn99:mk1 dr false c≠99:=by
      unfold mk1;rw[hcz];cases hasZ [57,89,84,73,82] c with
      | true=>rw[cond_true];decide
      | false=>cases dr !=0<;>cases c==dr<;>cases c==86<;>cases c==36<;>cases hasZ [83,43,45] c<;>decide
     have h99r:99∈mkGo dr (false || (dr !=0&&c==dr)) r:=by
      rcases List.mem_cons.1 h99 with e | e
      ·exact absurd e.symm hn99
      ·exact e
     have hn100:mk1 dr false c≠100:=by
      intro e;rw[e]at hld;generalize mkGo dr (false || (dr !=0&&c==dr)) r=R at*
      have key:(ldGo (100::R) false false false 0).1=false:=by
       rw[ldGo];exact jgr R false false (0+1) h99r
      unfold jdk at hld;rw[key]at hld;simp at hld
     have hm0:∀ds:List Int,((mk1 dr false c==118 || mk1 dr false c==100) || (mk1 dr false c==99&&ds.headD 0 !=48))=false:=by
      intro ds;simp[h118,hn100,hn99]
     have hnv1:1≤nv (jar s):=by
      rw[hms,List.cons_append,jdq,if_neg h118];omega
     unfold fdLe endZ;rw[q3,Bool.not_true,cond_false];cases(!hasZ (jar s) 100&&decide (digZ n.natAbs k=rep1 48 k))with
     | true=>rw[cond_true];omega
     | false=>
      rw[cond_false];have g1:=jj8 (jar s) (digZ n.natAbs k) 0;refine⟨?_,by omega⟩;rw[hms,List.cons_append,jdi,hm0,cond_false];have:=(jj8 (mkGo dr (false || (dr !=0&&c==dr)) r++tm) (bif mk1 dr false c==99 then(digZ n.natAbs k).tail else digZ n.natAbs k) (0+1)).1;omega
theorem jhu{l:List Int}(hl:IsB (pS l)∧(pS l).length≤32)(h:pN l=true)(n:Int):IsB (pS l)∧(pS l).length≤32∧pdGo (jar (pS l))=pD l∧0≤pW l∧pW l≤32∧fdOK (pS l) (pW l) (pD l).toNat n=true:=by
 have hv:=jdc h;have hnp:=jgz h;have hS:pS l=exZ l:=by rw[pS,if_pos hv]
 have hW:pW l=(exZ l).length-cntZ (exZ l) 86:=by rw[pW,if_pos hv,hnp.nch];rfl
 have hD:pD l=pdGo (jar (exZ l)):=by rw[pD,if_pos h]
 obtain⟨g1,g2⟩:=hl;have hc:=jiq (exZ l) 86;rw[hS]at g1 g2 ⊢;rw[hW];exact⟨g1,g2,hD.symm,by omega,by omega,field_ok hnp _ _⟩
def G12:Env:=(((Env.nil.add 209 (sp1 s29)).add 201 (sp1 s69)).add 143 (sp1 s30)).add 210 (sp2 s66)
theorem ok_G12:jax Tryz.prog G12:=jaj (jaj (jaj (jaj jao ok29) ok69) ok30) ok66
def edE(l:List Int)(q:Int):Int:=if pN l=true then(if 0≤q∧q≤9 then 0 else 1)else 30
def edS(l:List Int)(n q:Int):List Int:=if pN l=true∧0≤q∧q≤9 then jdp (pS l) (pW l) (pD l).toNat (cuN n q (pQ l) (pD l) (pG l))else []
def edF(l:List Int)(n q:Int):Bool:=if pN l=true∧0≤q∧q≤9 then cuF n q (pQ l) (pD l) (pG l)else false
def rdD(c:Int):Int:=bif unK c then unD c else bif decide (c≥48) &&decide (c≤57)then c-48 else 0
def rdGo:List Int→List Int→Int→Int
 | [],_,a=>a
 | m::r,s,a=>bif m==118 then rdGo r s a else rdGo r s.tail (bif m==100 || m==99 then a*10+rdD (s.headD 0)else a)
theorem rd_rng(c:Int):0≤rdD c∧rdD c≤9:=by
 unfold rdD;cases h:unK c with
 | true=>
  have e:unD c=idxZ punchedZ c%10:=by rw[unD,h,if_pos rfl]
  rw[cond_true,e];omega
 | false=>
  rw[cond_false];cases h1:decide (c≥48) <;>cases h2:decide (c≤57) <;>simp at h1 h2<;>simp<;>omega
theorem pu_rng(d:Int)(m:Bool):0≤puZ d m∧puZ d m<256:=by
 unfold puZ;split
 ·have:∀x∈punchedZ,0≤x∧x<256:=by decide
  rw[List.getD_eq_getElem?_getD];cases h:punchedZ[(if m=true then d+10 else d).toNat]? with
  | none=>simp
  | some x=>exact this x (List.mem_of_getElem? h)
 ·simp
theorem hd_isB{l:List Int}(h:IsB l):0≤l.headD 0∧l.headD 0<256:=by
 cases l with
 | nil=>simp
 | cons a r=>exact h a (List.mem_cons_self ..)
theorem jhl{l:List Int}(h:IsB l):IsB l.tail:=fun x hx=>h x (List.mem_of_mem_tail hx)
theorem jhi{a:Int}{l:List Int}(ha:0≤a∧a<256)(h:IsB l):IsB (a::l):=fun x hx=>by
 rcases List.mem_cons.1 hx with rfl | hx
 ·exact ha
 ·exact h x hx
theorem fm_rng{c d:Int}(m:Bool)(h:0≤d∧d<256):0≤fmZ c d m∧fmZ c d m<256:=by
 unfold fmZ;split
 ·omega
 ·split
  ·exact pu_rng _ _
  ·exact h
theorem sg_rng(c:Int)(m:Bool):0≤sgZ c m∧sgZ c m<256:=by
 unfold sgZ;split
 ·omega
 ·split
  ·split<;>omega
  ·split<;>omega
theorem ss_rng{c:Int}(dr:Int)(m:Bool)(h:0≤c∧c<256):0≤ssZ c dr m∧ssZ c dr m<256:=by
 unfold ssZ;have:=sg_rng c m;cases(dr !=0&&c==dr) <;>cases hasZ [67,82,68,66] c<;>cases m<;>simp<;>omega
theorem jio{le fill dr:Int}{neg:Bool}(hf:0≤fill∧fill<256):∀(ms sp ds:List Int)(o:Int),IsB sp→IsB ds→IsB (fdGo le fill dr neg ms sp ds o)
 | [],_,_,_,_,_=>IsB.nil
 | m::r,sp,ds,o,hs,hd=>by
  rw[fdGo];have h1:=hd_isB hs;have h2:=hd_isB hd;cases m==100 with
  | true=>exact jhi (fm_rng _ h2) (jio hf _ _ _ _ (jhl hs) (jhl hd))
  | false=>
   cases m==99 with
   | true=>exact jhi (by cases decide (o<le) <;>simp only[cond_true,cond_false] <;>omega) (jio hf _ _ _ _ (jhl hs) (jhl hd))
   | false=>
    cases m==105 with
    | true=>exact jhi (by cases sp.headD 0==66<;>cases decide (o<le) <;>simp only[cond_true,cond_false] <;>omega) (jio hf _ _ _ _ (jhl hs) hd)
    | false=>
     cases m !=118 with
     | true=>exact jhi (ss_rng _ _ h1) (jio hf _ _ _ _ (jhl hs) hd)
     | false=>exact jio hf _ _ _ _ (jhl hs) hd
theorem fl_rng(sp:List Int):0≤fdFl sp∧fdFl sp<256:=by unfold fdFl;split<;>omega
theorem jgh{sp:List Int}(h:IsB sp)(w:Int)(k:Nat)(n:Int):IsB (jdp sp w k n):=by
 have h1:IsB (jej sp w k n):=jio (fl_rng sp) _ _ _ _ h (jg2 (jd8 _ _));unfold jdp;cases fdBl sp w k n with
 | true=>exact rep_isB _ _ (fl_rng sp)
 | false=>
  cases fdDr sp !=0 with
  | true=>
   intro x hx;rcases List.mem_or_eq_of_mem_set hx with hx | rfl
   ·exact h1 x hx
   ·exact sg_rng _ _
  | false=>exact h1
theorem jgc:∀(ms s:List Int)(a:Int)(k:Nat),0≤a→a<tenZ k→(k:Int)+pdGo ms≤9→0≤rdGo ms s a∧rdGo ms s a<1000000000
 | [],s,a,k,h0,h1,h2=>by
  have:=jiw (n:=k) (by simp only[pdGo]at h2;omega);rw[rdGo];omega
 | m::r,s,a,k,h0,h1,h2=>by
  have nn:=jg7 r;rw[pdGo]at h2;rw[rdGo];cases h:(m==118)with
  | true=>
   have q:isP 118=false:=by decide
   rw[eq_of_beq h,q,cond_false,Int.zero_add]at h2;exact jgc r s a k h0 h1 h2
  | false=>
   rw[cond_false];cases hP:(m==100 || m==99)with
   | true=>
    have hP:isP m=true:=hP;rw[hP,cond_true]at h2;have rr:=rd_rng (s.headD 0);have tp:tenZ (k+1)=tenZ k*10:=by rw[tenZ_add];rfl
    rw[cond_true];exact jgc r _ _ (k+1) (by omega) (by omega) (by omega)
   | false=>
    have hP:isP m=false:=hP;rw[hP,cond_false,Int.zero_add]at h2;exact jgc r _ a k h0 h1 h2
def rdA(l t:List Int):Int:=rdGo (jar (pS l)) t 0
def fdN(l:List Int)(n:Int):List Int:=jdp (pS l) (pW l) (pD l).toNat n
def rdV(l t:List Int):Int×Int:=if pN l=true then(if(t.length:Int)=pW l then(if fdN l (rdA l t)=t then(rdA l t,0)else if pG l=true∧rdA l t>0∧fdN l (0-rdA l t)=t then(0-rdA l t,0)else(0,31))else(0,31))else(0,30)
theorem pN_nv{l:List Int}(h:pN l=true):pW l=nv (jar (pS l)):=by
 have h1:=jhb (pS l);have h2:pS l=exZ l:=by rw[pS,if_pos (jdc h)]
 have hW:pW l=(exZ l).length-cntZ (exZ l) 86:=by rw[pW,if_pos (jdc h),(jgz h).nch];rfl
 rw[h2]at h1 ⊢;rw[hW];omega
def onGo:List Int→List Int→Bool
 | _,[]=>true
 | [],_::_=>false
 | c::r,b::s=>oneZ c b&&onGo r s
def hoZ(l t:List Int):Bool:=if vOK l=true then(if pN l=true then decide ((rdV l t).2=0)else(decide ((t.length:Int)=pW l) &&onGo (pS l) t))else false
def zeS(l:List Int):List Int:=if vOK l=true then(if pN l=true then fdN l 0 else rep1 32 (pW l).toNat)else []
theorem pCh{l:List Int}(h:vOK l=true)(hn:pN l=false):pW l=(pS l).length:=by
 have hc:je4 (exZ l)=true:=by
  simp only[vOK,jaf,Bool.or_eq_true]at h;simp only[pN]at hn;rcases h with⟨h1,h2 | h2⟩
  ·exact h2
  ·rw[h1,h2]at hn;cases hn
 rw[pW,pS,if_pos h,if_pos h,hc];rfl
theorem jjz{s:ByteArray}:0≤pW (bz s)∧pW (bz s)≤32:=by
 have:=jlj s;have hc:=jiq (exZ (bz s)) 86;unfold pW;split
 ·split<;>omega
 ·omega
def V23_0:ByteArray×ByteArray×Bool×Int×Int×Int×Bool×Int×ByteArray×Int×Int→List Value:=fun(s,z,zb,z1,z2,z3,zg,a,ms,o,i)=> [S s,.pointer (some ⟨7,0,some 0⟩),I a,S ms,I o,I i]
def B23_0:ByteArray×ByteArray×Bool×Int×Int×Int×Bool×Int×ByteArray×Int×Int→List (Option Blk):=fun(s,z,zb,z1,z2,z3,zg,a,ms,o,i)=> [some ⟨[S z,B zb,I z1,I z2,I z3,B zg],131,true⟩]
def S23_0:LSpec (ByteArray×ByteArray×Bool×Int×Int×Int×Bool×Int×ByteArray×Int×Int) where
 live:=[1,6,8,9,10,11]
 mid:=[7]
 n:=120
 dec vs bs:=match vs,bs with | [.string s,.pointer (some ⟨7,0,some 0⟩),.int .i64 a,.string ms,.int .i64 o,.int .i64 i],[some ⟨[.string z,.bool zb,.int .i64 z1,.int .i64 z2,.int .i64 z3,.bool zg],131,true⟩]=>some (s,z,zb,z1,z2,z3,zg,a,ms,o,i) | _,_=>none
 pre:=fun(s,z,zb,z1,z2,z3,zg,a,ms,o,i)=>decide (0≤i∧i≤ms.size∧ms.size≤1000∧0≤o∧o+nv ((bz ms).drop i.toNat)≤s.size∧s.size≤1000∧0≤a∧pdGo ((bz ms).drop i.toNat)≤9∧a<tenZ (9-pdGo ((bz ms).drop i.toNat)).toNat)
 fin:=fun(s,z,zb,z1,z2,z3,zg,a,ms,o,i) Z=>∀o',Z (.exit 0) [S s,.pointer (some ⟨7,0,some 0⟩),I (rdGo ((bz ms).drop i.toNat) ((bz s).drop o.toNat) a),S ms,I o',I ms.size] [some ⟨[S z,B zb,I z1,I z2,I z3,B zg],131,true⟩]
theorem r23_0(s:ByteArray)(z:ByteArray)(zb:Bool)(z1:Int)(z2:Int)(z3:Int)(zg:Bool)(a:Int)(ms:ByteArray)(o:Int)(i:Int)(jk:Tmps)(R:Exit→List Value→List (Option Blk)→Prop):(jbs Tryz.prog G12 noL Tryz.f149.ntmps (ja7 Tryz.f149 0) (tl S23_0.live (V23_0 (s,z,zb,z1,z2,z3,zg,a,ms,o,i)) jk) (ml S23_0.mid (B23_0 (s,z,zb,z1,z2,z3,zg,a,ms,o,i))) S23_0.n fun e t' m' _=>R e (List.map t' S23_0.live) (List.map m' S23_0.mid))=(qc5 (qal ms i) (qa9 ms i 118) ms R i [qaj zb zg z z1 z2 z3] (qbk a::S ms::qap o i) 0 (R .normal (S s::qab 7::qbk a::S ms::qag o i) [qaj zb zg z z1 z2 z3]) (qhh (qal ms i) (qa9 ms i 100 || qal ms i&&true) (qa9 ms i 100 || qa9 ms i 99) (qgg (unK (qe9 s o)) s o (R .normal [S s,qab 7,qfx (IntKind.i64.wrap (a*10)+unD (qe9 s o)),S ms,qbw o,qbw i] [qaj zb zg z z1 z2 z3]) (bif qf2 (decide (qe9 s o≥48)) true s s o o then bif qa2 (qe9 s o) 48 57 then qca (qal s o) R [qaj zb zg z z1 z2 z3] [S s,qab 7,I (qbr a 10 (qe9 s o) .u8),S ms,qbw o,qbw i]else R .normal [S s,qab 7,qfx (a*10),S ms,qbw o,qbw i] [qaj zb zg z z1 z2 z3]else False)) (R .normal [S s,qab 7,qbk a,S ms,qbw o,qbw i] [qaj zb zg z z1 z2 z3])) (S s) (qab 7)):=by kernel_rfl
theorem l23_0:LOKf Tryz.prog (oneL 0 S23_0.h) Tryz.f149:=by
 refine jbn (h:=S23_0.h) (by kernel_rfl) (jbk ok_G12 hmix (by kernel_rfl) (ja6 _) S23_0 V23_0 B23_0 (fun(s,z,zb,z1,z2,z3,zg,a,ms,o,i)=>(ms.size-i).toNat) ?_ ?_ ?_)
 ·intro vs bs s h;simp only[S23_0]at h;split at h
  all_goals first | (cases h;exact⟨rfl,rfl⟩) | cases h
 ·exact fun _ _ _ h=>h
 ·intro⟨s,z,zb,z1,z2,z3,zg,a,ms,o,i⟩ jk Z hp hf;rw[r23_0];delta qf8 qfq qcr qc5 qbp qab qhh qbk qaj qaw qbw qal qgg qfx qca qho qbr qe9 qa2 qg7 qf2 qa9 qag qap;simp only[S23_0]at hp hf;simp only[jae]at hp;apply cond_intro<;>intro h
  ·have h:=jab h;obtain⟨hi0,p2,p3,p4,p5,p6,p7,p8,p9⟩:=hp;have g1:decide (0≤i∧i<(ms.size:Int))=true:=jaa (by omega);rw[jb7 hi0 h,jdq]at p5;rw[jb7 hi0 h,pdGo]at p8 p9;rw[jb7 hi0 h,rdGo]at hf;have nn:=jg7 ((bz ms).drop (i+1).toNat);have eo:o.toNat+1=(o+1).toNat:=by omega
   have fin:∀(o2 a2:Int),0≤o2→o2+nv ((bz ms).drop (i+1).toNat)≤s.size→0≤a2→a2<tenZ (9-pdGo ((bz ms).drop (i+1).toNat)).toNat→pdGo ((bz ms).drop (i+1).toNat)≤9→
     (∀o':Int,Z (.exit 0) [S s,.pointer (some ⟨7,0,some 0⟩),I (rdGo ((bz ms).drop (i+1).toNat) ((bz s).drop o2.toNat) a2),S ms,I o',I ms.size] [some ⟨[S z,B zb,I z1,I z2,I z3,B zg],131,true⟩])→
     S23_0.step V23_0 B23_0 (fun(s,z,zb,z1,z2,z3,zg,a,ms,o,i)=>(ms.size-i).toNat) (s,z,zb,z1,z2,z3,zg,a,ms,o,i) Z Exit.normal
      [S s,.pointer (some ⟨7,0,some 0⟩),I a2,S ms,I o2,I (IntKind.wrap .i64 (i+1))] [some ⟨[S z,B zb,I z1,I z2,I z3,B zg],131,true⟩]:=by
    intro o2 a2 q1 q2 q3 q4 q5 q6;rw[w64 (n:=i+1) (by omega)];exact⟨(s,z,zb,z1,z2,z3,zg,a2,ms,o2,i+1),rfl,rfl,by simp only[S23_0,jae];exact⟨by omega,by omega,p3,q1,q2,p6,q3,q5,q4⟩,by simp only;omega,q6⟩
   refine c_t g1 (cond_intro (fun b=> ?_) (fun b=>c_t (by rw[g1];cases jak ms i.toNat==100<;>rfl) ?_))
   ·have q:isP 118=false:=by decide
    rw[b,cond_true]at hf;rw[eq_of_beq b]at p5 p8 p9;rw[if_pos rfl]at p5;rw[q,cond_false,Int.zero_add]at p8 p9;exact fin o a p4 (by omega) p7 p9 p8 hf
   ·have hne:jak ms i.toNat≠118:=by simpa using b
    rw[b,cond_false,List.tail_drop,eo]at hf;rw[if_neg hne]at p5;have o1:o<s.size:=by omega
    have g3:decide (0≤o∧o<(s.size:Int))=true:=jaa (by omega);rw[w64 (n:=o+1) (by omega)];refine cond_intro (fun c=>c_t g3 ?_) (fun c=> ?_)
    ·have hP:isP (jak ms i.toNat)=true:=c;rw[hP,cond_true]at p8 p9;rw[c,cond_true,jb7 p4 o1,List.headD_cons]at hf;have rr:=rd_rng (jak s o.toNat)
     have tp:tenZ (9-pdGo ((bz ms).drop (i+1).toNat)).toNat=tenZ (9-(1+pdGo ((bz ms).drop (i+1).toNat))).toNat*10:=by
      rw[show(9-pdGo ((bz ms).drop (i+1).toNat)).toNat=(9-(1+pdGo ((bz ms).drop (i+1).toNat))).toNat+1 by omega,tenZ_add];rfl
     have t9:=jiw (n:=(9-(1+pdGo ((bz ms).drop (i+1).toNat))).toNat) (by omega);have F:=fin (o+1) (a*10+rdD (jak s o.toNat)) (by omega) (by omega) (by omega) (by omega) (by omega) hf;rw[w64 (n:=a*10) (by omega)];refine cond_intro (fun d=> ?_) (fun d=>c_t (by rw[g3];cases decide (jak s o.toNat≥48) <;>rfl) (cond_intro (fun e=>c_t g3 ?_) (fun e=> ?_)))
     ·have er:rdD (jak s o.toNat)=unD (jak s o.toNat):=by rw[rdD,d,cond_true]
      rw[er]at F rr;rw[w64 (by omega)];exact F
     ·have er:rdD (jak s o.toNat)=jak s o.toNat-48:=by rw[rdD,d,cond_false,e,cond_true]
      rw[er]at F rr;rw[w8 (by omega),w64 (n:=jak s o.toNat-48) (by omega),w64 (by omega)];exact F
     ·have er:rdD (jak s o.toNat)=0:=by rw[rdD,d,cond_false,e,cond_false]
      rw[er,Int.add_zero]at F;exact F
    ·have hP:isP (jak ms i.toNat)=false:=c;rw[hP,cond_false,Int.zero_add]at p8 p9;rw[c,cond_false]at hf;exact fin (o+1) a (by omega) (by omega) p7 p9 p8 hf
  ·have h:=jac h;rw[jcp (s:=ms) (by omega),rdGo]at hf;obtain rfl:i=ms.size:=by omega
   exact hf _
def s23(s:ByteArray)(t:ByteArray):Bool×Value:=(decide (s.size≤9223372036854775807∧t.size≤9223372036854775807),.tuple ⟨[.int .i64 (rdV (bz s) (bz t)).1,.int .i64 (rdV (bz s) (bz t)).2]⟩)
theorem fn23:Fn1 Tryz.prog 149 Tryz.f149:= .m Tryz.func149
def qf3(a:ByteArray):ByteArray:=sz (pS (bz a))
def qce(a b:ByteArray):Int:=rdGo (qc8 (sz (jar (bz (qf3 a)))) 0) (qa5 b) 0
def qeg(a:ByteArray)(b:Int):Bool:=decide ((qf3 a).size≤900∧0≤pD (bz a)∧pD (bz a)≤900∧pdGo (jar (bz (qf3 a)))≤pD (bz a)∧0≤pW (bz a)∧pW (bz a)≤900∧ -(9223372036854775808:Int)≤b∧b≤9223372036854775807∧fdOK (bz (qf3 a)) (pW (bz a)) (pD (bz a)).toNat b=true)
def qf9(a:Int):Value:= .tuple ⟨[qbk 0,qbk a]⟩
theorem v23(s:ByteArray)(t:ByteArray)(R:Value→Prop):ja1 Tryz.prog G12 (oneL 0 S23_0.h) Tryz.f149 [Enc.enc s,Enc.enc t] (fun _=>none) 0 (fun v _ _=>R v)=(bif qbl s then qdn (pE (bz s) !=0) true (pE (bz s) !=0 || !pN (bz s)) (R (qf9 30)) (bif qfq t !=pW (bz s)then R (qf9 31)else bif qbz (qf3 s)then qhm (S23_0.pre (t,(qf3 s,(pN (bz s),(pW (bz s),(pD (bz s),(pQ (bz s),(pG (bz s),((0:Int),(sz (jar (bz (qf3 s))),((0:Int),(0:Int)))))))))))) (qhp (qeg s (qce s t)) (bif qbo (sz (jdp (bz (qf3 s)) (pW (bz s)) (pD (bz s)).toNat (qce s t))) t then R (qgy [I (qce s t),qbk 0])else qhe (pG (bz s)) (bif decide (qce s t>0)then qeg s (qc0 0 (qce s t)) &&true else true) true (pG (bz s) && (decide (qce s t>0) &&qbo (sz (jdp (bz (qf3 s)) (pW (bz s)) (pD (bz s)).toNat (qc0 0 (qce s t)))) t)) (qau [] (I (qc0 0 (qce s t))) (qbk 0) R) (qau [] (qbk 0) (qbk 31) R)) False) Int else False)else False):=by kernel_rfl
theorem ok23:jan Tryz.prog 149 (sp2 s23):=by
 refine jc5 ok_G12 hmix fn23 l23_0 jag fun s t hc=> ?_
 rw[ja2,v23];delta qdn qhm qhp qg7 qhe qgy qau qbk qc0 qa5 qc8 qf3 qce qbo qeg qbz qf9 qfq qbl;have hc:(s.size≤9223372036854775807∧t.size≤9223372036854775807):=jab hc
 try dsimp only[s23]
 rw[pE_ne,pN_or];refine c_t (jaa hc.1) (c_t (by simp) (cond_intro (fun h=> ?_) (fun h=> ?_)))
 ·have h:pN (bz s)=false:=by simpa using h
  simp[rdV,h]
 have h:pN (bz s)=true:=by simpa using h
 have hd:=jd4 h;have hnv:=pN_nv h;apply cond_intro<;>intro h2
 ·have h2:¬(t.size:Int)=pW (bz s):=by simpa using h2
  simp[rdV,h,h2,jap]
 have h2:(t.size:Int)=pW (bz s):=by simpa using h2
 obtain⟨g1,g2,g3,g4,g5,g6⟩:=jhu (jed s) h (rdA (bz s) (bz t));obtain⟨-,-,-,-,-,g7⟩:=jhu (jed s) h (0-rdA (bz s) (bz t));have hmB:=je9 (pS (bz s));have hml:=jeg (pS (bz s));have hr:0≤rdA (bz s) (bz t)∧rdA (bz s) (bz t)<1000000000:=jgc _ _ 0 0 (by omega) (by decide) (by omega);have er:rdGo (jar (pS (bz s))) (bz t) 0=rdA (bz s) (bz t):=rfl;rw[jc6 g1,jcm,jc6 hmB,jdm,jdm,er,w64 (n:=0-rdA (bz s) (bz t)) (by omega),jch,jch,jc6 (jgh g1 _ _ _),jc6 (jgh g1 _ _ _)];have eF:∀n,jdp (pS (bz s)) (pW (bz s)) (pD (bz s)).toNat n=fdN (bz s) n:=fun _=>rfl
 rw[eF,eF]
 have e1:rdV (bz s) (bz t)=if fdN (bz s) (rdA (bz s) (bz t))=bz t then(rdA (bz s) (bz t),0)else if pG (bz s)=true∧rdA (bz s) (bz t)>0∧fdN (bz s) (0-rdA (bz s) (bz t))=bz t then(0-rdA (bz s) (bz t),0)else(0,31):=by
  rw[rdV,if_pos h,if_pos (by rw[jap];exact h2)]
 refine c_t (jaa (by omega)) (c_t ?_ (fun o' _=>c_t (jaa ⟨by omega,by omega,by omega,by omega,by omega,by omega,by omega,by omega,g6⟩) (cond_intro (fun a=> ?_) (fun a=>c_t ?_ (cond_intro (fun b=> ?_) (fun b=> ?_))))))
 ·simp only[S23_0,jae,jcm,jc6 hmB,Int.toNat_zero,List.drop_zero];refine⟨by omega,by omega,by omega,by omega,by omega,by omega,by omega,by omega,?_⟩;have:=tenZ_le (n:=(9-pdGo (jar (pS (bz s)))).toNat) (by omega);omega
 ·rw[e1,if_pos (jab a)]
 ·cases pG (bz s)with
  | false=>rfl
  | true=>
   cases decide (rdA (bz s) (bz t)>0)with
   | false=>rfl
   | true=>
    show(decide _&&true)=true;rw[Bool.and_true];exact jaa ⟨by omega,by omega,by omega,by omega,by omega,by omega,by omega,by omega,g7⟩
 ·simp only[jaf,jae]at b;rw[e1,if_neg (jac a),if_pos b]
 ·have b:¬(pG (bz s)=true∧rdA (bz s) (bz t)>0∧fdN (bz s) (0-rdA (bz s) (bz t))=bz t):=by
   rintro ⟨b1,b2,b3⟩;rw[b1,jaa b2,jaa b3]at b;cases b
  rw[e1,if_neg (jac a),if_neg b]
def G13:Env:=((Env.nil.add 150 (sp2 s72)).add 143 (sp1 s30)).add 149 (sp2 s23)
theorem ok_G13:jax Tryz.prog G13:=jaj (jaj (jaj jao ok72) ok30) ok23
def V25_0:Bool×ByteArray×ByteArray×Bool×Int×Int×Int×Bool×Int→List Value:=fun(r,t,z,zb,z1,z2,z3,zg,i)=> [B r,S t,.pointer (some ⟨6,0,some 0⟩),I i]
def B25_0:Bool×ByteArray×ByteArray×Bool×Int×Int×Int×Bool×Int→List (Option Blk):=fun(r,t,z,zb,z1,z2,z3,zg,i)=> [some ⟨[S z,B zb,I z1,I z2,I z3,B zg],131,true⟩]
def S25_0:LSpec (Bool×ByteArray×ByteArray×Bool×Int×Int×Int×Bool×Int) where
 live:=[4,1,5,7]
 mid:=[6]
 n:=120
 dec vs bs:=match vs,bs with | [.bool r,.string t,.pointer (some ⟨6,0,some 0⟩),.int .i64 i],[some ⟨[.string z,.bool zb,.int .i64 z1,.int .i64 z2,.int .i64 z3,.bool zg],131,true⟩]=>some (r,t,z,zb,z1,z2,z3,zg,i) | _,_=>none
 pre:=fun(r,t,z,zb,z1,z2,z3,zg,i)=>decide (0≤i∧i≤t.size∧t.size=z.size∧t.size≤1000)
 fin:=fun(r,t,z,zb,z1,z2,z3,zg,i) Z=>(bif onGo ((bz z).drop i.toNat) ((bz t).drop i.toNat)then Z (.exit 0) [B r,S t,.pointer (some ⟨6,0,some 0⟩),I t.size] [some ⟨[S z,B zb,I z1,I z2,I z3,B zg],131,true⟩]else(∀i',Z .ret [B false,S t,.pointer (some ⟨6,0,some 0⟩),I i'] [some ⟨[S z,B zb,I z1,I z2,I z3,B zg],131,true⟩]))
theorem r25_0(r:Bool)(t:ByteArray)(z:ByteArray)(zb:Bool)(z1:Int)(z2:Int)(z3:Int)(zg:Bool)(i:Int)(jk:Tmps)(R:Exit→List Value→List (Option Blk)→Prop):(jbs Tryz.prog G13 noL Tryz.f75.ntmps (ja7 Tryz.f75 0) (tl S25_0.live (V25_0 (r,t,z,zb,z1,z2,z3,zg,i)) jk) (ml S25_0.mid (B25_0 (r,t,z,zb,z1,z2,z3,zg,i))) S25_0.n fun e t' m' _=>R e (List.map t' S25_0.live) (List.map m' S25_0.mid))=(qc5 (qal z i) (qal t i) t R i [qaj zb zg z z1 z2 z3] [qab 6,qbk i] 0 (qed (!oneZ (qe9 z i) (qe9 t i)) (qe9 t i) 256 (R .ret [B false,S t,qab 6,qbk i] [qaj zb zg z z1 z2 z3]) (R .normal [B r,S t,qab 6,qbw i] [qaj zb zg z z1 z2 z3])) False (B r) (S t)):=by kernel_rfl
theorem l25_0:LOKf Tryz.prog (oneL 0 S25_0.h) Tryz.f75:=by
 refine jbn (h:=S25_0.h) (by kernel_rfl) (jbk ok_G13 hmix (by kernel_rfl) (ja6 _) S25_0 V25_0 B25_0 (fun(r,t,z,zb,z1,z2,z3,zg,i)=>(t.size-i).toNat) ?_ ?_ ?_)
 ·intro vs bs s h;simp only[S25_0]at h;split at h
  all_goals first | (cases h;exact⟨rfl,rfl⟩) | cases h
 ·exact fun _ _ _ h=>h
 ·intro⟨r,t,z,zb,z1,z2,z3,zg,i⟩ jk Z hp hf;rw[r25_0];delta qf8 qfq qcr qc5 qbm qed qbk qaj qaw qbw qbp qab qe9 qal;simp only[S25_0]at hp hf;simp only[jae]at hp;apply cond_intro<;>intro h
  ·have h:=jab h;have hz:i<(z.size:Int):=by omega
   have hb:=jd0 t (jak t i.toNat) (List.mem_of_mem_drop (by rw[jb7 hp.1 h];exact List.mem_cons_self ..));rw[jb7 hp.1 h,jb7 hp.1 hz,onGo]at hf;refine c_t (jaa (by omega)) (c_t (jaa (by omega)) (c_t (jaa hb) (cond_intro (fun a=> ?_) (fun a=> ?_))))
   ·have a:oneZ (jak z i.toNat) (jak t i.toNat)=false:=by simpa using a
    rw[a,Bool.false_and,cond_false]at hf;exact hf _
   ·have a:oneZ (jak z i.toNat) (jak t i.toNat)=true:=by simpa using a
    rw[a,Bool.true_and]at hf;rw[w64 (by omega)];exact⟨(r,t,z,zb,z1,z2,z3,zg,i+1),rfl,rfl,by simp only[S25_0,jae];omega,by simp only;omega,hf⟩
  ·have h:=jac h;rw[jcp (s:=t) (by omega),onGo,cond_true]at hf;obtain rfl:i=t.size:=by omega
   exact hf
def s25(s:ByteArray)(t:ByteArray):Bool×Value:=(decide (s.size≤9223372036854775807∧t.size≤9223372036854775807),.bool (hoZ (bz s) (bz t)))
theorem fn25:Fn1 Tryz.prog 75 Tryz.f75:= .m Tryz.func75
def qb8(c:ByteArray)(a b d:Nat):Bool:=decide (a≤b∧c.size≤d)
def qdt(a b:ByteArray)(d:Int)(c:Value→Prop):Prop:=bif qb8 a b.size 9223372036854775807 9223372036854775807 then c (B (d==0))else False
theorem v25(s:ByteArray)(t:ByteArray)(R:Value→Prop):ja1 Tryz.prog G13 (oneL 0 S25_0.h) Tryz.f75 [Enc.enc s,Enc.enc t] (fun _=>none) 0 (fun v _ _=>R v)=(qe1 (pE (bz s) !=0) s (qgr R) (bif pN (bz s)then qdt t s (rdV (bz s) (bz t)).snd R else bif qfq t !=pW (bz s)then qgr R else qg1 (S25_0.pre (false,(t,(qf3 s,(pN (bz s),(pW (bz s),(pD (bz s),(pQ (bz s),(pG (bz s),(0:Int)))))))))) (onGo (qc8 (qf3 s) 0) (qa5 t)) (Tmps→R (B true)) (qdz R))):=by kernel_rfl
theorem ok25:jan Tryz.prog 75 (sp2 s25):=by
 refine jc5 ok_G13 hmix fn25 l25_0 jag fun s t hc=> ?_
 rw[ja2,v25];delta qbl qe1 qg1 qgr qdz qa5 qc8 qf3 qfq qb8 qdt;have hc:(s.size≤9223372036854775807∧t.size≤9223372036854775807):=jab hc
 try dsimp only[s25]
 obtain⟨g1,g2⟩:=jed s;rw[pE_ne,jc6 g1];refine c_t (jaa hc.1) (cond_intro (fun h=> ?_) (fun h=> ?_))
 ·have h:vOK (bz s)=false:=by simpa using h
  simp[hoZ,h]
 have h:vOK (bz s)=true:=by simpa using h
 refine cond_intro (fun hn=>c_t (jaa hc) ?_) (fun hn=> ?_)
 ·have e:((rdV (bz s) (bz t)).2==0)=decide ((rdV (bz s) (bz t)).2=0):=by rw[Bool.eq_iff_iff];simp
  rw[e];simp[hoZ,h,hn]
 have hw:=pCh h hn;apply cond_intro<;>intro a
 ·have a:¬(t.size:Int)=pW (bz s):=by simpa using a
  simp[hoZ,h,hn,jap,a]
 have a:(t.size:Int)=pW (bz s):=by simpa using a
 refine c_t ?_ (cond_intro (fun b _=> ?_) (fun b _ _=> ?_))
 ·simp only[S25_0,jae,jcm];omega
 ·rw[jdm,jdm]at b;simp[hoZ,h,hn,jap,a,b]
 ·rw[jdm,jdm]at b;simp[hoZ,h,hn,jap,a,b]
end Go.Px
end
noncomputable section
namespace Go.Px
open Go Go.Ab Go.Proofs
inductive Rw where
 | nil
 | own (d:List Value) (m cap:Nat)
def Rw.v(q:Nat):Rw→Value
 | .nil=> .slice none 0 0
 | .own _ m cap=> .slice (some ⟨q,0,some 1⟩) m cap
def Rw.b:Rw→Option Blk
 | .nil=>none
 | .own d _ _=>some ⟨d,5,true⟩
def Rw.z:Rw→List Int
 | .nil=> []
 | .own d m _=>zc d m
def Rw.ok:Rw→Bool
 | .nil=>true
 | .own d m cap=>jci d m cap
def Rw.is:Rw→Bool
 | .nil=>false
 | .own _ _ _=>true
def G15:Env:=Env.nil
theorem ok_G15:jax Tryz.prog G15:=jao
theorem w32{n:Int}(h: -2147483648≤n∧n≤2147483647):IntKind.wrap .i32 n=n:=by
 rw[IntKind.wrap_i32];omega
def rpZ(n c:Int):Int×Bool:=if c<48∨c>57∨(n=0∧c=48)then(0,false)else(10*n+(c-48),decide (10*n+(c-48)≤32))
def s113(n:Int)(c:R32):Bool×Value:=(decide (0≤n∧n≤32∧0≤c.n∧c.n≤2147483647),.tuple ⟨[.int .i64 (rpZ n c.n).1,.bool (rpZ n c.n).2]⟩)
theorem fn113:Fn1 Tryz.prog 234 Tryz.f234:= .m Tryz.func234
theorem v113(n:Int)(c:R32)(R:Value→Prop):ja1 Tryz.prog G15 noL Tryz.f234 [Enc.enc n,Enc.enc c] (fun _=>none) 0 (fun v _ _=>R v)=(qcf (qfu (R32.n c) 48 || (decide (R32.n c>57) || (n==0 || true))) (qfu (R32.n c) 48 || (decide (R32.n c>57) || n==0&&R32.n c==48)) (qgy (qbk 0::qfz)) (qgy [I (qbr 10 n (R32.n c) .i32),B (decide (qbr 10 n (R32.n c) .i32≤32))]) R):=by kernel_rfl
theorem ok113:jan Tryz.prog 234 (sp2 s113):=by
 refine jc5 ok_G15 hmix fn113 jai jag fun n c hc=> ?_
 rw[ja2,v113];delta qcf qgy qho qbr qfz qbk qfu;have hc:(0≤n∧n≤32∧0≤c.n∧c.n≤2147483647):=jab hc
 try dsimp only[s113]
 obtain⟨c⟩:=c;simp only at hc ⊢;refine c_t (by simp) (cond_intro (fun h=> ?_) (fun h=> ?_))
 ·have h:c<48∨c>57∨(n=0∧c=48):=by simpa using h
  simp[rpZ,h]
 ·have h:¬(c<48∨c>57∨(n=0∧c=48)):=by
   intro q;have:(decide (c<48) || (decide (c>57) || n==0&&c==48))=true:=by simpa using q
   rw[this]at h;cases h
  rw[w64 (n:=10*n) (by omega),w32 (n:=c-48) (by omega),w64 (n:=c-48) (by omega),w64 (by omega)];simp[rpZ,h]
def G16:Env:=Env.nil.add 272 (sp2 s141)
theorem ok_G16:jax Tryz.prog G16:=jaj jao ok141
def V114_0:Blk×Int×Int×Rw×Int→List Value:=fun(b,c,n,o,i)=> [o.v 400,.int .i32 c,I n,I i]
def B114_0:Blk×Int×Int×Rw×Int→List (Option Blk):=fun(b,c,n,o,i)=> [some b,o.b]
def S114_0:LSpecA (Blk×Int×Int×Rw×Int) where
 live:=[0,1,31,32]
 mid:=[7,400]
 n:=420
 ap:=[(.tmp 0,400)]
 dec vs bs:=match vs,bs with
  | [.slice none 0 0,.int .i32 c,.int .i64 n,.int .i64 i],[some b,none]=>some (b,c,n,.nil,i)
  | [.slice (some ⟨400,0,some 1⟩) m cap,.int .i32 c,.int .i64 n,.int .i64 i],[some b,some ⟨d,5,true⟩]=>some (b,c,n,.own d m cap,i)
  | _,_=>none
 pre:=fun(b,c,n,o,i)=>o.ok&& ((o.is || decide (i<n)) && (ja4 b.c&&decide (0≤i∧i≤n∧n≤32∧0≤c∧c<128∧o.z.length+(n-i).toNat≤1000)))
 fin:=fun(b,c,n,o,i) Z=>∀d' m' cap',jci d' m' cap'=true→zc d' m'=o.z++rep1 c (n-i).toNat→Z (.exit 0) [.slice (some ⟨400,0,some 1⟩) m' cap',.int .i32 c,I n,I n] [some b,some ⟨d',5,true⟩]
def qhf:Value:= .slice none 0 0
theorem r114_0n(b:Blk)(c:Int)(n:Int)(i:Int)(jk:Tmps)(R:Exit→List Value→List (Option Blk)→Prop):(jbs Tryz.prog G16 noL Tryz.f235.ntmps (ja7 Tryz.f235 0) (tl S114_0.live (V114_0 (b,c,n,.nil,i)) jk) (ml S114_0.mid (B114_0 (b,c,n,.nil,i))) S114_0.n fun e t' m' _=>S114_0.out R e t' m')=(bif qfn i n then∀a:Nat,∀d:List Value,qb0 d a 1→qca (jav [(425,400)] b.c&& (jav [(425,400)] (.int .u8 (IntKind.u8.wrap c)::d) &&true) &&true) R [qhl b.own (rlbL [(425,400)] b.c) b.ty,qhl true (rlbL [(425,400)] (.int .u8 (IntKind.u8.wrap c)::d)) 5] (qfa 400 1 a:: .int .i32 c::qag n i)else qcp (jav [] b.c&&true&&true) R [qhl b.own (rlbL [] b.c) b.ty,none] (qap n i) 0 qhf (.int .i32 c)):=by kernel_rfl
theorem r114_0o(b:Blk)(c:Int)(n:Int)(d:List Value)(m:Nat)(cap:Nat)(i:Int)(jk:Tmps)(R:Exit→List Value→List (Option Blk)→Prop):(jbs Tryz.prog G16 noL Tryz.f235.ntmps (ja7 Tryz.f235 0) (tl S114_0.live (V114_0 (b,c,n,.own d m cap,i)) jk) (ml S114_0.mid (B114_0 (b,c,n,.own d m cap,i))) S114_0.n fun e t' m' _=>S114_0.out R e t' m')=(bif qfn i n then qgz d cap m 1 (∀a:Nat,∀e:List Value,qb0 e a (m+1)→qca (jav [(425,400)] b.c&&qdc (IntKind.u8.wrap c) d e 425 400 m&&true) R [qhl b.own (rlbL [(425,400)] b.c) b.ty,some (qbx (IntKind.u8.wrap c) d e 425 400 m)] (qfa 400 (m+1) a:: .int .i32 c::qag n i))else qcp (jav [(400,400)] b.c&& (jav [(400,400)] d&&true) &&true) R [qhl b.own (rlbL [(400,400)] b.c) b.ty,qhl true (rlbL [(400,400)] d) 5] (qap n i) 0 (qfa 400 m cap) (.int .i32 c)):=by kernel_rfl
theorem l114_0:LOKf Tryz.prog (oneL 0 S114_0.hA) Tryz.f235:=by
 refine jbn (h:=S114_0.hA) (by kernel_rfl) (jbq ok_G16 hmix (by kernel_rfl) (ja6 _) S114_0 V114_0 B114_0 (fun(b,c,n,o,i)=>(n-i).toNat) ?_ ?_ ?_)
 ·intro vs bs s h;simp only[S114_0]at h;split at h
  all_goals first | (cases h;exact⟨rfl,rfl⟩) | cases h | (split at h<;>first | (rename_i hq;cases h;have hq:=jah hq;subst hq;exact⟨rfl,rfl⟩) | cases h)
 ·exact fun⟨b,c,n,o,i⟩ hp=>by
   simp only[S114_0,jaf]at hp;cases o with
   | nil=>simp[V114_0,B114_0,S114_0,ja0,jbx,idsL,ids,Rw.v,Rw.b,jaq hp.2.2.1]
   | own d m cap=>simp[V114_0,B114_0,S114_0,ja0,jbx,idsL,ids,Rw.v,Rw.b,jaq hp.2.2.1,jaq (jat.1 hp.1).plain]
 ·intro⟨b,c,n,o,i⟩ jk Z hp hf;simp only[S114_0]at hp hf;cases o with
  | nil=>
   rw[r114_0n];delta qcp qhf qbk qap qhl qca qaw qbw qag qbp qfa qb0 qfn;simp only[jaf,jae]at hp;obtain⟨-,hi,hb,hp⟩:=hp;have hi:i<n:=jab hi;simp only[Rw.z,List.length_nil]at hp;have eb:∀ps,rlbL ps b.c=b.c:=fun ps=>rlbL_plain ps hb
   have gb:∀ps,jav ps b.c=true:=fun ps=>goodL_plain hb
   refine c_t (jaa hi) (fun cap1 tail ht=> ?_);rw[w8 (n:=c) (by omega)];have hh:=jgn [c] ht;have h1:RowP (.int .u8 c::tail) 1 cap1:=hh.1;have h2:zc (.int .u8 c::tail) 1=[c]:=hh.2;refine c_t (by simp[h1.good,gb]) ?_;rw[h1.rlb,eb,w64 (by omega)];refine⟨(b,c,n,.own _ 1 cap1,i+1),rfl,rfl,by simp only[S114_0,jaf,jae];exact⟨jat.2 h1,rfl,hb,by omega,by omega,by omega,by omega,by omega,by simp only[Rw.z,h2,List.length_cons,List.length_nil];omega⟩,by simp only;omega,?_⟩;intro d' m' cap' g1 g2;refine hf d' m' cap' g1 ?_;rw[g2];simp only[Rw.z];rw[h2,show(n-i).toNat=(n-(i+1)).toNat+1 by omega,←jhr];rfl
  | own d m cap=>
   rw[r114_0o];delta qcp qbp qfa qbk qap qhl qaf qbi qgz qca qaw qbw qag qe7 qgb qbx qdc qb0 qfn;simp only[jaf,jae]at hp;obtain⟨hr,-,hb,hp⟩:=hp;simp only[Rw.z]at hp;have eb:∀ps,rlbL ps b.c=b.c:=fun ps=>rlbL_plain ps hb
   have gb:∀ps,jav ps b.c=true:=fun ps=>goodL_plain hb
   have hr:=jat.1 hr;have hzl:=ja9 hr;apply cond_intro<;>intro h
   ·have h:=jab h;rw[w8 (n:=c) (by omega)];refine c_t (hr.ask (k:=1) (by omega)) (fun cap1 tail ht=> ?_);obtain⟨h1,h2⟩:=hr.app1 c ht;refine c_t (by rw[h1.good,gb];rfl) ?_;rw[h1.rlb,eb,w64 (by omega)];have hl1:(zc (List.take (m*1) d++ [Value.int IntKind.u8 c]++tail) (m+1)).length=m+1:=ja9 h1;refine⟨(b,c,n,.own _ (m+1) cap1,i+1),rfl,rfl,by simp only[S114_0,jaf,jae];exact⟨jat.2 h1,rfl,hb,by omega,by omega,by omega,by omega,by omega,by simp only[Rw.z,hl1];omega⟩,by simp only;omega,?_⟩;intro d' m' cap' g1 g2;refine hf d' m' cap' g1 ?_;rw[g2];simp only[Rw.z];rw[h2,show(n-i).toNat=(n-(i+1)).toNat+1 by omega,←jhr,List.append_assoc]
   ·have h:=jac h;refine c_t (by rw[hr.good,gb];rfl) ?_;rw[hr.rlb,eb];obtain rfl:i=n:=by omega
    exact hf d m cap (jat.2 hr) (by simp[Rw.z,rep1])
theorem fn114:Fn1 Tryz.prog 235 Tryz.f235:= .m Tryz.func235
def G17:Env:=(Env.nil.add 234 (sp2 s113)).addG 235 (inlQ Tryz.prog G16 (oneL 0 S114_0.hA) Tryz.f235)
theorem ok_G17:jax Tryz.prog G17:=jam (jaj jao ok113) (jas ok_G16 hmix fn114 l114_0)
theorem dec_cases{s:ByteArray}{p:Int}(h0:0≤p)(h:p<s.size):(jak s p.toNat<128→decO s p.toNat=((jak s p.toNat).toNat,1))∧(128≤jak s p.toNat→128≤(decO s p.toNat).1∧(decO s p.toNat).1≤2147483647∧1≤(decO s p.toNat).2):=by
 rw[decO_eq];have hs:p.toNat<s.size:=by omega
 have e:jak s p.toNat=((s[p.toNat]'hs).toNat:Int):=by
  have hl:p.toNat<s.data.toList.length:=by rw[Array.length_toList];exact hs
  simp only[jak,List.getElem?_eq_getElem hl];rfl
 rw[e];refine⟨fun h=> ?_,fun h=> ?_⟩
 ·rw[decode_ascii s _ hs (by omega)];rfl
 ·have:=decode_high s _ hs (by omega);exact⟨this.1,decode_le s _,this.2⟩
theorem kL_lt{c:Int}(h:hasZ kL c=true):0≤c∧c<128:=by
 have:∀x∈kL,0≤x∧x<128:=by decide
 exact this c (jbc.1 h)
theorem jjv:∀(l:List Int)(n m:Int)(out:List Int),xpGo l 0 n out=xpGo l 0 m out
 | [],_,_,_=>rfl
 | c::r,n,m,out=>by
  simp only[xpGo];rfl
theorem xp_high{c:Int}(h:128≤c)(r:List Int)(st n:Int)(out:List Int):xpGo (c::r) st n out=([],false):=by
 have hu:upZ c=c:=by unfold upZ;rw[if_neg (by omega)]
 have hk:¬hasZ kL c=true:=fun q=>by have:=kL_lt q;omega
 have hd:¬je1 c=true:=fun q=>by have:=jab q;omega
 rw[xpGo];split
 ·rw[if_neg (by omega),if_neg (fun q=>hd q.1)]
 ·rw[if_neg (by omega),if_neg (by omega),hu,if_neg (fun q=>hk q.1)]
theorem dec_step{s:ByteArray}{p:Int}(h0:0≤p)(h:p<s.size):0≤((decO s p.toNat).1:Int)∧((decO s p.toNat).1:Int)≤2147483647∧1≤((decO s p.toNat).2:Int)∧
  ∀st n out,xpGo ((bz s).drop p.toNat) st n out=xpGo (((decO s p.toNat).1:Int)::(bz s).drop (p+((decO s p.toNat).2:Int)).toNat) st n out:=by
 obtain⟨h1,h2⟩:=dec_cases h0 h;have hb:=jft s p.toNat;by_cases hc:jak s p.toNat<128
 ·have e:=h1 hc;rw[e];simp only;rw[Int.toNat_of_nonneg hb.1];refine⟨hb.1,by omega,by omega,fun st n out=> ?_⟩;rw[jb7 h0 h];rfl
 ·obtain⟨q1,q2,q3⟩:=h2 (by omega);refine⟨by omega,by omega,by omega,fun st n out=> ?_⟩;rw[jb7 h0 h,xp_high (by omega),xp_high (by omega)]
theorem x1{c st n:Int}{r out:List Int}(h:st=1)(hc:c=41)(hn:0<n):xpGo (c::r) st n out=xpGo r 2 n out:=by rw[xpGo,if_pos h,if_pos hc,if_pos hn]
theorem x2{c st n:Int}{r out:List Int}(h:st=1)(hc:c=41)(hn:¬0<n):xpGo (c::r) st n out=([],false):=by rw[xpGo,if_pos h,if_pos hc,if_neg hn]
theorem x34{c st n:Int}{r out:List Int}(h:st=1)(hc:¬c=41):xpGo (c::r) st n out=if(rpZ n c).2=true then xpGo r 1 (rpZ n c).1 out else([],false):=by
 rw[xpGo,if_pos h,if_neg hc,rpZ];by_cases q:c<48∨c>57∨(n=0∧c=48)
 ·rw[if_pos q,if_neg,if_neg (by simp)];simp only[je1,jae];omega
 ·rw[if_neg q];simp only[je1,jae];by_cases q2:10*n+(c-48)≤32
  ·rw[if_pos (by omega),if_pos q2]
  ·rw[if_neg (by omega),if_neg q2]
theorem rp_rng{n c:Int}(hn:0≤n)(h:(rpZ n c).2=true):0≤(rpZ n c).1∧(rpZ n c).1≤32:=by
 unfold rpZ at h ⊢;split at h
 ·cases h
 ·rename_i q;rw[if_neg q];simp only[jae]at h ⊢;omega
theorem x5{c st n:Int}{r out:List Int}(h:¬st=1)(hc:c=41∨st=2∧c=40):xpGo (c::r) st n out=([],false):=by rw[xpGo,if_neg h,if_pos hc]
theorem x6{c st n:Int}{r out:List Int}(h:¬st=1)(hc:¬(c=41∨st=2∧c=40))(h2:c=40):xpGo (c::r) st n out=xpGo r 1 0 out:=by rw[xpGo,if_neg h,if_neg hc,if_pos h2]
theorem x7{c st n:Int}{r out:List Int}(h:¬st=1)(hc:¬(c=41∨st=2∧c=40))(h2:¬c=40):xpGo (c::r) st n out=if hasZ kL (upZ c)=true∧(out.length:Int)+(if st=2 then n else 1)≤32 then xpGo r 0 0 (out++rep1 (upZ c) (if st=2 then n else 1).toNat)else([],false):=by rw[xpGo,if_neg h,if_neg hc,if_neg h2]
theorem put_gate{u k:Int}{L:Nat}(hu:0≤u∧u≤2147483647)(hk:1≤k∧k≤32)(hL:L≤32):
  (decide (u≥128) || decide (0≤IntKind.wrap IntKind.u8 u∧IntKind.wrap IntKind.u8 u<256) && (decide (idxZ (bz (ByteArray.mk #[57,86,90,42,89,84,73,82,83,43,45,36,44,46,47,66,67,68,65,88])) (IntKind.wrap IntKind.u8 u)<0) || true))=true∧
  (decide (u≥128) || (decide (idxZ (bz (ByteArray.mk #[57,86,90,42,89,84,73,82,83,43,45,36,44,46,47,66,67,68,65,88])) (IntKind.wrap IntKind.u8 u)<0) || decide (IntKind.wrap IntKind.i64 (natO L+k)>32)))= !(decide (hasZ kL u=true∧(L:Int)+k≤32)):=by
 have eb:bz (ByteArray.mk #[57,86,90,42,89,84,73,82,83,43,45,36,44,46,47,66,67,68,65,88])=kL:=by kernel_rfl
 rw[eb,jb4,w64 (by omega)];by_cases h:u≥128
 ·have hh:¬(hasZ kL u=true∧(L:Int)+k≤32):=fun q=>by have:=kL_lt q.1;omega
  rw[jaa h,jad hh];exact⟨rfl,rfl⟩
 ·rw[w8 (by omega),jad h,jaa (show 0≤u∧u<256 by omega)];refine⟨by simp,?_⟩;have hi:=jf5 u kL;rw[←jbc]at hi;by_cases h1:hasZ kL u=true
  ·rw[h1]at hi ⊢;have hi:=hi.2.2 rfl;rw[jad (show¬idxZ kL u<0 by omega)];by_cases h2:(L:Int)+k≤32
   ·rw[jad (show¬(L:Int)+k>32 by omega),jaa ⟨rfl,h2⟩];rfl
   ·rw[jaa (show(L:Int)+k>32 by omega),jad (fun q=>h2 q.2)];rfl
  ·have hn:idxZ kL u<0:=by
    have:¬0≤idxZ kL u:=fun q=>h1 (hi.2.1 q)
    omega
   rw[jaa hn,jad (show¬(hasZ kL u=true∧(L:Int)+k≤32)from fun q=>h1 q.1)];rfl
theorem ji4{u k:Int}{p:Int}{s:ByteArray}(hu:0≤u∧u≤2147483647)(hk:1≤k∧k≤32){A:Prop}{Q:Nat→Nat→List Value→Prop}
  (h1:¬(hasZ kL u=true∧((([]:List Int).length:Nat):Int)+k≤32)→A)
  (h2:hasZ kL u=true∧((([]:List Int).length:Nat):Int)+k≤32→ ∀d' m' cap',RowP d' m' cap'→zc d' m'=[]++rep1 u k.toNat→Q m' cap' d'):
  bif decide (u≥128) || decide (0≤IntKind.wrap IntKind.u8 u∧IntKind.wrap IntKind.u8 u<256) && (decide (idxZ (bz (ByteArray.mk #[57,86,90,42,89,84,73,82,83,43,45,36,44,46,47,66,67,68,65,88])) (IntKind.wrap IntKind.u8 u)<0) || true)then
   bif decide (u≥128) || (decide (idxZ (bz (ByteArray.mk #[57,86,90,42,89,84,73,82,83,43,45,36,44,46,47,66,67,68,65,88])) (IntKind.wrap IntKind.u8 u)<0) || decide (IntKind.wrap IntKind.i64 (natO 0+k)>32))then A
   else
    bif LSpec.pre (LSpecA.toLSpec S114_0) (Blk.mk [Value.string s,Value.int IntKind.i64 p] 4611686018427387904 true,u,k,Rw.nil,0)then
     ∀(d':List Value)(m' cap':Nat),jci d' m' cap'=true→zc d' m'=Rw.z Rw.nil++rep1 u (Int.toNat (k-0))→
      bif ja0 420 d'&&true then∀(_:Tmps),bif jav [(400,200)] d'&&true&&true then Q m' cap' d' else False else False
    else False
  else False:=by
 obtain⟨g1,g2⟩:=put_gate (L:=0) hu hk (by omega);refine c_t g1 ?_;rw[g2];by_cases hq:hasZ kL u=true∧((0:Nat):Int)+k≤32
 ·rw[jaa hq];have hkl:=kL_lt hq.1;refine c_f rfl (c_t ?_ fun d' m' cap' r1 r2=> ?_)
  ·simp only[S114_0,jaf,jae,Rw.ok,Rw.is,Rw.z,List.length_nil,Bool.false_or,true_and,ja4,plain];exact⟨by omega,jaa (by omega)⟩
  ·have r1:=jat.1 r1;refine c_t (by rw[jbg r1.plain];rfl) fun x=>c_t (by rw[r1.good];rfl) ?_
   exact h2 hq d' m' cap' r1 (by rw[r2,Int.sub_zero];rfl)
 ·rw[jad hq];exact c_t rfl (h1 hq)
theorem ji3{u k:Int}{p:Int}{s:ByteArray}{d:List Value}{m cap:Nat}(hr:RowP d m cap)(hm:m≤32)(hu:0≤u∧u≤2147483647)(hk:1≤k∧k≤32){A:Prop}{Q:Nat→Nat→List Value→Prop}
  (h1:¬(hasZ kL u=true∧((zc d m).length:Int)+k≤32)→A)
  (h2:hasZ kL u=true∧((zc d m).length:Int)+k≤32→ ∀d' m' cap',RowP d' m' cap'→zc d' m'=zc d m++rep1 u k.toNat→Q m' cap' d'):
  bif decide (u≥128) || decide (0≤IntKind.wrap IntKind.u8 u∧IntKind.wrap IntKind.u8 u<256) && (decide (idxZ (bz (ByteArray.mk #[57,86,90,42,89,84,73,82,83,43,45,36,44,46,47,66,67,68,65,88])) (IntKind.wrap IntKind.u8 u)<0) || true)then
   bif decide (u≥128) || (decide (idxZ (bz (ByteArray.mk #[57,86,90,42,89,84,73,82,83,43,45,36,44,46,47,66,67,68,65,88])) (IntKind.wrap IntKind.u8 u)<0) || decide (IntKind.wrap IntKind.i64 (natO m+k)>32))then
    bif jav [] d&&true&&true then A else False
   else
    bif jav [(200,400)] d&&true&&true&& (ja0 420 d&&true)then
     bif LSpec.pre (LSpecA.toLSpec S114_0) (Blk.mk [Value.string s,Value.int IntKind.i64 p] 4611686018427387904 true,u,k,Rw.own d m cap,0)then
      ∀(d':List Value)(m' cap':Nat),jci d' m' cap'=true→zc d' m'=Rw.z (Rw.own d m cap)++rep1 u (Int.toNat (k-0))→
       bif ja0 420 d'&&true then∀(_:Tmps),bif jav [(400,200)] d'&&true&&true then Q m' cap' d' else False else False
     else False
    else False
  else False:=by
 obtain⟨g1,g2⟩:=put_gate (L:=m) hu hk (by omega);rw[ja9 hr]at h1 h2;have hzl:=ja9 hr;refine c_t g1 ?_;rw[g2,hr.good,hr.good,jbg hr.plain];by_cases hq:hasZ kL u=true∧(m:Int)+k≤32
 ·rw[jaa hq];have hkl:=kL_lt hq.1;refine c_f rfl (c_t rfl (c_t ?_ fun d' m' cap' r1 r2=> ?_))
  ·simp only[S114_0,jaf,jae,Rw.ok,Rw.is,Rw.z,Bool.true_or,true_and,ja4,plain];exact⟨jat.2 hr,jaa (by omega)⟩
  ·have r1:=jat.1 r1;refine c_t (by rw[jbg r1.plain];rfl) fun x=>c_t (by rw[r1.good];rfl) ?_
   exact h2 hq d' m' cap' r1 (by rw[r2,Int.sub_zero];rfl)
 ·rw[jad hq];exact c_t rfl (c_t rfl (h1 hq))
def V80_0:ByteArray×Bool×Rw×Int×Int×Bool×ByteArray×Int→List Value:=fun(r,rb,o,st,n,f,s,p)=> [.string r,.bool rb,o.v 200,.int .i64 st,.int .i64 n,.bool f,.pointer (some ⟨7,0,some 0⟩)]
def B80_0:ByteArray×Bool×Rw×Int×Int×Bool×ByteArray×Int→List (Option Blk):=fun(r,rb,o,st,n,f,s,p)=> [some ⟨[.string s,.int .i64 p],itTy,true⟩,o.b]
def S80_0:LSpecA (ByteArray×Bool×Rw×Int×Int×Bool×ByteArray×Int) where
 live:=[2,3,4,5,6,7,11]
 mid:=[7,200]
 n:=210
 ap:=[(.tmp 4,200)]
 dec vs bs:=match vs,bs with
  | [.string r,.bool rb,.slice none 0 0,.int .i64 st,.int .i64 n,.bool f,.pointer (some ⟨7,0,some 0⟩)],[some ⟨[.string s,.int .i64 p],ty,true⟩,none]=>match Nat.beq ty itTy with | true=>some (r,rb,.nil,st,n,f,s,p) | false=>none
  | [.string r,.bool rb,.slice (some ⟨200,0,some 1⟩) m cap,.int .i64 st,.int .i64 n,.bool f,.pointer (some ⟨7,0,some 0⟩)],[some ⟨[.string s,.int .i64 p],ty,true⟩,some ⟨d,5,true⟩]=>match Nat.beq ty itTy with | true=>some (r,rb,.own d m cap,st,n,f,s,p) | false=>none
  | _,_=>none
 pre:=fun(r,rb,o,st,n,f,s,p)=>o.ok&& (f&&decide (0≤p∧s.size≤9223372036854775807∧(st=0∨st=1∨(st=2∧0<n))∧0≤n∧n≤32∧o.z.length≤32))
 fin:=fun(r,rb,o,st,n,f,s,p) Z=>(xpGo ((bz s).drop p.toNat) st n o.z=([],false)→(∀st' n' f' p',Z .ret [.string ⟨#[]⟩,.bool false,.slice none 0 0,.int .i64 st',.int .i64 n',.bool f',.pointer (some ⟨7,0,some 0⟩)] [some ⟨[.string s,.int .i64 p'],itTy,true⟩,none])∧(∀d' m' cap' st' n' f' p',jci d' m' cap'=true→Z .ret [.string ⟨#[]⟩,.bool false,.slice (some ⟨200,0,some 1⟩) m' cap',.int .i64 st',.int .i64 n',.bool f',.pointer (some ⟨7,0,some 0⟩)] [some ⟨[.string s,.int .i64 p'],itTy,true⟩,some ⟨d',5,true⟩])∧(∀d' st' n' f' p',ja4 d'=true→Z .ret [.string ⟨#[]⟩,.bool false,.slice none 0 0,.int .i64 st',.int .i64 n',.bool f',.pointer (some ⟨7,0,some 0⟩)] [some ⟨[.string s,.int .i64 p'],itTy,true⟩,some ⟨d',5,true⟩]))∧(∀st' n' f' p',xpGo ((bz s).drop p.toNat) st n o.z=([],decide (st'=0))→Z (.exit 0) [.string r,.bool rb,.slice none 0 0,.int .i64 st',.int .i64 n',.bool f',.pointer (some ⟨7,0,some 0⟩)] [some ⟨[.string s,.int .i64 p'],itTy,true⟩,none])∧(∀d' m' cap' st' n' f' p',jci d' m' cap'=true→xpGo ((bz s).drop p.toNat) st n o.z=(zc d' m',decide (st'=0))→Z (.exit 0) [.string r,.bool rb,.slice (some ⟨200,0,some 1⟩) m' cap',.int .i64 st',.int .i64 n',.bool f',.pointer (some ⟨7,0,some 0⟩)] [some ⟨[.string s,.int .i64 p'],itTy,true⟩,some ⟨d',5,true⟩])
def qao(a c:Int)(b:Nat):Bool:=decide (a≥128) || (qfu (idxZ qb3 (IntKind.u8.wrap a)) 0 || decide (qg6 (natO b) c>32))
def qec(a:ByteArray)(b:Int):Int:=((decO a b.toNat).fst:Int)
def qai(a:Int):Bool:=decide (a≥128) || qbm (IntKind.u8.wrap a) 256&& (qfu (idxZ qb3 (IntKind.u8.wrap a)) 0 || true)
def qbn(a:ByteArray)(b c:Int)(d:Nat)(e f g:Prop):Prop:=bif qa2 (qec a b) 97 122 then qf8 (qai (IntKind.i32.wrap (qec a b-32))) (qao (IntKind.i32.wrap (qec a b-32)) c d) e f else qf8 (qai (qec a b)) (qao (qec a b) c d) e g
def qah(a:ByteArray)(b:Int):Blk:= .mk [S a,I (b+((decO a b.toNat).snd:Int))] 4611686018427387904 true
def qav(k:Bool)(d j:ByteArray)(i:Exit→List Value→List (Option Blk)→Prop)(e f g l m:Int)(h:Px.Rw):Prop:=bif S114_0.toLSpec.pre (qah d e,(f,(g,(h,(0:Int)))))then∀a:List Value,∀b:Nat,∀c:Nat,jci a b c=true→zc a b=Rw.z h++rep1 f (Int.toNat (g-0))→qg5 true a 420 (qca (qb5 a 400 200) i [some (qah d e),qhl true (rlbL [(400,200)] a) 5] [S j,B k,qfa 200 b c,qbk l,qbk m,B true,qab 7])else False
def qbd(f:Bool)(d e:Int)(b c:Nat)(a:Option Addr):List Value:=[B false,.slice a b c,qbk d,qbk e,B f,qab 7]
def qff(g:Bool)(a h:ByteArray)(d:Exit→List Value→List (Option Blk)→Prop)(b c e f:Int):Prop:=bif qfv (qec a b) 97 then qbn a b c 0 (d .ret (qfr::qbd false e f 0 0 none) [some (qah a b),none]) (qav g a h d b (IntKind.i32.wrap (qec a b-32)) c e f Rw.nil) (qav g a h d b (qec a b) c e f Rw.nil)else False
def qe8(a h:Bool)(e g:ByteArray)(b:Exit→List Value→List (Option Blk)→Prop)(c d f:Int)(i:Value):Prop:=bif !a then b .ret (qfr::qbd a c d 0 0 none) [some (qah e f),none]else b .normal [S g,B h,qhf,qbk c,i,B a,qab 7] [some (qah e f),none]
theorem r80_0n(r:ByteArray)(rb:Bool)(st:Int)(n:Int)(f:Bool)(s:ByteArray)(p:Int)(jk:Tmps)(R:Exit→List Value→List (Option Blk)→Prop):(jbs Tryz.prog G17 noL Tryz.f188.ntmps (ja7 Tryz.f188 0) (tl S80_0.live (V80_0 (r,rb,.nil,st,n,f,s,p)) jk) (ml S80_0.mid (B80_0 (r,rb,.nil,st,n,f,s,p))) S80_0.n fun e t' m' _=>S80_0.out R e t' m')=(bif decide (0≤p)then qc5 (st==1 || true) (st==1&&qec s p==41) s R p [qhl true [S s,qbk p] 4611686018427387904,none] [qhf,qbk st,qbk n,B f,qab 7] 0 (qe8 (qhk n 0) rb s r R 2 n p (qbk n)) (bif st==1 then bif qfc 0 n 32 0 (qec s p) 2147483647 then qe8 (rpZ n (qec s p)).snd rb s r R st (rpZ n (qec s p)).fst p (I (rpZ n (qec s p)).fst)else False else qdn (qec s p==41) (st==2 || true) (qec s p==41 || st==2&&qec s p==40) (R .ret (qfr::qbd false st n 0 0 none) [some (qah s p),none]) (bif qec s p==40 then qe8 f rb s r R 1 0 p (qbk 0)else bif st==2 then qff rb s r R p n 0 n else qff rb s r R p 1 st n)) (S r) (B rb)else False):=by kernel_rfl
def qe6(a:List Value):Bool:=jav [] a&&true&&true
def qcm(i:Bool)(a j:ByteArray)(f:Exit→List Value→List (Option Blk)→Prop)(b c g h:Int)(e:List Value)(d k:Nat):Prop:=bif qfv (qec a b) 97 then qbn a b c d (bif qe6 e then f .ret (qfr::qbd false g h 0 0 none) [some (qah a b),qhl true (rlbL [] e) 5]else False) (bif qa6 [(200,400)] e 420 then qav i a j f b (IntKind.i32.wrap (qec a b-32)) c g h (Rw.own (rlbL [(200,400)] e) d k)else False) (bif qa6 [(200,400)] e 420 then qav i a j f b (qec a b) c g h (Rw.own (rlbL [(200,400)] e) d k)else False)else False
def qc1(a b:Bool)(c:Exit→List Value→List (Option Blk)→Prop)(g:List (Option Blk))(e j:List Value)(f:Option Blk)(d h i:Value):Prop:=bif a then bif b then c .ret (d::e) (f::g)else False else qca b c (f::g) (h::i::j)
def qgi(a l:Bool)(i k:ByteArray)(c:Exit→List Value→List (Option Blk)→Prop)(d e j:Int)(b:List Value)(f g:Nat)(h:Value):Prop:=qc1 (!a) (qb5 b 200 200) c (qbf b) (qbd a d e f g (qbp 200 1)) [qfa 200 f g,qbk d,h,B a,qab 7] (some (qah i j)) qfr (S k) (B l)
theorem r80_0o(r:ByteArray)(rb:Bool)(d:List Value)(m:Nat)(cap:Nat)(st:Int)(n:Int)(f:Bool)(s:ByteArray)(p:Int)(jk:Tmps)(R:Exit→List Value→List (Option Blk)→Prop):(jbs Tryz.prog G17 noL Tryz.f188.ntmps (ja7 Tryz.f188 0) (tl S80_0.live (V80_0 (r,rb,.own d m cap,st,n,f,s,p)) jk) (ml S80_0.mid (B80_0 (r,rb,.own d m cap,st,n,f,s,p))) S80_0.n fun e t' m' _=>S80_0.out R e t' m')=(bif decide (0≤p)then bif qcr s p then qdn (st==1) true (st==1&&qec s p==41) (qgi (qhk n 0) rb s r R 2 n p d m cap (qbk n)) (bif st==1 then bif qfc 0 n 32 0 (qec s p) 2147483647 then qgi (rpZ n (qec s p)).snd rb s r R st (rpZ n (qec s p)).fst p d m cap (I (rpZ n (qec s p)).fst)else False else qhd (qec s p==41) (st==2 || true) (qec s p==41 || st==2&&qec s p==40) (bif qb5 d 200 200 then R .ret (qfr::qbd false st n m cap (qbp 200 1)) (some (qah s p)::qbf d)else False) (bif qec s p==40 then qgi f rb s r R 1 0 p d m cap (qbk 0)else bif st==2 then qcm rb s r R p n 0 n d m cap else qcm rb s r R p 1 st n d m cap))else qcp (qb5 d 200 200) R (qhl true [S s,qbk p] 4611686018427387904::qbf d) [qfa 200 m cap,qbk st,qbk n,B f,qab 7] 0 (S r) (B rb)else False):=by kernel_rfl
theorem l80_0:LOKf Tryz.prog (oneL 0 S80_0.hA) Tryz.f188:=by
 refine jbn (h:=S80_0.hA) (by kernel_rfl) (jbq ok_G17 hmix (by kernel_rfl) (ja6 _) S80_0 V80_0 B80_0 (fun(r,rb,o,st,n,f,s,p)=>(s.size-p).toNat) ?_ ?_ ?_)
 ·intro vs bs s h;simp only[S80_0]at h;split at h
  all_goals first | (cases h;exact⟨rfl,rfl⟩) | cases h | (split at h<;>first | (rename_i hq;cases h;have hq:=jah hq;subst hq;exact⟨rfl,rfl⟩) | cases h)
 ·exact fun⟨r,rb,o,st,n,f,s,p⟩ hp=>by
   simp only[S80_0,jaf]at hp;cases o with
   | nil=>simp[V80_0,B80_0,S80_0,ja0,jbx,idsL,ids,Rw.v,Rw.b]
   | own d m cap=>simp[V80_0,B80_0,S80_0,ja0,jbx,idsL,ids,Rw.v,Rw.b,jaq (jat.1 hp.1).plain]
 ·intro⟨r,rb,o,st,n,f,s,p⟩ jk Z hp hf;simp only[S80_0]at hp hf;cases o with
  | nil=>
   rw[r80_0n];delta qf8 qfq qcr qc5 qdn qg6 qfu qb3 qao qec qbm qai qa2 qbn qg5 qca qbp qab qbk qfa qhl qah qb5 qav qbd qgh qfr qfv qff qhf qe8 qfc qhk;simp only[jaf,jae]at hp;obtain⟨-,rfl,hp⟩:=hp;simp only[Rw.z]at hp hf;refine c_t (jaa hp.1) (cond_intro (fun h=> ?_) (fun h=> ?_))
   ·have h:=jab h;obtain⟨k1,k2,k3,k4⟩:=dec_step hp.1 h;simp only[k4]at hf;clear k4;generalize ((decO s p.toNat).1:Int)=c at k1 k2 hf ⊢;generalize ((decO s p.toNat).2:Int)=k at k3 hf ⊢;have mu:(s.size-(p+k)).toNat<(s.size-p).toNat:=by omega
    refine c_t (by simp) (cond_intro (fun a=> ?_) (fun a=> ?_))
    ·have a:st=1∧c=41:=by simpa using a
     apply cond_intro<;>intro b
     ·have b:¬0<n:=by simpa using b
      exact(hf.1 (x2 a.1 a.2 b)).1 _ _ _ _
     ·have b:0<n:=by simpa using b
      rw[x1 a.1 a.2 b]at hf;rw[jaa b];exact⟨(r,rb,.nil,2,n,true,s,p+k),rfl,rfl,by simp only[S80_0,jaf,jae];exact⟨rfl,trivial,by omega,hp.2.1,.inr (.inr ⟨trivial,b⟩),by omega,by omega,Nat.zero_le _⟩,mu,hf⟩
    ·refine cond_intro (fun b=>c_t (jaa ⟨by omega,by omega,k1,k2⟩) ?_) (fun b=> ?_)
     ·have b:st=1:=by simpa using b
      have a:¬c=41:=fun q=>by rw[b,q]at a;cases a
      rw[x34 b a]at hf;apply cond_intro<;>intro g
      ·have g:(rpZ n c).2=false:=by simpa using g
       rw[if_neg (by rw[g];simp)]at hf;exact(hf.1 rfl).1 _ _ _ _
      ·have g:(rpZ n c).2=true:=by simpa using g
       have gr:=rp_rng hp.2.2.2.1 g;rw[if_pos g]at hf;rw[g,b];exact⟨(r,rb,.nil,1,(rpZ n c).1,true,s,p+k),rfl,rfl,by simp only[S80_0,jaf,jae];exact⟨rfl,trivial,by omega,hp.2.1,.inr (.inl trivial),by omega,by omega,Nat.zero_le _⟩,mu,hf⟩
     ·have b:¬st=1:=by simpa using b
      have hst:st=0∨st=2∧0<n:=by omega
      refine c_t (by simp) (cond_intro (fun g=> ?_) (fun g=> ?_))
      ·have g:c=41∨st=2∧c=40:=by simpa using g
       exact(hf.1 (x5 b g)).1 _ _ _ _
      ·have g:¬(c=41∨st=2∧c=40):=by
        intro q;have:(c==41 || st==2&&c==40)=true:=by simpa using q
        rw[this]at g;cases g
       refine cond_intro (fun q=>c_f rfl (?_)) (fun q=> ?_)
       ·have q:c=40:=by simpa using q
        rw[x6 b g q]at hf;exact⟨(r,rb,.nil,1,0,true,s,p+k),rfl,rfl,by simp only[S80_0,jaf,jae];exact⟨rfl,trivial,by omega,hp.2.1,.inr (.inl trivial),by omega,by omega,Nat.zero_le _⟩,mu,hf⟩
       ·have q:¬c=40:=by simpa using q
        rw[x7 b g q]at hf;apply cond_intro<;>intro v
        ·have v:st=2:=by simpa using v
         rw[if_pos v]at hf;refine c_t (by simp) (cond_intro (fun y=> ?_) (fun y=> ?_))
         ·have y:97≤c∧c≤122:=by simpa using y
          have hu:upZ c=c-32:=by unfold upZ;rw[if_pos y]
          rw[hu]at hf;rw[w32 (by omega)];refine ji4 ?_ ?_ (fun e=> ?_) (fun e d' m' cap' r1 r2=> ?_)
          ·omega
          ·omega
          ·rw[if_neg e]at hf;exact(hf.1 rfl).1 _ _ _ _
          ·rw[r1.rlb];rw[if_pos e,←r2,jjv _ 0 n]at hf;have hl:=ja9 r1;have hl2:=congrArg List.length r2;simp only[List.length_append,rep1,List.length_replicate]at hl2;simp only[List.length_nil]at e hl2;exact⟨(r,rb,.own d' m' cap',0,n,true,s,p+k),rfl,rfl,by simp only[S80_0,jaf,jae];exact⟨jat.2 r1,trivial,by omega,hp.2.1,.inl trivial,hp.2.2.2.1,hp.2.2.2.2.1,by simp only[Rw.z,hl];omega⟩,mu,hf⟩
         ·have y:¬(97≤c∧c≤122):=by
           intro q;have:(decide (c≥97) &&decide (c≤122))=true:=by simpa using q
           rw[this]at y;cases y
          have hu:upZ c=c:=by unfold upZ;rw[if_neg y]
          rw[hu]at hf;refine ji4 ?_ ?_ (fun e=> ?_) (fun e d' m' cap' r1 r2=> ?_)
          ·omega
          ·omega
          ·rw[if_neg e]at hf;exact(hf.1 rfl).1 _ _ _ _
          ·rw[r1.rlb];rw[if_pos e,←r2,jjv _ 0 n]at hf;have hl:=ja9 r1;have hl2:=congrArg List.length r2;simp only[List.length_append,rep1,List.length_replicate]at hl2;simp only[List.length_nil]at e hl2;exact⟨(r,rb,.own d' m' cap',0,n,true,s,p+k),rfl,rfl,by simp only[S80_0,jaf,jae];exact⟨jat.2 r1,trivial,by omega,hp.2.1,.inl trivial,hp.2.2.2.1,hp.2.2.2.2.1,by simp only[Rw.z,hl];omega⟩,mu,hf⟩
        ·have v:¬st=2:=by simpa using v
         have v0:st=0:=by omega
         rw[if_neg v]at hf;refine c_t (by simp) (cond_intro (fun y=> ?_) (fun y=> ?_))
         ·have y:97≤c∧c≤122:=by simpa using y
          have hu:upZ c=c-32:=by unfold upZ;rw[if_pos y]
          rw[hu]at hf;rw[w32 (by omega),v0];refine ji4 ?_ ?_ (fun e=> ?_) (fun e d' m' cap' r1 r2=> ?_)
          ·omega
          ·omega
          ·rw[if_neg e]at hf;exact(hf.1 rfl).1 _ _ _ _
          ·rw[r1.rlb];rw[if_pos e,←r2,jjv _ 0 n]at hf;have hl:=ja9 r1;have hl2:=congrArg List.length r2;simp only[List.length_append,rep1,List.length_replicate]at hl2;simp only[List.length_nil]at e hl2;exact⟨(r,rb,.own d' m' cap',0,n,true,s,p+k),rfl,rfl,by simp only[S80_0,jaf,jae];exact⟨jat.2 r1,trivial,by omega,hp.2.1,.inl trivial,hp.2.2.2.1,hp.2.2.2.2.1,by simp only[Rw.z,hl];omega⟩,mu,hf⟩
         ·have y:¬(97≤c∧c≤122):=by
           intro q;have:(decide (c≥97) &&decide (c≤122))=true:=by simpa using q
           rw[this]at y;cases y
          have hu:upZ c=c:=by unfold upZ;rw[if_neg y]
          rw[hu]at hf;rw[v0];refine ji4 ?_ ?_ (fun e=> ?_) (fun e d' m' cap' r1 r2=> ?_)
          ·omega
          ·omega
          ·rw[if_neg e]at hf;exact(hf.1 rfl).1 _ _ _ _
          ·rw[r1.rlb];rw[if_pos e,←r2,jjv _ 0 n]at hf;have hl:=ja9 r1;have hl2:=congrArg List.length r2;simp only[List.length_append,rep1,List.length_replicate]at hl2;simp only[List.length_nil]at e hl2;exact⟨(r,rb,.own d' m' cap',0,n,true,s,p+k),rfl,rfl,by simp only[S80_0,jaf,jae];exact⟨jat.2 r1,trivial,by omega,hp.2.1,.inl trivial,hp.2.2.2.1,hp.2.2.2.2.1,by simp only[Rw.z,hl];omega⟩,mu,hf⟩
   ·have h:=jac h;rw[jcp (by omega)]at hf;exact hf.2.1 st n _ p rfl
  | own d m cap=>
   rw[r80_0o];delta qcp qbp qab qbk qfa qhl qbf qb5 qdn qhd qf8 qg6 qfu qb3 qao qec qbm qai qa2 qbn qg5 qca qah qav qa6 qbd qgh qfr qe6 qfv qcm qc1 qgi qfc qhk qfq qcr;simp only[jaf,jae]at hp;obtain⟨hR,rfl,hp⟩:=hp;have hr:=jat.1 hR;have hzl:=ja9 hr;simp only[Rw.z]at hp hf;have hL:(Rw.own d m cap).z.length≤32:=by simp only[Rw.z];exact hp.2.2.2.2.2
   have hm:m≤32:=by have:=hp.2.2.2.2.2;omega
   simp only[hr.rlb];have hg:∀ps,(jav ps d&&true&&true)=true:=fun ps=>by rw[hr.good];rfl
   refine c_t (jaa hp.1) (cond_intro (fun h=> ?_) (fun h=> ?_))
   ·have h:=jab h;obtain⟨k1,k2,k3,k4⟩:=dec_step hp.1 h;simp only[k4]at hf;clear k4;generalize ((decO s p.toNat).1:Int)=c at k1 k2 hf ⊢;generalize ((decO s p.toNat).2:Int)=k at k3 hf ⊢;have mu:(s.size-(p+k)).toNat<(s.size-p).toNat:=by omega
    refine c_t (by simp) (cond_intro (fun a=> ?_) (fun a=> ?_))
    ·have a:st=1∧c=41:=by simpa using a
     refine cond_intro (fun b=>c_t (hg _) ?_) (fun b=>c_t (hg _) ?_)
     ·have b:¬0<n:=by simpa using b
      exact(hf.1 (x2 a.1 a.2 b)).2.1 d m cap _ _ _ _ hR
     ·have b:0<n:=by simpa using b
      rw[x1 a.1 a.2 b]at hf;rw[jaa b];exact⟨(r,rb,.own d m cap,2,n,true,s,p+k),rfl,rfl,by simp only[S80_0,jaf,jae];exact⟨hR,trivial,by omega,hp.2.1,.inr (.inr ⟨trivial,b⟩),by omega,by omega,hL⟩,mu,hf⟩
    ·refine cond_intro (fun b=>c_t (jaa ⟨by omega,by omega,k1,k2⟩) ?_) (fun b=> ?_)
     ·have b:st=1:=by simpa using b
      have a:¬c=41:=fun q=>by rw[b,q]at a;cases a
      rw[x34 b a]at hf;refine cond_intro (fun g=>c_t (hg _) ?_) (fun g=>c_t (hg _) ?_)
      ·have g:(rpZ n c).2=false:=by simpa using g
       rw[if_neg (by rw[g];simp)]at hf;exact(hf.1 rfl).2.1 d m cap _ _ _ _ hR
      ·have g:(rpZ n c).2=true:=by simpa using g
       have gr:=rp_rng hp.2.2.2.1 g;rw[if_pos g]at hf;rw[g,b];exact⟨(r,rb,.own d m cap,1,(rpZ n c).1,true,s,p+k),rfl,rfl,by simp only[S80_0,jaf,jae];exact⟨hR,trivial,by omega,hp.2.1,.inr (.inl trivial),by omega,by omega,hL⟩,mu,hf⟩
     ·have b:¬st=1:=by simpa using b
      have hst:st=0∨st=2∧0<n:=by omega
      refine c_t (by simp) (cond_intro (fun g=>c_t (hg _) ?_) (fun g=> ?_))
      ·have g:c=41∨st=2∧c=40:=by simpa using g
       exact(hf.1 (x5 b g)).2.1 d m cap _ _ _ _ hR
      ·have g:¬(c=41∨st=2∧c=40):=by
        intro q;have:(c==41 || st==2&&c==40)=true:=by simpa using q
        rw[this]at g;cases g
       refine cond_intro (fun q=>c_f rfl (c_t (hg _) ?_)) (fun q=> ?_)
       ·have q:c=40:=by simpa using q
        rw[x6 b g q]at hf;exact⟨(r,rb,.own d m cap,1,0,true,s,p+k),rfl,rfl,by simp only[S80_0,jaf,jae];exact⟨hR,trivial,by omega,hp.2.1,.inr (.inl trivial),by omega,by omega,hL⟩,mu,hf⟩
       ·have q:¬c=40:=by simpa using q
        rw[x7 b g q]at hf;apply cond_intro<;>intro v
        ·have v:st=2:=by simpa using v
         rw[if_pos v]at hf;refine c_t (by simp) (cond_intro (fun y=> ?_) (fun y=> ?_))
         ·have y:97≤c∧c≤122:=by simpa using y
          have hu:upZ c=c-32:=by unfold upZ;rw[if_pos y]
          rw[hu]at hf;rw[w32 (by omega)];refine ji3 hr hm ?_ ?_ (fun e=> ?_) (fun e d' m' cap' r1 r2=> ?_)
          ·omega
          ·omega
          ·rw[if_neg e]at hf;exact(hf.1 rfl).2.2 d _ _ _ _ hr.plain
          ·rw[r1.rlb];rw[if_pos e,←r2,jjv _ 0 n]at hf;have hl:=ja9 r1;have hl2:=congrArg List.length r2;simp only[List.length_append,rep1,List.length_replicate]at hl2;simp only[hzl]at e hl2;exact⟨(r,rb,.own d' m' cap',0,n,true,s,p+k),rfl,rfl,by simp only[S80_0,jaf,jae];exact⟨jat.2 r1,trivial,by omega,hp.2.1,.inl trivial,hp.2.2.2.1,hp.2.2.2.2.1,by simp only[Rw.z,hl];omega⟩,mu,hf⟩
         ·have y:¬(97≤c∧c≤122):=by
           intro q;have:(decide (c≥97) &&decide (c≤122))=true:=by simpa using q
           rw[this]at y;cases y
          have hu:upZ c=c:=by unfold upZ;rw[if_neg y]
          rw[hu]at hf;refine ji3 hr hm ?_ ?_ (fun e=> ?_) (fun e d' m' cap' r1 r2=> ?_)
          ·omega
          ·omega
          ·rw[if_neg e]at hf;exact(hf.1 rfl).2.2 d _ _ _ _ hr.plain
          ·rw[r1.rlb];rw[if_pos e,←r2,jjv _ 0 n]at hf;have hl:=ja9 r1;have hl2:=congrArg List.length r2;simp only[List.length_append,rep1,List.length_replicate]at hl2;simp only[hzl]at e hl2;exact⟨(r,rb,.own d' m' cap',0,n,true,s,p+k),rfl,rfl,by simp only[S80_0,jaf,jae];exact⟨jat.2 r1,trivial,by omega,hp.2.1,.inl trivial,hp.2.2.2.1,hp.2.2.2.2.1,by simp only[Rw.z,hl];omega⟩,mu,hf⟩
        ·have v:¬st=2:=by simpa using v
         have v0:st=0:=by omega
         rw[if_neg v]at hf;refine c_t (by simp) (cond_intro (fun y=> ?_) (fun y=> ?_))
         ·have y:97≤c∧c≤122:=by simpa using y
          have hu:upZ c=c-32:=by unfold upZ;rw[if_pos y]
          rw[hu]at hf;rw[w32 (by omega),v0];refine ji3 hr hm ?_ ?_ (fun e=> ?_) (fun e d' m' cap' r1 r2=> ?_)
          ·omega
          ·omega
          ·rw[if_neg e]at hf;exact(hf.1 rfl).2.2 d _ _ _ _ hr.plain
          ·rw[r1.rlb];rw[if_pos e,←r2,jjv _ 0 n]at hf;have hl:=ja9 r1;have hl2:=congrArg List.length r2;simp only[List.length_append,rep1,List.length_replicate]at hl2;simp only[hzl]at e hl2;exact⟨(r,rb,.own d' m' cap',0,n,true,s,p+k),rfl,rfl,by simp only[S80_0,jaf,jae];exact⟨jat.2 r1,trivial,by omega,hp.2.1,.inl trivial,hp.2.2.2.1,hp.2.2.2.2.1,by simp only[Rw.z,hl];omega⟩,mu,hf⟩
         ·have y:¬(97≤c∧c≤122):=by
           intro q;have:(decide (c≥97) &&decide (c≤122))=true:=by simpa using q
           rw[this]at y;cases y
          have hu:upZ c=c:=by unfold upZ;rw[if_neg y]
          rw[hu]at hf;rw[v0];refine ji3 hr hm ?_ ?_ (fun e=> ?_) (fun e d' m' cap' r1 r2=> ?_)
          ·omega
          ·omega
          ·rw[if_neg e]at hf;exact(hf.1 rfl).2.2 d _ _ _ _ hr.plain
          ·rw[r1.rlb];rw[if_pos e,←r2,jjv _ 0 n]at hf;have hl:=ja9 r1;have hl2:=congrArg List.length r2;simp only[List.length_append,rep1,List.length_replicate]at hl2;simp only[hzl]at e hl2;exact⟨(r,rb,.own d' m' cap',0,n,true,s,p+k),rfl,rfl,by simp only[S80_0,jaf,jae];exact⟨jat.2 r1,trivial,by omega,hp.2.1,.inl trivial,hp.2.2.2.1,hp.2.2.2.2.1,by simp only[Rw.z,hl];omega⟩,mu,hf⟩
   ·have h:=jac h;rw[jcp (by omega)]at hf;exact c_t (hg _) (hf.2.2 d m cap st n _ p hR rfl)
def s80(s:ByteArray):Bool×Value:=(decide (s.size≤9223372036854775807),.tuple ⟨[.string (sz (xpGo (bz s) 0 0 []).1),.bool (exOK (bz s))]⟩)
theorem fn80:Fn1 Tryz.prog 188 Tryz.f188:= .m Tryz.func188
def qeb(a:Prop):Prop:=Int→Bool→Int→a
def qcx(b:List Value)(a:Nat)(c:Prop):Prop:=bif ja0 a b&&true then Tmps→c else False
theorem v80(s:ByteArray)(R:Value→Prop):ja1 Tryz.prog G17 (oneL 0 S80_0.hA) Tryz.f188 [Enc.enc s] (fun _=>none) 0 (fun v _ _=>R v)=(bif S80_0.toLSpec.pre (qgh,(false,(Rw.nil,((0:Int),((0:Int),(true,(s,(0:Int))))))))then(xpGo (qa5 s) 0 0 (Rw.z Rw.nil)=(([]:List Int),false)→(Int→qeb (Tmps→R (qgy (qfr::qfz))))∧(∀a:List Value,∀b:Nat,∀c:Nat,Int→qeb (jci a b c=true→qcx a 210 (R (qgy (qfr::qfz)))))∧(∀a:List Value,Int→qeb (ja4 a=true→qcx a 210 (R (qgy (qfr::qfz))))))∧(∀a:Int,qeb (xpGo (qa5 s) 0 0 (Rw.z Rw.nil)=(([]:List Int),decide (a=0))→Tmps→qgf (a==0 || true) (qgy [S (bif a==0 then ByteArray.empty else ByteArray.empty),B (a==0&&decide (natO 0>0))]) R))∧(∀a:List Value,∀b:Nat,∀c:Nat,∀d:Int,qeb (jci a b c=true→xpGo (qa5 s) 0 0 (Rw.z Rw.nil)=(zc a b,decide (d=0))→qg5 true a 210 (qgf (jbf a 0 b&& (d==0 || true)) (qgy [S (bif d==0 then jbb a 0 b else jbb a 0 b),B (d==0&&decide (natO b>0))]) R)))else False):=by kernel_rfl
theorem ok80:jan Tryz.prog 188 (sp1 s80):=by
 refine jb9 ok_G17 hmix fn80 l80_0 jag fun s hc=> ?_
 rw[ja2,v80];delta qeb qg5 qgf qgy qa5 qcx qfz qgh qfr;have hc:(s.size≤9223372036854775807):=jab hc
 try dsimp only[s80]
 refine c_t ?_ ⟨fun h=> ?_,fun st' n' f' p' h x=> ?_,fun d' m' cap' st' n' f' p' hr h=> ?_⟩
 ·simp only[S80_0,Rw.ok,Rw.z,Bool.true_and];exact jaa ⟨by omega,by omega,.inl trivial,by omega,by omega,by simp⟩
 ·have h:xpGo (bz s) 0 0 []=([],false):=h;have e:exOK (bz s)=false:=by simp[exOK,h]
  rw[h,e];exact⟨fun _ _ _ _ _=>rfl,fun d' m' cap' _ _ _ _ hr=>c_t (by rw[jbg (jat.1 hr).plain];rfl) fun _=>rfl,fun d' _ _ _ _ hp=>c_t (by rw[jbg hp];rfl) fun _=>rfl⟩
 ·have h:xpGo (bz s) 0 0 []=([],decide (st'=0)):=h;have e:exOK (bz s)=false:=by simp[exOK,h]
  rw[h,e];refine c_t (by simp) ?_;rw[jb4];have e1:(bif st'==0 then ByteArray.empty else ByteArray.empty)=sz []:=by cases st'==0<;>rfl
  have e2:(st'==0&&decide (((0:Nat):Int)>0))=false:=by simp
  rw[e1,e2]
 ·have h:xpGo (bz s) 0 0 []=(zc d' m',decide (st'=0)):=h;have hr:=jat.1 hr;have hl:=ja9 hr;refine c_t (by rw[jbg hr.plain];rfl) fun x=>c_t (by rw[hr.str.1];simp) ?_
  rw[hr.str.2,jb4];have e1:(bif st'==0 then sz (zc d' m')else sz (zc d' m'))=sz (zc d' m'):=by cases st'==0<;>rfl
  have e2:exOK (bz s)=(st'==0&&decide ((m':Int)>0)):=by
   rw[exOK,h];simp only;rw[Bool.eq_iff_iff];simp only[jaf,jae,beq_iff_eq,Bool.not_eq_true',List.isEmpty_eq_false_iff];constructor
   ·rintro ⟨a,b⟩;have:=List.length_pos_iff.2 b;exact⟨a,by omega⟩
   ·rintro ⟨a,b⟩;exact⟨a,fun q=>by rw[q]at hl;simp at hl;omega⟩
  rw[e1,e2,h]
end Go.Px
end
