/-
  Part 1: the run and laws.
-/
import Derived.Test.YtpflidodnhbeoaaGreatDoorKAb1
import Derived.Test.YtpflidodnhbeoaaGreatDoorKAb2
import Derived.Test.YtpflidodnhbeoaaGreatDoorKAb3
import Derived.Test.YtpflidodnhbeoaaGreatDoorKAb4
import Derived.Test.YtpflidodnhbeoaaGreatDoorKAb5
import Derived.Test.YtpflidodnhbeoaaGreatDoorKAb6
import Derived.Test.YtpflidodnhbeoaaGreatDoorKAb7
import Derived.Test.YtpflidodnhbeoaaGreatDoorKAbE
import Derived.Test.YtpflidodnhbeoaaGreatDoorKAb8
import Derived.Test.YtpflidodnhbeoaaGreatDoorKAb9
import Derived.Test.YtpflidodnhbeoaaGreatDoorKAb10
import Derived.Test.YtpflidodnhbeoaaGreatDoorKAb11
import Derived.Test.YtpflidodnhbeoaaGreatDoorKAb12
import Derived.Test.YtpflidodnhbeoaaGreatDoorKAb13
import Derived.Test.YtpflidodnhbeoaaGreatDoorKAb14
import Derived.Test.YtpflidodnhbeoaaGreatDoorKAb15
import Derived.Test.YtpflidodnhbeoaaGreatDoorKAb16
import Derived.Test.YtpflidodnhbeoaaGreatDoorKAb17
import Derived.Test.YtpflidodnhbeoaaGreatDoorKAb18
import Derived.Test.YtpflidodnhbeoaaGreatDoorKAb19
import Derived.WalkKit
import Derived.ProofKit
import Derived.Test.YtpflidodnhbeoaaGreatDoorLays
import Derived.Laws.RangeAny
import Derived.Shelf.Strings.LastIndex
import Derived.Shelf.Strconv.Itoa3
import Derived.Shelf.Strconv.AppendUint10
import Derived.Lib.ItoaLen
import Derived.Shelf.Strconv.Atoi
import Derived.Lib.AtoiErrMem
import Derived.Laws.BitsLemmas
import Derived.Lib.Strings
import Derived.Test.YtpflidodnhbeoaaGreatDoorProg
import Derived.LaidEql
import Derived.Stop.Asserts
import Derived.RowKitTokens
import Derived.Shelf.Small.Strs
import Derived.JoinedOf
import Derived.SevenTiedAt
import Derived.Test.YtpflidodnhbeoaaGreatDoorRows
import Derived.Lay
import Derived.LaidHandle
import Derived.LaidSub
import Derived.Lib.LaidTab
import Derived.Lib.LaidU8
import Derived.LaidMore
set_option linter.unusedVariables false
set_option linter.unusedSimpArgs false
section
namespace Go.Px
open Go Go.Ab
def bz(s:Y):J:=s.data.toList.map fun b=>(b.toNat:Int)
def sz(l:J):Y:=⟨(l.map fun n=>UInt8.ofNat n.toNat).toArray⟩
def IsB(l:J):Prop:=∀c∈l,0≤c∧c<256
@[simp] theorem jap (s:Y):(bz s).length=s.size:=by
 unfold bz;rw[List.length_map,Array.length_toList];rfl
theorem jen(s:Y)(i:Nat):jaj s i=(bz s).getD i 0:=by
 simp only[jaj,bz,List.getD_eq_getElem?_getD,List.getElem?_map]
theorem jd1(s:Y):IsB (bz s):=by
 intro c hc;simp only[bz,List.mem_map]at hc;obtain⟨b,_,rfl⟩:=hc;have:=b.toNat_lt;omega
theorem jhk(s:Y):sz (bz s)=s:=by
 simp only[sz,bz,List.map_map]
 have:((fun n:Int=>UInt8.ofNat n.toNat) ∘fun b:UInt8=>(b.toNat:Int))=id:=by
  funext b;simp
 rw[this];simp
theorem jdd{l:J}(h:IsB l):bz (sz l)=l:=by
 simp only[sz,bz,List.map_map]
 have:∀n∈l,((fun b:UInt8=>(b.toNat:Int)) ∘fun n:Int=>UInt8.ofNat n.toNat) n=n:=by
  intro n hn;have:=h n hn;simp only[Function.comp,UInt8.toNat_ofNat'];omega
 rw[List.map_congr_left this];simp
theorem jmp{a b:Y}(h:bz a=bz b):a=b:=by rw[←jhk a,←jhk b,h]
theorem jcw(a b:Y):bz (a++b)=bz a++bz b:=by
 simp[bz,ByteArray.data_append]
theorem jcb(s:Y)(i j:Nat):bz (s.extract i j)=((bz s).take j).drop i:=by
 simp[bz,ByteArray.data_extract,List.map_drop,List.map_take,Array.toList_extract,List.extract_eq_take_drop,List.drop_take]
theorem sz_append(a b:J):sz (a++b)=sz a++sz b:=by
 apply ByteArray.ext;simp[sz,ByteArray.data_append]
theorem jcr(l:J):(sz l).size=l.length:=by simp[sz,ByteArray.size]
theorem jcd(a b:Y):(a.toList==b.toList)=decide (bz a=bz b):=by
 rw[ByteArray.toList_eq,ByteArray.toList_eq,Bool.eq_iff_iff,beq_iff_eq,jae];constructor
 ·intro h;simp[bz,h]
 ·intro h;have:=jmp h;rw[this]
theorem IsB.append{a b:J}(ha:IsB a)(hb:IsB b):IsB (a++b):=fun c hc=>by
 rcases List.mem_append.1 hc with h | h
 ·exact ha c h
 ·exact hb c h
theorem IsB.take{a:J}(ha:IsB a)(n:Nat):IsB (a.take n):=fun c hc=>ha c (List.mem_of_mem_take hc)
theorem IsB.drop{a:J}(ha:IsB a)(n:Nat):IsB (a.drop n):=fun c hc=>ha c (List.mem_of_mem_drop hc)
theorem IsB.nil:IsB []:=fun c hc=>by cases hc
theorem IsB.cons{c:Int}{a:J}(h:0≤c∧c<256)(ha:IsB a):IsB (c::a):=fun d hd=>by
 rcases List.mem_cons.1 hd with rfl | hd
 ·exact h
 ·exact ha d hd
def cz(l:J):E:=l.map fun n=> .int .u8 n
@[simp] theorem cz_length (l:J):(cz l).length=l.length:=by simp[cz]
theorem cz_append(a b:J):cz (a++b)=cz a++cz b:=by simp[cz]
theorem cz_cell:∀l:J,(cz l).all jfz=true
 | []=>rfl
 | c::r=>by
  have:=cz_cell r;simp only[cz]at this;simp[cz,jfz,this]
theorem jjr:∀l:J,ja5 (cz l)=true
 | []=>rfl
 | c::r=>by simpa[cz,ja5,plain]using jjr r
theorem jel:∀l:J,jcc (cz l)=true
 | []=>rfl
 | c::r=>by simpa[cz,jcc]using jel r
theorem cz_bytesL:∀l:J,jg3 (cz l)=l.map fun n=>UInt8.ofNat n.toNat
 | []=>rfl
 | c::r=>by
  have:=cz_bytesL r;simp only[cz]at this;simp only[cz,List.map_cons,jg3,this]
theorem bytesOf_cz(l:J)(tail:E):jbb (cz l++tail) 0 l.length=sz l:=by
 simp only[jbb,List.drop_zero];rw[List.take_append_of_le_length (by simp),List.take_of_length_le (by simp),cz_bytesL];rfl
theorem bytesOK_cz(l:J)(tail:E):jbf (cz l++tail) 0 l.length=true:=by
 simp only[jbf,List.drop_zero,jaf,Nat.ble_eq,List.length_append,cz_length];rw[List.take_append_of_le_length (by simp),List.take_of_length_le (by simp)];exact⟨jel l,by omega⟩
theorem strCells_eq(s:Y):Lib.strCells s=cz (bz s):=by
 simp[Lib.strCells,cz,bz]
theorem jei(l:J)(i:Nat)(h:i<l.length):l.drop i=l.getD i 0::l.drop (i+1):=by
 rw[List.drop_eq_getElem_cons h];simp[List.getD_eq_getElem?_getD,h]
end Go.Px
end
section
namespace Go.Px
open Go Go.Ab Go.Proofs Go.Shelf
def punchedZ:J:=[123,65,66,67,68,69,70,71,72,73,125,74,75,76,77,78,79,80,81,82]
def pow10Z:J:=[1,10,100,1000,10000,100000,1000000,10000000,100000000,1000000000,10000000000,100000000000,1000000000000,10000000000000,100000000000000,1000000000000000,10000000000000000,100000000000000000,1000000000000000000,10000000000000000000]
def jmy:Nat→Option E
 | 5=>some (punchedZ.map fun n=> .int .u8 n)
 | 1=>some (pow10Z.map fun n=> .int .u64 n)
 | 0=>some [.iface 229 (.agg ⟨[.pointer (some ⟨10,105,none⟩)]⟩)]
 | _=>none
instance tabs:Tabs where
 row:=jmy
 plain:=fun b r h=>by
  match b,h with
  | 5,h=>cases h;rfl
  | 1,h=>cases h;rfl
  | 0,h=>cases h;rfl
theorem hmix:Tryz.prog.follows .mixedOrders=true:=by kernel_rfl
structure U8 where n:Int
structure R32 where n:Int
structure U64 where n:Int
instance:Enc U8 where
 enc a:= .int .u8 a.n
 dec | .int .u8 n=>some ⟨n⟩ | _=>none
 dec_some:=by
  intro v a h;split at h
  ·cases h;rfl
  ·cases h
 plain_enc _:=rfl
instance:Enc R32 where
 enc a:= .int .i32 a.n
 dec | .int .i32 n=>some ⟨n⟩ | _=>none
 dec_some:=by
  intro v a h;split at h
  ·cases h;rfl
  ·cases h
 plain_enc _:=rfl
instance:Enc U64 where
 enc a:= .int .u64 a.n
 dec | .int .u64 n=>some ⟨n⟩ | _=>none
 dec_some:=by
  intro v a h;split at h
  ·cases h;rfl
  ·cases h
 plain_enc _:=rfl
theorem pure_shelf{P:Program}{f:FuncId}{s:Ab.Spec}(hc:jbw P f)
  (h:∀args bs v,s args bs=some (true,v)→ja5 args=true∧ ∀w,TabsIn w.heap.size w→Calls P f args.toArray w fun e w'=>e= .returned v∧RowKit.Below w.heap.size w w'):jao P f s:=by
 refine⟨hc,fun args v N w0 lk ι w hrel hs hp=> ?_⟩;obtain⟨h1,h2⟩:=h _ _ _ hs;have hren:args.map (ren ι)=args:=by rw[←jb0,jb2 _ h1]
 rw[hren];exact h2 w hrel.tabs
theorem jcp{w w':World}(h:w'=w):RowKit.Below w.heap.size w w':=h▸RowKit.Below.refl _ _
section
variable {α β : Type} [Enc α] [Enc β] {P : Program} {f : FuncId}
theorem shelf1(hc:jbw P f){g:α→Bool×Value}(h:∀a,(g a).1=true→ ∀w,TabsIn w.heap.size w→Calls P f #[Enc.enc a] w fun e w'=>e= .returned (g a).2∧RowKit.Below w.heap.size w w'):jao P f (sp1 g):=by
 refine pure_shelf hc fun args bs v hs=> ?_
 simp only[sp1]at hs;split at hs
 ·split at hs
  ·rename_i ha;simp only[Option.some.injEq]at hs;obtain rfl:=Enc.dec_some ha;exact⟨by simp[ja5,Enc.plain_enc],by have q:=h _ (by rw[hs]);rw[hs]at q;exact q⟩
  ·cases hs
 ·cases hs
theorem jdu(hc:jbw P f){g:α→β→Bool×Value}(h:∀a b,(g a b).1=true→ ∀w,TabsIn w.heap.size w→Calls P f #[Enc.enc a,Enc.enc b] w fun e w'=>e= .returned (g a b).2∧RowKit.Below w.heap.size w w'):jao P f (sp2 g):=by
 refine pure_shelf hc fun args bs v hs=> ?_
 simp only[sp2]at hs;split at hs
 ·split at hs
  ·rename_i ha hb;simp only[Option.some.injEq]at hs;obtain rfl:=Enc.dec_some ha;obtain rfl:=Enc.dec_some hb;exact⟨by simp[ja5,Enc.plain_enc],by have q:=h _ _ (by rw[hs]);rw[hs]at q;exact q⟩
  ·cases hs
 ·cases hs
end
def idxZ:J→Int→Int
 | [],_=> -1
 | b::l,c=>if b=c then 0 else if idxZ l c= -1 then -1 else idxZ l c+1
def cntZ(l:J)(c:Int):Nat:=(l.filter (· ==c)).length
def sufZ(l p:J):Bool:=decide (p.length≤l.length∧l.drop (l.length-p.length)=p)
def hasZ(l:J)(c:Int):Bool:=l.any (· ==c)
def anyZ(l cs:J):Bool:=l.any (hasZ cs)
def jb4(l cs:J):J:=((l.reverse.dropWhile (hasZ cs)).reverse).dropWhile (hasZ cs)
def repZ(l:J):Nat→J
 | 0=> []
 | n+1=>l++repZ l n
def numZ:J→Int→Int
 | [],a=>a
 | c::r,a=>numZ r (a*10+(c-48))
def je3(c:Int):Bool:=decide (48≤c∧c≤57)
abbrev zl(l:Yb):J:=l.map fun b=>(b.toNat:Int)
theorem jlq{a b:UInt8}:((a.toNat:Int)=b.toNat)↔a=b:=by
 rw[Int.natCast_inj,UInt8.toNat_inj]
theorem jma(c:UInt8):∀l:Yb,Lib.indexByte l c=idxZ (zl l) c.toNat
 | []=>rfl
 | b::l=>by
  simp only[Lib.indexByte,zl,List.map_cons,idxZ,jma c l,jlq,beq_iff_eq]
theorem jlg(c:UInt8):∀l:Yb,l.contains c=hasZ (zl l) c.toNat
 | []=>rfl
 | b::l=>by
  have:=jlg c l;simp only[hasZ,zl]at this;rw[List.contains_cons,this];simp only[hasZ,zl,List.map_cons,List.any_cons];congr 1;rw[Bool.eq_iff_iff,beq_iff_eq,beq_iff_eq,jlq];exact eq_comm
theorem ja8{l:J}{c:Int}:hasZ l c=true↔c∈l:=by simp[hasZ]
theorem jgs(c:Int):∀l:J,-1≤idxZ l c∧(0≤idxZ l c↔c∈l)
 | []=>by simp[idxZ]
 | b::l=>by
  obtain⟨h1,h2⟩:=jgs c l;simp only[idxZ,List.mem_cons];by_cases hb:b=c
  ·simp[hb]
  ·rw[if_neg hb];have hb':¬c=b:=fun h=>hb h.symm
   split
   ·rename_i h;rw[h]at h2;simp only[hb',false_or];exact⟨by omega,by rw[←h2]⟩
   ·exact⟨by omega,by simp only[hb',false_or];rw[←h2];omega⟩
theorem cnt_zl(c:UInt8):∀l:Yb,Lib.countByte l c=cntZ (zl l) c.toNat
 | []=>rfl
 | b::l=>by
  have ih:=cnt_zl c l;simp only[Lib.countByte,cntZ,zl]at ih;simp only[Lib.countByte,cntZ,zl,List.map_cons,List.count_cons,List.filter_cons,ih];by_cases hb:b=c
  ·simp[hb]
  ·have:((b.toNat:Int)==(c.toNat:Int))=false:=by simpa[jlq]using hb
   simp[hb,this]
theorem zl_inj{a b:Yb}(h:zl a=zl b):a=b:=by
 have:=jmp (a:=⟨a.toArray⟩) (b:=⟨b.toArray⟩) (by simpa[bz]using h);simpa using congrArg (fun s:Y=>s.data.toList) this
theorem suf_zl(s p:Yb):Lib.hasSuffix s p=sufZ (zl s) (zl p):=by
 rw[Bool.eq_iff_iff];simp only[Lib.hasSuffix,sufZ,List.isSuffixOf_iff_suffix,jae,List.length_map];constructor
 ·rintro ⟨t,rfl⟩;exact⟨by simp,by simp⟩
 ·rintro ⟨h1,h2⟩;rw[←List.map_drop]at h2;have e:=zl_inj h2;exact⟨s.take (s.length-p.length),(congrArg (s.take (s.length-p.length)++ ·) e.symm).trans (List.take_append_drop ..)⟩
theorem jex{p:UInt8→Bool}{q:Int→Bool}(h:∀b:UInt8,p b=q b.toNat):∀l:Yb,zl (l.dropWhile p)=(zl l).dropWhile q
 | []=>rfl
 | b::l=>by
  simp only[List.dropWhile_cons,zl,List.map_cons,h b];split
  ·exact jex h l
  ·rfl
theorem trim_zl(l cs:Yb):zl (Lib.trimS l cs)=jb4 (zl l) (zl cs):=by
 have h:∀b:UInt8,cs.contains b=hasZ (zl cs) b.toNat:=fun b=>jlg b cs
 simp only[Lib.trimS,Lib.trimLeftS,Lib.trimRightS,jb4];rw[jex (q:=hasZ (zl cs)) h];congr 1;rw[zl,List.map_reverse,←List.map_reverse];have:=jex (p:=(cs.contains ·)) (q:=hasZ (zl cs)) h l.reverse;rw[List.map_reverse];simp only[zl,List.map_reverse]at this ⊢;rw[this]
theorem jl0(l:Yb):∀n,zl (Lib.repeatL l n)=repZ (zl l) n
 | 0=>rfl
 | n+1=>by
  have:=jl0 l n;simp only[zl]at this;simp[Lib.repeatL,repZ,zl,this]
theorem jg4(l:Yb):(⟨l.toArray⟩:Y)=sz (zl l):=by
 rw[←jhk ⟨l.toArray⟩];simp[bz]
theorem jm9(s:Y):zl s.data.toList=bz s:=rfl
theorem cal {P : Program} {f : FuncId} {fn : Func} (h : P.funcs[f]? = some fn) (hn : (fn.name == "runtime.NumGoroutine") = false) (hb : fn.body.isSome = true) : jbw P f := ⟨fn, h, hn, by cases hf : fn.body with | none => rw [hf] at hb; cases hb | some c => rfl⟩
theorem c141:jbw Tryz.prog 272:=cal Tryz.func272 (by kernel_rfl) (by kernel_rfl)
theorem c157:jbw Tryz.prog 279:=cal Tryz.func279 (by kernel_rfl) (by kernel_rfl)
theorem c130:jbw Tryz.prog 130:=cal Tryz.func130 (by kernel_rfl) (by kernel_rfl)
theorem c132:jbw Tryz.prog 129:=cal Tryz.func129 (by kernel_rfl) (by kernel_rfl)
theorem c102:jbw Tryz.prog 203:=cal Tryz.func203 (by kernel_rfl) (by kernel_rfl)
theorem c89:jbw Tryz.prog 55:=cal Tryz.func55 (by kernel_rfl) (by kernel_rfl)
theorem c88:jbw Tryz.prog 154:=cal Tryz.func154 (by kernel_rfl) (by kernel_rfl)
theorem c78:jbw Tryz.prog 30:=cal Tryz.func30 (by kernel_rfl) (by kernel_rfl)
theorem c68:jbw Tryz.prog 206:=cal Tryz.func206 (by kernel_rfl) (by kernel_rfl)
def s141(s:Y)(c:U8):Bool×Value:=(decide (0≤c.n∧c.n<256),.int .i64 (idxZ (bz s) c.n))
theorem ok141:jao Tryz.prog 272 (sp2 s141):=jdu c141 fun s c hc w _=>by
 have hc:0≤c.n∧c.n<256:=jab hc;refine(Any.strings_IndexByte Tryz.lays137 s c.n w).mono fun e w' ⟨h1,h2⟩=>⟨?_,jcp h2⟩
 rw[h1,jma];simp only[s141]
 have:((c.n.toNat.toUInt8.toNat:Nat):Int)=c.n:=by
  simp only[Nat.toUInt8,UInt8.toNat_ofNat'];omega
 rw[this,jm9]
def oneB(s:Y):Bool:=Nat.beq s.size 1
theorem jef{s:Y}(h:oneB s=true):∃c:UInt8,s=⟨#[c]⟩∧(c.toNat:Int)=(bz s).getD 0 0:=by
 have h:=jah h;have hl:s.data.toList.length=1:=by simpa using h
 match hm:s.data.toList,hl with
 | [c],_=>
  refine⟨c,?_,by simp[bz,hm]⟩;apply ByteArray.ext;apply Array.ext';simpa using hm
def s157(s t:Y):Bool×Value:=(oneB t,.int .i64 (cntZ (bz s) ((bz t).getD 0 0)))
theorem ok157:jao Tryz.prog 279 (sp2 s157):=jdu c157 fun s t hc w _=>by
 obtain⟨c,h1,h2⟩:=jef hc;have e:Enc.enc t=Value.string ⟨#[c]⟩:=congrArg Value.string h1;rw[e];refine(Any.strings_Count_one Tryz.lays138 s c w).mono fun e w' ⟨h3,h4⟩=>⟨?_,jcp h4⟩
 rw[h3,cnt_zl,h2];rfl
def s132(s t:Y):Bool×Value:=(oneB t,.bool (hasZ (bz s) ((bz t).getD 0 0)))
theorem ok132:jao Tryz.prog 129 (sp2 s132):=jdu c132 fun s t hc w _=>by
 obtain⟨c,h1,h2⟩:=jef hc;have e:Enc.enc t=Value.string ⟨#[c]⟩:=congrArg Value.string h1;rw[e];refine(Any.strings_Contains_one Tryz.lays144 s c w).mono fun e w' ⟨h3,h4⟩=>⟨?_,jcp h4⟩
 rw[h3];simp only[s132];rw[←h2];congr 2;rw[Bool.eq_iff_iff,jae,jma,(jgs _ _).2,ja8,jm9]
def s130(s t:Y):Bool×Value:=(decide (s.size≤9223372036854775807),.bool (sufZ (bz s) (bz t)))
theorem ok130:jao Tryz.prog 130 (sp2 s130):=jdu c130 fun s t hc w _=>by
 refine(Any.strings_HasSuffix Tryz.lays100 s t w (jab hc)).mono fun e w' ⟨h3,h4⟩=>⟨?_,jcp h4⟩
 rw[h3,suf_zl];rfl
def asc(l:J):Bool:=l.all fun c=>decide (c<128)
theorem jd7{s:Y}(h:asc (bz s)=true):∀(j:Nat) b,s.data.toList[j]?=some b→b.toNat<128:=fun j b hb=>by
 simp only[asc,bz,List.all_map,List.all_eq_true]at h;have:=h b (List.mem_of_getElem? hb);simp at this;omega
theorem info128:(Tryz.prog.info? (Tryz.lays150_ren.t 116)).map (fun i=>(i.zero,i.size))=some (some (.agg (Array.replicate 256 (.bool false))),256):=by kernel_rfl
theorem ji8:(Tryz.prog.info? (Tryz.lays160_ren.t 116)).map (fun i=>(i.zero,i.size))=some (some (.agg (Array.replicate 256 (.bool false))),256):=by kernel_rfl
theorem indexAny_zl(cs:Yb):∀l:Yb,(0≤Lib.indexAny l cs)↔anyZ (zl l) (zl cs)=true
 | []=>by simp[Lib.indexAny,anyZ]
 | b::l=>by
  have ih:=indexAny_zl cs l;have g:=Lib.indexAny_ge cs l;have hb:hasZ (zl cs) b.toNat=cs.contains b:=(jlg b cs).symm;simp only[anyZ,zl,List.map_cons,List.any_cons]at ih hb ⊢;rw[hb];unfold Lib.indexAny;split
  ·simp_all
  ·rename_i hn;have hn:cs.contains b=false:=by simpa using hn
   rw[hn,Bool.false_or,←ih];split
   ·rename_i h;have h:=eq_of_beq h;constructor<;>intro<;>omega
   ·rename_i h;have h:Lib.indexAny l cs≠ -1:=by simpa using h
    constructor<;>intro<;>omega
def s102(s t:Y):Bool×Value:=(decide (s.size≤1000) && (decide (t.size≤1000) && (asc (bz s) &&asc (bz t))),.bool (anyZ (bz s) (bz t)))
theorem ok102:jao Tryz.prog 203 (sp2 s102):=jdu c102 fun s t hc w _=>by
 simp only[s102,jaf,jae]at hc;obtain⟨h1,h2,h3,h4⟩:=hc;refine(Any.strings_ContainsAny_laid Tryz.lays150 info128 s t w (by omega) (by omega) (jd7 h3) (jd7 h4)).mono fun e w' ⟨h5,h6⟩=>⟨?_,h6⟩
 rw[h5];simp only[s102];congr 2;rw[Bool.eq_iff_iff,Lib.containsAny,jae,indexAny_zl];rfl
theorem szO_ex:∃f:J→Y,f=sz:=⟨_,rfl⟩
noncomputable def szO : J → Y := Classical.choose szO_ex
theorem jc3(l:J):szO l=sz l:=by rw[szO,Classical.choose_spec szO_ex]
noncomputable def s89 (s t : Y) : Bool × Value := (decide (s.size ≤ 1000) && (decide (t.size ≤ 1000) && asc (bz t)), .string (szO (jb4 (bz s) (bz t))))
theorem ok89:jao Tryz.prog 55 (sp2 s89):=jdu c89 fun s t hc w _=>by
 simp only[s89,jaf,jae]at hc;obtain⟨h1,h2,h3⟩:=hc;refine(Any.strings_Trim_laid Tryz.lays160 ji8 s t w (by omega) (by omega) (jd7 h3)).mono fun e w' ⟨h5,h6⟩=>⟨?_,h6⟩
 rw[h5,jg4,trim_zl];simp only[s89,jc3];rfl
def s88(s t:Y):Bool×Value:=(oneB t&&asc (bz t),.string (sz ((bz s).dropWhile (· ==(bz t).getD 0 0))))
theorem ok88:jao Tryz.prog 154 (sp2 s88):=jdu c88 fun s t hc w _=>by
 simp only[s88,jaf]at hc;obtain⟨c,h1,h2⟩:=jef hc.1;have hlt:c.toNat<128:=jd7 hc.2 0 c (by rw[h1];rfl);have e:Enc.enc t=Value.string ⟨#[c]⟩:=congrArg Value.string h1;rw[e];refine(Any.strings_TrimLeft_one Tryz.lays161 s c hlt w).mono fun e w' ⟨h3,h4⟩=>⟨?_,jcp h4⟩
 rw[h3,jg4];simp only[s88,Lib.trimLeftB];rw[jex (q:=(· ==(bz t).getD 0 0)) (fun b=>by rw[←h2,Bool.eq_iff_iff,beq_iff_eq,beq_iff_eq,jlq]),jm9]
def s78(s:Y)(n:Int):Bool×Value:=(decide (0≤n∧n≤1000∧s.size≤1000),.string (sz (repZ (bz s) n.toNat)))
theorem ok78:jao Tryz.prog 30 (sp2 s78):=jdu c78 fun s n hc w _=>by
 obtain⟨h1,h2,h3⟩:=jab hc
 have e:Enc.enc n=Value.int .i64 (n.toNat:Int):=by
  show Value.int .i64 n=_;rw[Int.toNat_of_nonneg h1]
 rw[e];have hm:s.size*n.toNat≤1000*1000:=Nat.mul_le_mul h3 (by omega);refine(Any.strings_Repeat Tryz.lays105 Tryz.Builder_Extra_105 s n.toNat w (by omega) (by omega)).mono fun e w' ⟨h4,h5⟩=>⟨?_,h5⟩
 rw[h4,jg4,jl0];rfl
end Go.Px
end
section
namespace Go.Px
open Go Go.Ab Go.Proofs
abbrev I(n:Int):Value:= .int .i64 n
abbrev B(b:Bool):Value:= .bool b
abbrev C8(n:Int):Value:= .int .u8 n
abbrev C64(n:Int):Value:= .int .u64 n
abbrev S(s:Y):Value:= .string s
def e0:Y:=⟨#[]⟩
theorem c_t{b:Bool}{P Q:Prop}(h:b=true)(hp:P):bif b then P else Q:=by rw[h];exact hp
theorem c_f{b:Bool}{P Q:Prop}(h:b=false)(hq:Q):bif b then P else Q:=by rw[h];exact hq
theorem w64{n:Int}(h: -9223372036854775808≤n∧n≤9223372036854775807):IntKind.wrap .i64 n=n:=by rw[IntKind.wrap_i64];omega
theorem w3{a b c d:Int}(ha:0≤a∧a≤1000)(hb:0≤b∧b≤1000)(hc:0≤c∧c≤1000)(hd:0≤d∧d≤1000):
  IntKind.wrap .i64 (IntKind.wrap .i64 (IntKind.wrap .i64 (a+b)+c)+d)=a+b+c+d:=by
 rw[w64 (n:=a+b) (by omega),w64 (n:=a+b+c) (by omega),w64 (by omega)]
theorem w8e(n:Int):IntKind.wrap .u8 n=n%256:=by
 simp[IntKind.wrap,IntKind.bits,IntKind.signed]
theorem w8{n:Int}(h:0≤n∧n<256):IntKind.wrap .u8 n=n:=by rw[w8e];omega
theorem jmu(n:Int):IntKind.wrap .u64 n=n%18446744073709551616:=by
 simp[IntKind.wrap,IntKind.bits,IntKind.signed]
theorem wu64{n:Int}(h:0≤n∧n<18446744073709551616):IntKind.wrap .u64 n=n:=by rw[jmu];omega
theorem jfs(s:Y)(i:Nat):0≤jaj s i∧jaj s i<256:=by
 rw[jen,List.getD_eq_getElem?_getD];cases h:(bz s)[i]? with
 | none=>simp
 | some c=>exact jd1 s c (List.mem_of_getElem? h)
theorem jb7{s:Y}{i:Int}(h0:0≤i)(h:i<s.size):(bz s).drop i.toNat=jaj s i.toNat::(bz s).drop (i+1).toNat:=by
 have:=jei (bz s) i.toNat (by rw[jap];omega);rw[this,jen];congr 2;omega
theorem jcq{s:Y}{i:Int}(h:s.size≤i):(bz s).drop i.toNat=[]:=List.drop_eq_nil_of_le (by rw[jap];omega)
def upZ(c:Int):Int:=if 97≤c∧c≤122 then c-32 else c
def twoL(i:Nat)(h:jb9)(j:Nat)(h':jb9):Nat→Option jb9:=fun k=>match Nat.beq k i with | true=>some h | false=>match Nat.beq k j with | true=>some h' | false=>none
theorem jga{P:Program}{fn:Func}{i j:Nat}{h h':jb9}(hij:Nat.beq j i=false)(hb:(match fn.body with | some c=>blks (twoL i h j h') c | none=> [])=[(i,.loop (ja9 fn i)),(j,.loop (ja9 fn j))])
  (hs:∀t m n K,h t m n K→Ab.Sem P fn.ntmps (.loop (ja9 fn i)) t m n K) (hs':∀t m n K,h' t m n K→Ab.Sem P fn.ntmps (.loop (ja9 fn j)) t m n K):LOKf P (twoL i h j h') fn:=by
 unfold LOKf;split
 ·rename_i c hc;simp only[hc]at hb;refine jgz c fun p hp k hk=> ?_
  rw[hb]at hp;simp only[List.mem_cons,List.not_mem_nil,or_false]at hp;have e:Nat.beq i i=true:=by simp
  have e':Nat.beq j j=true:=by simp
  rcases hp with rfl | rfl
  ·simp only[twoL,e,Option.some.injEq]at hk;subst hk;exact hs
  ·simp only[twoL,hij,e',Option.some.injEq]at hk;subst hk;exact hs'
 ·trivial
theorem lok_one{P:Program}{nt:Nat}{c b:Code}{id:Nat}{h:jb9}(hb:blks (oneL id h) c=[(id,b)])(hs:∀t m n K,h t m n K→Ab.Sem P nt b t m n K):LOK P (oneL id h) nt c:=by
 refine jgz c fun p hp h' hh=> ?_
 rw[hb]at hp;simp only[List.mem_singleton]at hp;subst hp
 have:h'=h:=by
  simp only[oneL]at hh;have e:Nat.beq id id=true:=by simp
  rw[e]at hh;simpa using hh.symm
 subst this;exact hs
theorem bz_take_at{s:Y}{i l:Int}(h0:0≤i)(h:i<l)(hl:l≤s.size):((bz s).take l.toNat).drop i.toNat=jaj s i.toNat::((bz s).take l.toNat).drop (i+1).toNat:=by
 have hlen:((bz s).take l.toNat).length=l.toNat:=by rw[List.length_take,jap];omega
 have:=jei ((bz s).take l.toNat) i.toNat (by omega);rw[this,jen]
 have e:((bz s).take l.toNat).getD i.toNat 0=(bz s).getD i.toNat 0:=by
  simp only[List.getD_eq_getElem?_getD];rw[List.getElem?_take,if_pos (by omega)]
 rw[e];congr 2;omega
theorem jio(l:J)(c:Int):cntZ l c≤l.length:=List.length_filter_le ..
def iv:Value→Int
 | .int _ n=>n
 | _=>0
def zc(c:E)(n:Nat):J:=(c.take n).map iv
def jci(c:E)(n cap:Nat):Bool:=jcc (c.take n) && (ja5 c&& (Nat.beq c.length cap&& (Nat.ble n cap&&Nat.ble cap 9223372036854775807)))
theorem jm7:∀{l:E},jcc l=true→cz (l.map iv)=l
 | [],_=>rfl
 | .int .u8 n::r,h=>by
  have:=jm7 (l:=r) (by simpa[jcc]using h);simp only[cz]at this;simp only[List.map_cons,cz,iv,this]
structure RowP (c:E)(n cap:Nat):Prop where
 bytes:jcc (c.take n)=true
 plain:ja5 c=true
 len:c.length=cap
 le:n≤cap
 cap:cap≤9223372036854775807
theorem jat{c:E}{n cap:Nat}:jci c n cap=true↔RowP c n cap:=by
 simp only[jci,jaf,Nat.ble_eq,Nat.beq_eq];exact⟨fun⟨h1,h2,h3,h4,h5⟩=>⟨h1,h2,h3,h4,h5⟩,fun⟨h1,h2,h3,h4,h5⟩=>⟨h1,h2,h3,h4,h5⟩⟩
theorem jba{c:E}{n cap:Nat}(h:RowP c n cap):(zc c n).length=n:=by
 have h1:=h.len;have h2:=h.le;simp only[zc,List.length_map,List.length_take];omega
theorem RowP.eq{c:E}{n cap:Nat}(h:RowP c n cap):c=cz (zc c n)++c.drop n:=by
 rw[zc,jm7 h.bytes,List.take_append_drop]
theorem RowP.take{c:E}{n cap:Nat}(h:RowP c n cap):c.take n=cz (zc c n):=(jm7 h.bytes).symm
theorem RowP.str{c:E}{n cap:Nat}(h:RowP c n cap):jbf c 0 n=true∧jbb c 0 n=sz (zc c n):=by
 have hz:=jba h;have e:=h.eq;have h1:=bytesOK_cz (zc c n) (c.drop n);have h2:=bytesOf_cz (zc c n) (c.drop n);rw[←e,hz]at h1 h2;exact⟨h1,h2⟩
theorem plainL_append{a b:E}:ja5 (a++b)=true↔ja5 a=true∧ja5 b=true:=by
 simp only[jbc,List.mem_append];exact⟨fun h=>⟨fun v hv=>h v (.inl hv),fun v hv=>h v (.inr hv)⟩,fun⟨h1,h2⟩ v hv=>hv.elim (h1 v) (h2 v)⟩
theorem jj0(L:J){tail:E}{cap:Nat}(ht:ja5 tail=true)(hl:L.length+tail.length=cap)(hc:cap≤9223372036854775807):RowP (cz L++tail) L.length cap∧zc (cz L++tail) L.length=L:=by
 have e:(cz L++tail).take L.length=cz L:=by rw[List.take_append_of_le_length (by simp),List.take_of_length_le (by simp)]
 refine⟨⟨by rw[e];exact jel L,plainL_append.2 ⟨jjr L,ht⟩,by simp[hl],by omega,hc⟩,?_⟩;show List.map iv ((cz L++tail).take L.length)=L;rw[e];simp only[cz,List.map_map];have:(iv∘fun n:Int=>Value.int .u8 n)=id:=by funext n;rfl
 rw[this,List.map_id]
theorem je6{tail:E}{cap need size:Nat}(h:jay tail cap need size=true):ja5 tail=true∧tail.length+need*size=cap*size∧need≤cap∧cap≤9223372036854775807:=by
 simp only[jay,jaf,Nat.ble_eq,Nat.beq_eq]at h;exact⟨h.1.1.1,h.1.1.2,h.1.2,h.2⟩
theorem RowP.app{c:E}{n cap:Nat}(h:RowP c n cap)(M:J){tail:E}{cap':Nat}(ht:jay tail cap' (n+M.length) 1=true):
  RowP (c.take n++cz M++tail) (n+M.length) cap'∧zc (c.take n++cz M++tail) (n+M.length)=zc c n++M:=by
 obtain⟨t1,t2,t3,t4⟩:=je6 ht;have hz:=jba h;have:=jj0 (zc c n++M) (tail:=tail) (cap:=cap') t1 (by simp only[List.length_append,hz];omega) t4;simp only[List.length_append,hz,cz_append]at this;rw[h.take];exact this
theorem RowP.app1{c:E}{n cap:Nat}(h:RowP c n cap)(x:Int){tail:E}{cap':Nat}(ht:jay tail cap' (n+1) 1=true):
  RowP (c.take (n*1)++ [.int .u8 x]++tail) (n+1) cap'∧zc (c.take (n*1)++ [.int .u8 x]++tail) (n+1)=zc c n++ [x]:=by
 rw[Nat.mul_one];exact h.app [x] ht
theorem RowP.ask{c:E}{n cap:Nat}(h:RowP c n cap){k:Nat}(hk:n+k≤1000000):
  (Nat.beq c.length (cap*1) &&Nat.ble n cap&&Nat.ble cap 9223372036854775807&&true&&jbx (n+k) 1)=true:=by
 have h1:=h.len;have h2:=h.le;have h3:=h.cap;simp only[jbx,jaf,Nat.ble_eq,Nat.beq_eq,Nat.mul_one];exact⟨⟨⟨⟨h1,h2⟩,h3⟩,trivial⟩,by omega,by omega⟩
theorem jgl(M:J){tail:E}{cap':Nat}(ht:jay tail cap' M.length 1=true):RowP (cz M++tail) M.length cap'∧zc (cz M++tail) M.length=M:=by
 obtain⟨t1,t2,t3,t4⟩:=je6 ht;exact jj0 M t1 (by omega) t4
theorem RowP.good{c:E}{n cap:Nat}(h:RowP c n cap)(ps:List (Nat×Nat)):jav ps c=true:=goodL_plain h.plain
theorem RowP.rlb{c:E}{n cap:Nat}(h:RowP c n cap)(ps:List (Nat×Nat)):rlbL ps c=c:=rlbL_plain ps h.plain
theorem jft{d:E}{m cap:Nat}(hr:RowP d m cap)(hm:m≤100000)(x:Int)(ps:List (Nat×Nat))(K:Nat→E→Prop)
  (h:∀(cap':Nat)(d':E),RowP d' (m+1) cap'→zc d' (m+1)=zc d m++ [x]→K cap' d'):
  bif Nat.beq d.length (cap*1) &&Nat.ble m cap&&Nat.ble cap 9223372036854775807&&true&&jbx (m+1) 1 then
   ∀(cap1:Nat)(tail:E),jay tail cap1 (m+1) 1=true→
    bif jav ps (List.take (m*1) d++ [.int .u8 x]++tail) &&true&&true then K cap1 (rlbL ps (List.take (m*1) d++ [.int .u8 x]++tail))else False
  else False:=by
 rw[hr.ask (k:=1) (by omega)];intro cap1 tail ht;obtain⟨h1,h2⟩:=hr.app1 x ht;rw[h1.good,h1.rlb];exact h cap1 _ h1 h2
theorem jbi{c:E}(h:ja5 c=true)(n:Nat):ja0 n c=true:=by
 simp[ja0,jaq h]
def G0:Env:=Env.nil
theorem ok_G0:jax Tryz.prog G0:=jan
def s82(c:U8):Bool×Value:=(decide (0≤c.n∧c.n<256),.int .u8 (upZ c.n))
theorem fn82:Fn1 Tryz.prog 211 Tryz.f211:= .m Tryz.func211
def ar(a:Bool)(b c:Prop):Prop:=bif a then b else c
def az(a b c:Bool)(d e:Prop):Prop:=bif a || b then ar c d e else False
def jz(a:Int):Value:= .int .u8 (IntKind.u8.wrap a)
def dx(b:Int)(a:IntKind):Int:=a.wrap b
def fq(a b c:Int):Bool:=decide (a≥b) &&decide (a≤c)
theorem v82(c:U8)(R:Value→Prop):ja1 Tryz.prog G0 noL Tryz.f211 [Enc.enc c] (fun _=>none) 0 (fun v _ _=>R v)=(az (decide (U8.n c≥97)) true (fq (U8.n c) 97 122) (R (jz (dx (U8.n c-97) .u8+65))) (R (.int .u8 (U8.n c)))):=by kernel_rfl
theorem ok82:jao Tryz.prog 211 (sp1 s82):=by
 refine jb8 ok_G0 hmix fn82 jai jag fun c hc=> ?_
 rw[ja2,v82];delta ar az jz dx fq;have hc:(0≤c.n∧c.n<256):=jab hc;dsimp only[s82];unfold upZ;refine c_t (by simp) ?_;apply cond_intro<;>intro h
 ·have h:97≤c.n∧c.n≤122:=by simpa using h
  rw[if_pos h,w8 (n:=c.n-97) (by omega),w8 (by omega),show c.n-97+65=c.n-32 by omega]
 ·have h:¬(97≤c.n∧c.n≤122):=by simpa using h
  rw[if_neg h]
def V40_0:Y×Int×Bool×Int→E:=fun(s,c,b,i)=> [S s,C8 c,B b,I i]
def B40_0:Y×Int×Bool×Int→O:=fun _=> []
def S40_0:LSpec (Y×Int×Bool×Int) where
 live:=[0,1,4,5]
 mid:=[]
 n:=60
 dec vs bs:=match vs,bs with | [.string s,.int .u8 c,.bool b,.int .i64 i],[]=>some (s,c,b,i) | _,_=>none
 pre:=fun(s,c,b,i)=>decide (0≤i∧i≤s.size∧s.size≤9223372036854775807)
 fin:=fun(s,c,b,i) Z=>(bif hasZ ((bz s).drop i.toNat) c then(∀i',Z .ret [S s,C8 c,B true,I i'] [])else Z (.exit 0) [S s,C8 c,B b,I s.size] [])
def ko(a:Bool)(b:Exit→E→O→Prop)(d:O)(c e:E):Prop:=bif a then b .ret c d else b .normal e d
def a7(a b:Int):Bool:=decide (a<b)
def aq(a:Y):Int:=(a.size:Int)
def mj(c d:Bool)(b f:Y)(e:Exit→E→O→Prop)(a:Int)(i l:E)(g h j k m:Value):Prop:=bif a7 a (aq b)then bif c then ko d e [] (.string f::g::h::i) (.string f::j::k::l)else False else e (.exit 0) (.string f::j::m::i) []
def ao(a:Int):Value:= .int .u8 a
def aw(a:Int):Int:=IntKind.i64.wrap (a+1)
def ay(a:Int):Value:= .int .i64 (aw a)
def ak(a:Int):Value:= .int .i64 a
def au(a:Y)(b c:Int):Bool:=jaj a b.toNat==c
def bp(b:Y)(a:Int):Bool:=decide (0≤a∧a<aq b)
theorem r40_0(s:Y)(c:Int)(b:Bool)(i:Int)(jk:Tmps)(R:Exit→E→O→Prop):(jbv Tryz.prog G0 noL Tryz.f202.ntmps (ja9 Tryz.f202 0) (tl S40_0.live (V40_0 (s,c,b,i)) jk) (ml S40_0.mid (B40_0 (s,c,b,i))) S40_0.n fun e t' m' _=>R e (List.map t' S40_0.live) (List.map m' S40_0.mid))=(mj (bp s i) (au s i c) s s R i [ak i] [ay i] (ao c) (B true) (ao c) (B b) (B b)):=by kernel_rfl
theorem l40_0:LOKf Tryz.prog (oneL 0 S40_0.h) Tryz.f202:=by
 refine jbo (h:=S40_0.h) (by kernel_rfl) (jbl ok_G0 hmix (by kernel_rfl) (ja7 _) S40_0 V40_0 B40_0 (fun(s,c,b,i)=>(s.size-i).toNat) ?_ ?_ ?_)
 ·intro vs bs s h;simp only[S40_0]at h;split at h
  all_goals first | (cases h;exact⟨rfl,rfl⟩) | cases h
 ·exact fun _ _ _ h=>h
 ·intro⟨s,c,b,i⟩ jk Z hp hf;rw[r40_0];delta ko a7 aq mj ao aw ay ak au bp;simp only[S40_0]at hp hf;simp only[jae]at hp;apply cond_intro<;>intro h
  ·have h:=jab h;rw[jb7 hp.1 h]at hf;refine c_t (jaa (by omega)) ?_;simp only[hasZ,List.any_cons]at hf;apply cond_intro<;>intro hb
   ·rw[hb]at hf;exact hf i
   ·rw[hb,Bool.false_or]at hf;rw[w64 (by omega)];exact⟨(s,c,b,i+1),rfl,rfl,by simp only[S40_0,jae];omega,by simp only;omega,hf⟩
  ·have h:=jac h;rw[jcq (by omega)]at hf;obtain rfl:i=s.size:=by omega
   exact hf
def s40(s:Y)(c:U8):Bool×Value:=(decide (s.size≤9223372036854775807),.bool (hasZ (bz s) c.n))
theorem fn40:Fn1 Tryz.prog 202 Tryz.f202:= .m Tryz.func202
def ib(a b:Bool)(c d:Prop):Prop:=bif a then ar b c d else False
def fk(a:Value→Prop):Prop:=a (.bool false)
def fu(a:Prop):Prop:=Int→Tmps→a
def bq(b:Y)(a:Int):J:=(bz b).drop a.toNat
theorem v40(s:Y)(c:U8)(R:Value→Prop):ja1 Tryz.prog G0 (oneL 0 S40_0.h) Tryz.f202 [Enc.enc s,Enc.enc c] (fun _=>none) 0 (fun v _ _=>R v)=(ib (S40_0.pre (s,(U8.n c,(false,(0:Int))))) (hasZ (bq s 0) (U8.n c)) (fu (R (B true))) (Tmps→fk R)):=by kernel_rfl
theorem ok40:jao Tryz.prog 202 (sp2 s40):=by
 refine jct ok_G0 hmix fn40 l40_0 jag fun s c hc=> ?_
 rw[ja2,v40];delta ar ib fk fu bq;have hc:(s.size≤9223372036854775807):=jab hc;dsimp only[s40];refine c_t (by simp only[S40_0,jae];omega) ?_;rw[show List.drop (Int.toNat 0) (bz s)=bz s from rfl];exact cond_intro (fun h _ _=>by rw[h]) (fun h _=>by rw[h])
def V75_0:Y×Int×Int×Int→E:=fun(s,c,n,i)=> [S s,C8 c,I n,I i]
def B75_0:Y×Int×Int×Int→O:=fun _=> []
def S75_0:LSpec (Y×Int×Int×Int) where
 live:=[0,1,5,6]
 mid:=[]
 n:=60
 dec vs bs:=match vs,bs with | [.string s,.int .u8 c,.int .i64 n,.int .i64 i],[]=>some (s,c,n,i) | _,_=>none
 pre:=fun(s,c,n,i)=>decide (0≤i∧i≤s.size∧s.size≤9223372036854775807∧0≤n∧n≤i)
 fin:=fun(s,c,n,i) Z=>Z (.exit 0) [S s,C8 c,I (n+cntZ ((bz s).drop i.toNat) c),I s.size] []
def cq(a:Bool)(b:Prop):Prop:=bif a then b else False
def b7(a b:Int):Bool:=decide (a<b)
def ez(c:Bool)(e:Exit→E→O→Prop)(a b:Int)(h:O)(g:E)(f:Nat)(d:Prop):Prop:=bif b7 a b then cq c d else e (.exit f) g h
def ax(a:Y)(c:E)(b:Value):E:= .string a::b::c
def bv(a b:Int):E:=[ak a,ay b]
def j5(a b:Int):E:=[ay a,ay b]
def bw(a b:Int):E:=[ak a,ak b]
theorem r75_0(s:Y)(c:Int)(n:Int)(i:Int)(jk:Tmps)(R:Exit→E→O→Prop):(jbv Tryz.prog G0 noL Tryz.f199.ntmps (ja9 Tryz.f199 0) (tl S75_0.live (V75_0 (s,c,n,i)) jk) (ml S75_0.mid (B75_0 (s,c,n,i))) S75_0.n fun e t' m' _=>R e (List.map t' S75_0.live) (List.map m' S75_0.mid))=(ez (bp s i) R i (aq s) [] (ax s (bw n i) (ao c)) 0 (bif au s i c then R .normal (ax s (j5 n i) (ao c)) []else R .normal (ax s (bv n i) (ao c)) [])):=by kernel_rfl
theorem l75_0:LOKf Tryz.prog (oneL 0 S75_0.h) Tryz.f199:=by
 refine jbo (h:=S75_0.h) (by kernel_rfl) (jbl ok_G0 hmix (by kernel_rfl) (ja7 _) S75_0 V75_0 B75_0 (fun(s,c,n,i)=>(s.size-i).toNat) ?_ ?_ ?_)
 ·intro vs bs s h;simp only[S75_0]at h;split at h
  all_goals first | (cases h;exact⟨rfl,rfl⟩) | cases h
 ·exact fun _ _ _ h=>h
 ·intro⟨s,c,n,i⟩ jk Z hp hf;rw[r75_0];delta cq b7 ez ax ao aw ay ak bv j5 au bw aq bp;simp only[S75_0]at hp hf;simp only[jae]at hp;apply cond_intro<;>intro h
  ·have h:=jab h;rw[jb7 hp.1 h]at hf;refine c_t (jaa (by omega)) ?_;simp only[cntZ,List.filter_cons]at hf;apply cond_intro<;>intro hb
   ·rw[hb]at hf;rw[w64 (n:=n+1) (by omega),w64 (by omega)];refine⟨(s,c,n+1,i+1),rfl,rfl,by simp only[S75_0,jae];omega,by simp only;omega,?_⟩;simp only[S75_0,cntZ];simp only[if_true,List.length_cons]at hf;rw[show n+1+((List.filter (fun x=>x==c) (List.drop (Int.toNat (i+1)) (bz s))).length:Int)=n+((List.filter (fun x=>x==c) (List.drop (Int.toNat (i+1)) (bz s))).length+1:Nat)by omega];exact hf
   ·rw[hb]at hf;rw[w64 (by omega)];exact⟨(s,c,n,i+1),rfl,rfl,by simp only[S75_0,jae];omega,by simp only;omega,hf⟩
  ·have h:=jac h;rw[jcq (by omega)]at hf;obtain rfl:i=s.size:=by omega
   simp only[cntZ,List.filter_nil,List.length_nil]at hf;rw[show n+((0:Nat):Int)=n by omega]at hf;exact hf
def s75(s:Y)(c:U8):Bool×Value:=(decide (s.size≤9223372036854775807),.int .i64 (cntZ (bz s) c.n))
theorem fn75:Fn1 Tryz.prog 199 Tryz.f199:= .m Tryz.func199
def jj(a:Bool)(c:Value)(b:Value→Prop):Prop:=bif a then Tmps→b c else False
theorem v75(s:Y)(c:U8)(R:Value→Prop):ja1 Tryz.prog G0 (oneL 0 S75_0.h) Tryz.f199 [Enc.enc s,Enc.enc c] (fun _=>none) 0 (fun v _ _=>R v)=(jj (S75_0.pre (s,(U8.n c,((0:Int),(0:Int))))) (I (0+(cntZ (bq s 0) (U8.n c):Int))) R):=by kernel_rfl
theorem ok75:jao Tryz.prog 199 (sp2 s75):=by
 refine jct ok_G0 hmix fn75 l75_0 jag fun s c hc=> ?_
 rw[ja2,v75];delta jj bq;have hc:(s.size≤9223372036854775807):=jab hc;dsimp only[s75];refine c_t (by simp only[S75_0,jae];omega) ?_;rw[show List.drop (Int.toNat 0) (bz s)=bz s from rfl,Int.zero_add];exact fun _=>rfl
def rep1(c:Int)(n:Nat):J:=List.replicate n c
theorem jhq(c:Int)(n:Nat):[c]++rep1 c n=rep1 c (n+1):=rfl
def V57_0:Int×Int×E×Nat×Nat×Int→E:=fun(c,n,d,m,cap,i)=> [C8 c,I n,.slice (some ⟨200,0,some 1⟩) m cap,I i]
def B57_0:Int×Int×E×Nat×Nat×Int→O:=fun(c,n,d,m,cap,i)=> [some ⟨d,5,true⟩]
def S57_0:LSpecA (Int×Int×E×Nat×Nat×Int) where
 live:=[0,1,5,6]
 mid:=[200]
 n:=210
 ap:=[(.tmp 5,200)]
 dec vs bs:=match vs,bs with | [.int .u8 c,.int .i64 n,.slice (some ⟨200,0,some 1⟩) m cap,.int .i64 i],[some ⟨d,5,true⟩]=>some (c,n,d,m,cap,i) | _,_=>none
 pre:=fun(c,n,d,m,cap,i)=>jci d m cap&&decide (0≤i∧i≤n∧n≤1000∧i=m)
 fin:=fun(c,n,d,m,cap,i) Z=>∀d' cap',jci d' n.toNat cap'=true→zc d' n.toNat=zc d m++rep1 c (n-i).toNat→Z (.exit 0) [C8 c,I n,.slice (some ⟨200,0,some 1⟩) n.toNat cap',I n] [some ⟨d',5,true⟩]
def d5(a b e:Bool)(c d f:Prop):Prop:=bif a then ar b c d else cq e f
def ie(a:List (Prod Nat Nat))(b:E):Option Blk:=some (.mk (rlbL a b) 5 true)
def ic(a:E):O:=[ie [(200,200)] a]
def dv(a b:Nat):Option Addr:=some (.mk a 0 (some b))
def a9(a b c:Nat):Value:= .slice (dv a 1) b c
def b9(a:Bool)(b:Exit→E→O→Prop)(d:O)(c:E):Prop:=bif a then b .normal c d else False
def gq(b:E)(a:Nat):E:=b.take (a*1)
def mb(e:Int)(d f:E)(a b c:Nat):O:=[ie [(a,b)] (gq d c++ [ao e]++f)]
def nh(e:Int)(d f:E)(a b c:Nat):Bool:=jav [(a,b)] (gq d c++ [ao e]++f) &&true
def pp(g:Exit→E→O→Prop)(f l:Int)(k:IntKind)(e m:E)(a c d:Nat)(h i j:Value):Prop:=∀b:E,jay b a (c+1) 1=true→b9 (nh f e b d 200 c&&true) g (mb f e b d 200 c) (h::i::j:: .int k l::m)
def f9(c:E)(a b:Nat):Bool:=jav [(a,b)] c&&true&&true
def iq(a:E)(b c:Nat):Bool:=a.length.beq (b*1) &&c.ble b&&b.ble 9223372036854775807&&true
def gn(a:E)(b c d:Nat):Bool:=iq a b c&&jbx (c+1) d
theorem r57_0(c:Int)(n:Int)(d:E)(m:Nat)(cap:Nat)(i:Int)(jk:Tmps)(R:Exit→E→O→Prop):(jbv Tryz.prog G0 noL Tryz.f229.ntmps (ja9 Tryz.f229 0) (tl S57_0.live (V57_0 (c,n,d,m,cap,i)) jk) (ml S57_0.mid (B57_0 (c,n,d,m,cap,i))) S57_0.n fun e t' m' _=>S57_0.out R e t' m')=(d5 (b7 i n) (gn d cap m 1) (f9 d 200 200) (∀a:Nat,pp R c (aw i) .i64 d [] a m 216 (ao c) (ak n) (a9 200 (m+1) a)) False (R (.exit 0) [ao c,ak n,a9 200 m cap,ak i] (ic d))):=by kernel_rfl
theorem l57_0:LOKf Tryz.prog (oneL 0 S57_0.hA) Tryz.f229:=by
 refine jbo (h:=S57_0.hA) (by kernel_rfl) (jbr ok_G0 hmix (by kernel_rfl) (ja7 _) S57_0 V57_0 B57_0 (fun(c,n,d,m,cap,i)=>(n-i).toNat) ?_ ?_ ?_)
 ·intro vs bs s h;simp only[S57_0]at h;split at h
  all_goals first | (cases h;exact⟨rfl,rfl⟩) | cases h
 ·exact fun⟨c,n,d,m,cap,i⟩ hp=>by
   simp only[S57_0,jaf]at hp;simp[V57_0,B57_0,S57_0,ja0,jbz,idsL,ids,jaq (jat.1 hp.1).plain]
 ·intro⟨c,n,d,m,cap,i⟩ jk Z hp hf;rw[r57_0];delta cq ar d5 ie ic ak dv a9 ao b9 gq mb nh pp aw f9 iq gn b7;simp only[S57_0]at hp hf;simp only[jaf,jae]at hp;obtain⟨hr,hp⟩:=hp;have hr:=jat.1 hr;apply cond_intro<;>intro h
  ·have h:=jab h;refine c_t (hr.ask (by omega)) (fun cap1 tail ht=> ?_);obtain⟨h1,h2⟩:=hr.app1 c ht;refine c_t (by rw[h1.good];rfl) ?_;rw[h1.rlb,w64 (by omega)];refine⟨(c,n,_,m+1,cap1,i+1),rfl,rfl,by simp only[S57_0,jaf,jae];exact⟨jat.2 h1,by omega⟩,by simp only;omega,?_⟩;intro d' cap' g1 g2;refine hf d' cap' g1 ?_;rw[g2,h2,show(n-i).toNat=(n-(i+1)).toNat+1 by omega,←jhq,List.append_assoc]
  ·have h:=jac h;refine c_t (by rw[hr.good];rfl) ?_;rw[hr.rlb];obtain rfl:i=n:=by omega
   have e:i.toNat=m:=by omega
   have:=hf d cap (by rw[e];exact jat.2 hr) (by rw[e];simp[rep1]);rw[e]at this;exact this
def s57(c:U8)(n:Int):Bool×Value:=(decide (0≤n∧n≤1000),.string (sz (rep1 c.n n.toNat)))
theorem fn57:Fn1 Tryz.prog 229 Tryz.f229:= .m Tryz.func229
def cu(a:Bool)(c:Value)(b:Value→Prop):Prop:=bif a then b c else False
def lx(h:Bool)(d e:J)(a g:E)(b c f:Nat)(i:Value→Prop):Prop:=jci a b c=true→zc a b=d++e→(bif ja0 f g&&h then Tmps→cu (jbf a 0 b) (.string (jbb a 0 b)) i else False)
def kl(a:Int):Nat:=Int.toNat (a-0)
theorem v57(c:U8)(n:Int)(R:Value→Prop):ja1 Tryz.prog G0 (oneL 0 S57_0.hA) Tryz.f229 [Enc.enc c,Enc.enc n] (fun _=>none) 0 (fun v _ _=>R v)=(bif S57_0.toLSpec.pre (U8.n c,(n,(([]:E),(0,(0,(0:Int))))))then∀a:E,∀b:Nat,lx true (zc [] 0) (rep1 (U8.n c) (kl n)) a a n.toNat b 210 R else False):=by kernel_rfl
theorem ok57:jao Tryz.prog 229 (sp2 s57):=by
 refine jct ok_G0 hmix fn57 l57_0 jag fun c n hc=> ?_
 rw[ja2,v57];delta cu lx kl;have hc:(0≤n∧n≤1000):=jab hc;dsimp only[s57];refine c_t ?_ (fun d' cap' h1 h2=> ?_)
 ·simp only[S57_0,jaf,jae];exact⟨rfl,by omega⟩
 have h1:=jat.1 h1;refine c_t (by rw[jbi h1.plain];rfl) (fun _=>c_t h1.str.1 ?_);rw[h1.str.2,h2,show(n-0).toNat=n.toNat by omega];rfl
def tenZ(n:Nat):Int:=10^n
theorem tenZ_succ(n:Nat):tenZ (n+1)=tenZ n*10:=Int.pow_succ ..
theorem tenZ_le{n:Nat}(h:n≤18):1≤tenZ n∧tenZ n≤1000000000000000000:=by
 have:n=0∨n=1∨n=2∨n=3∨n=4∨n=5∨n=6∨n=7∨n=8∨n=9∨n=10∨n=11∨n=12∨n=13∨n=14∨n=15∨n=16∨n=17∨n=18:=by omega
 rcases this with rfl | rfl | rfl | rfl | rfl | rfl | rfl | rfl | rfl | rfl | rfl | rfl | rfl | rfl | rfl | rfl | rfl | rfl | rfl<;>decide
def unK(c:Int):Bool:=hasZ punchedZ c
def unD(c:Int):Int:=if unK c then(idxZ punchedZ c)%10 else 0
def unM(c:Int):Bool:=if unK c then decide (10≤idxZ punchedZ c)else false
def puZ(d:Int)(m:Bool):Int:=if 0≤d∧d≤9 then punchedZ.getD (if m then d+10 else d).toNat 0 else 0
def sgZ(c:Int)(m:Bool):Int:=if c=36 then 36 else if m then(if c=43 then 32 else 45)else if c=45 then 32 else 43
def fmZ(c d:Int)(m:Bool):Int:=if c=89∧d=48 then 32 else if c=84∨(c=73∧m=false)∨(c=82∧m=true)then puZ (d-48) m else d
def letZ(b:Int):Bool:=decide (65≤b∧b≤90∨97≤b∧b≤122)
def oneZ(c b:Int):Bool:=if c=88∨b=32 then true else if c=57 then je3 b else letZ b
theorem dig_cases{d:Int}(h:0≤d∧d≤9):d=0∨d=1∨d=2∨d=3∨d=4∨d=5∨d=6∨d=7∨d=8∨d=9:=by omega
def s29(c:U8):Bool×Value:=(true,.tuple ⟨[.int .i64 (unD c.n),.bool (unM c.n),.bool (unK c.n)]⟩)
theorem fn29:Fn1 Tryz.prog 209 Tryz.f209:= .m Tryz.func209
def al(a:E):Value:= .tuple ⟨a⟩
def fv:E:=[.bool false]
def dw:E:=[.bool true]
def lf(b:Int)(a:Value→Prop):Prop:=a (al (ak b:: .bool true::dw))
def d6(a:Int)(b:Px.U8):Bool:=a==U8.n b
def lg(b:Int)(a:Value→Prop):Prop:=a (al (ak b:: .bool false::dw))
theorem v29(c:U8)(R:Value→Prop):ja1 Tryz.prog G0 noL Tryz.f209 [Enc.enc c] (fun _=>none) 0 (fun v _ _=>R v)=(bif d6 123 c then lg 0 R else bif d6 125 c then lf 0 R else bif d6 65 c then lg 1 R else bif d6 74 c then lf 1 R else bif d6 66 c then lg 2 R else bif d6 75 c then lf 2 R else bif d6 67 c then lg 3 R else bif d6 76 c then lf 3 R else bif d6 68 c then lg 4 R else bif d6 77 c then lf 4 R else bif d6 69 c then lg 5 R else bif d6 78 c then lf 5 R else bif d6 70 c then lg 6 R else bif d6 79 c then lf 6 R else bif d6 71 c then lg 7 R else bif d6 80 c then lf 7 R else bif d6 72 c then lg 8 R else bif d6 81 c then lf 8 R else bif d6 73 c then lg 9 R else bif d6 82 c then lf 9 R else R (al (ak 0::B false::fv))):=by kernel_rfl
theorem ok29:jao Tryz.prog 209 (sp1 s29):=by
 refine jb8 ok_G0 hmix fn29 jai jag fun c hc=> ?_
 rw[ja2,v29];delta al fv ak dw lf d6 lg;dsimp only[s29];obtain⟨c⟩:=c;dsimp only
 repeat' (refine cond_intro (fun h=> ?_) (fun h=> ?_))
 all_goals first
  | (have h:=eq_of_beq h;subst h;rfl)
  | (have hk : unK c = false := by simp_all [unK, hasZ, punchedZ]
     simp[unD,unM,hk])
def s28(c:U8):Bool×Value:=(true,.tuple ⟨[.int .i64 (unD c.n),.bool (unM c.n),.bool (unK c.n)]⟩)
theorem fn28:Fn1 Tryz.prog 248 Tryz.f248:= .m Tryz.func248
def ig(b:Int)(c:Nat)(a:Value→Prop):Prop:=a (al (ak b:: .bool (decide (c≥10))::dw))
theorem v28(c:U8)(R:Value→Prop):ja1 Tryz.prog G0 noL Tryz.f248 [Enc.enc c] (fun _=>none) 0 (fun v _ _=>R v)=(bif d6 123 c then ig 0 0 R else bif d6 65 c then ig 1 1 R else bif d6 66 c then ig 2 2 R else bif d6 67 c then ig 3 3 R else bif d6 68 c then ig 4 4 R else bif d6 69 c then ig 5 5 R else bif d6 70 c then ig 6 6 R else bif d6 71 c then ig 7 7 R else bif d6 72 c then ig 8 8 R else bif d6 73 c then ig 9 9 R else bif d6 125 c then ig 0 10 R else bif d6 74 c then ig 1 11 R else bif d6 75 c then ig 2 12 R else bif d6 76 c then ig 3 13 R else bif d6 77 c then ig 4 14 R else bif d6 78 c then ig 5 15 R else bif d6 79 c then ig 6 16 R else bif d6 80 c then ig 7 17 R else bif d6 81 c then ig 8 18 R else bif d6 82 c then ig 9 19 R else R (al (ak 0::B false::fv))):=by kernel_rfl
theorem ok28:jao Tryz.prog 248 (sp1 s28):=by
 refine jb8 ok_G0 hmix fn28 jai jag fun c hc=> ?_
 rw[ja2,v28];delta al fv ak dw ig d6;dsimp only[s28];obtain⟨c⟩:=c;dsimp only
 repeat' (refine cond_intro (fun h=> ?_) (fun h=> ?_))
 all_goals first
  | (have h:=eq_of_beq h;subst h;rfl)
  | (have hk : unK c = false := by simp_all [unK, hasZ, punchedZ]
     simp[unD,unM,hk])
def s27(d:Int)(m:Bool):Bool×Value:=(true,.tuple ⟨[.int .u8 (puZ d m),.bool (decide (0≤d∧d≤9))]⟩)
theorem fn27:Fn1 Tryz.prog 289 Tryz.f289:= .m Tryz.func289
def jl(a:Bool)(c d:Value)(b:Value→Prop):Prop:=bif a then b (al [c,d])else False
def cl(a b:Int):Bool:=decide (0≤a∧a<b)
def dy(a b:Int):Bool:=decide (a>b)
theorem v27(d:Int)(m:Bool)(R:Value→Prop):ja1 Tryz.prog G0 noL Tryz.f289 [Enc.enc d,Enc.enc m] (fun _=>none) 0 (fun v _ _=>R v)=(az (a7 d 0) true (a7 d 0 || dy d 9) (R (al (ao 0::fv))) (bif m then jl (cl d 10) (.int .u8 (jaj ⟨#[125,74,75,76,77,78,79,80,81,82]⟩ d.toNat)) (B true) R else jl (cl d 10) (.int .u8 (jaj ⟨#[123,65,66,67,68,69,70,71,72,73]⟩ d.toNat)) (B true) R)):=by kernel_rfl
theorem ok27:jao Tryz.prog 289 (sp2 s27):=by
 refine jct ok_G0 hmix fn27 jai jag fun d m hc=> ?_
 rw[ja2,v27];delta ar az al jl cl fv ao dy a7;dsimp only[s27];refine c_t (by simp) ?_;apply cond_intro<;>intro h
 ·have h:¬(0≤d∧d≤9):=by
   simp only[Bool.or_eq_true,jae]at h;omega
  simp[puZ,h]
 ·have h:0≤d∧d≤9:=by
   simp only[Bool.or_eq_false_iff,decide_eq_false_iff_not]at h;omega
  rcases dig_cases h with rfl | rfl | rfl | rfl | rfl | rfl | rfl | rfl | rfl | rfl<;>cases m<;>exact rfl
def s26(d:Int)(m:Bool):Bool×Value:=(true,.tuple ⟨[.int .u8 (puZ d m),.bool (decide (0≤d∧d≤9))]⟩)
theorem fn26:Fn1 Tryz.prog 288 Tryz.f288:= .m Tryz.func288
def j6(a b:Bool)(c:Value)(d:Value→Prop):Prop:=bif a then cu b c d else False
def dp(a:Int):Nat:=0+a.toNat*1
def jo(a b c d:Int):E:=[ao a,ao b,ao c,ao d]
def o5:E:=ao 123::ao 65::ao 66::ao 67::ao 68::ao 69::ao 70::ao 71::ao 72::ao 73::ao 125::ao 74::ao 75::ao 76::ao 77::ao 78::jo 79 80 81 82
def d8(a b:Int):Int:=IntKind.i64.wrap (a+b)
theorem v26(d:Int)(m:Bool)(R:Value→Prop):ja1 Tryz.prog G0 noL Tryz.f288 [Enc.enc d,Enc.enc m] (fun _=>none) 0 (fun v _ _=>R v)=(az (a7 d 0) true (a7 d 0 || dy d 9) (R (al (ao 0::fv))) (bif m then j6 (cl (d8 d 10) 20) (jby .u8 o5 (dp (d8 d 10))) (al (.int .u8 (jau o5 (dp (d8 d 10)))::dw)) R else j6 (cl d 20) (jby .u8 o5 (dp d)) (al (.int .u8 (jau o5 (dp d))::dw)) R)):=by kernel_rfl
theorem ok26:jao Tryz.prog 288 (sp2 s26):=by
 refine jct ok_G0 hmix fn26 jai jag fun d m hc=> ?_
 rw[ja2,v26];delta ar az cu j6 al dw dp ao jo o5 cl d8 fv dy a7;dsimp only[s26];refine c_t (by simp) ?_;apply cond_intro<;>intro h
 ·have h:¬(0≤d∧d≤9):=by
   simp only[Bool.or_eq_true,jae]at h;omega
  simp[puZ,h]
 ·have h:0≤d∧d≤9:=by
   simp only[Bool.or_eq_false_iff,decide_eq_false_iff_not]at h;omega
  rcases dig_cases h with rfl | rfl | rfl | rfl | rfl | rfl | rfl | rfl | rfl | rfl<;>cases m<;>exact rfl
def G1:Env:=((Env.nil.add 211 (sp1 s82)).add 202 (sp2 s40)).add 289 (sp2 s27)
theorem ok_G1:jax Tryz.prog G1:=jak (jak (jak jan ok82) ok40) ok27
def s77(n:Int):Bool×Value:=(decide (-9223372036854775808≤n∧n≤9223372036854775807),.int .u64 n.natAbs)
theorem fn77:Fn1 Tryz.prog 270 Tryz.f270:= .m Tryz.func270
def f0(a:Bool)(c d:Value)(b:Value→Prop):Prop:=bif a then b c else b d
def b8(a b:Int):Int:=IntKind.i64.wrap (a-b)
theorem v77(n:Int)(R:Value→Prop):ja1 Tryz.prog G1 noL Tryz.f270 [Enc.enc n] (fun _=>none) 0 (fun v _ _=>R v)=(f0 (a7 n 0) (.int .u64 (dx (IntKind.u64.wrap (b8 0 (aw n))+1) .u64)) (.int .u64 (IntKind.u64.wrap n)) R):=by kernel_rfl
theorem ok77:jao Tryz.prog 270 (sp1 s77):=by
 refine jb8 ok_G1 hmix fn77 jai jag fun n hc=> ?_
 rw[ja2,v77];delta f0 dx b8 aw a7;have hc:(-9223372036854775808≤n∧n≤9223372036854775807):=jab hc;dsimp only[s77];apply cond_intro<;>intro h
 ·have h:=jab h;rw[w64 (n:=n+1) (by omega),w64 (by omega),wu64 (n:=0-(n+1)) (by omega),wu64 (by omega)];congr 1;omega
 ·have h:=jac h;rw[wu64 (by omega)];congr 1;omega
def s58(s:Y):Bool×Value:=(decide (s.size≤9223372036854775807),.int .u8 (if hasZ (bz s) 42 then 42 else 32))
theorem fn58:Fn1 Tryz.prog 259 Tryz.f259:= .m Tryz.func259
def cm(a:Y):Bool:=decide (a.size≤9223372036854775807)
def du(b:Bool)(a:Y)(c d:Prop):Prop:=bif cm a then ar b c d else False
theorem v58(s:Y)(R:Value→Prop):ja1 Tryz.prog G1 noL Tryz.f259 [Enc.enc s] (fun _=>none) 0 (fun v _ _=>R v)=(du (hasZ (bz s) 42) s (R (ao 42)) (R (ao 32))):=by kernel_rfl
theorem ok58:jao Tryz.prog 259 (sp1 s58):=by
 refine jb8 ok_G1 hmix fn58 jai jag fun s hc=> ?_
 rw[ja2,v58];delta ar cm du ao;have hc:(s.size≤9223372036854775807):=jab hc;dsimp only[s58];exact c_t (jaa hc) (by cases hasZ (bz s) 42<;>rfl)
def s85(c:U8)(m:Bool):Bool×Value:=(true,.int .u8 (sgZ c.n m))
theorem fn85:Fn1 Tryz.prog 262 Tryz.f262:= .m Tryz.func262
def ii(b:Int)(a:Px.U8):Bool:=U8.n a==b
theorem v85(c:U8)(m:Bool)(R:Value→Prop):ja1 Tryz.prog G1 noL Tryz.f262 [Enc.enc c,Enc.enc m] (fun _=>none) 0 (fun v _ _=>R v)=(bif ii 36 c then R (ao 36)else bif m then f0 (ii 43 c) (ao 32) (ao 45) R else f0 (ii 45 c) (ao 32) (ao 43) R):=by kernel_rfl
theorem ok85:jao Tryz.prog 262 (sp2 s85):=by
 refine jct ok_G1 hmix fn85 jai jag fun c m hc=> ?_
 rw[ja2,v85];delta f0 ao ii;dsimp only[s85];obtain⟨c⟩:=c;dsimp only;simp only[sgZ];cases m<;>by_cases h1:c=36<;>by_cases h2:c=43<;>by_cases h3:c=45<;>simp[h1,h2,h3]
def s97(c:U8)(d:U8)(m:Bool):Bool×Value:=(decide (48≤d.n∧d.n≤57),.int .u8 (fmZ c.n d.n m))
theorem fn97:Fn1 Tryz.prog 260 Tryz.f260:= .m Tryz.func260
def f8(a b c:Bool)(d e:Prop):Prop:=bif a || b then ar c d e else False
def bk(a b c:Bool):Bool:=bif a then b else c
theorem v97(c:U8)(d:U8)(m:Bool)(R:Value→Prop):ja1 Tryz.prog G1 noL Tryz.f260 [Enc.enc c,Enc.enc d,Enc.enc m] (fun _=>none) 0 (fun v _ _=>R v)=(az (ii 89 c) true (ii 89 c&&ii 48 d) (R (ao 32)) (f8 (ii 84 c) (bk (ii 73 c) (!m || (ii 82 c || true)) (ii 82 c || true)) (ii 84 c || bk (ii 73 c) (!m || ii 82 c&&m) (ii 82 c&&m)) (R (.int .u8 (puZ (dx (IntKind.u8.wrap (U8.n d-48)) .i64) m))) (R (.int .u8 (U8.n d))))):=by kernel_rfl
theorem ok97:jao Tryz.prog 260 (sp3 s97):=by
 refine jki ok_G1 hmix fn97 jai jag fun c d m hc=> ?_
 rw[ja2,v97];delta ar az f8 dx bk ii ao;have hc:(48≤d.n∧d.n≤57):=jab hc;dsimp only[s97];obtain⟨c⟩:=c;obtain⟨d⟩:=d;dsimp only at*;rw[w8 (n:=d-48) (by omega),w64 (by omega)];simp only[fmZ];cases m<;>by_cases h1:c=89<;>by_cases h2:c=84<;>by_cases h3:c=73<;>by_cases h4:c=82<;>by_cases h5:d=48<;>simp[h1,h2,h3,h4,h5]
def s72(c:U8)(b:U8):Bool×Value:=(decide (0≤b.n∧b.n<256),.bool (oneZ c.n b.n))
theorem fn72:Fn1 Tryz.prog 150 Tryz.f150:= .m Tryz.func150
def jc(a b:Int):Bool:=decide (a≥b) || true
theorem v72(c:U8)(b:U8)(R:Value→Prop):ja1 Tryz.prog G1 noL Tryz.f150 [Enc.enc c,Enc.enc b] (fun _=>none) 0 (fun v _ _=>R v)=(az (ii 88 c) true (ii 88 c || ii 32 b) (R (B true)) (bif ii 57 c then cu (jc (U8.n b) 48) (B (fq (U8.n b) 48 57)) R else cu (cl (U8.n b) 256&&bk (decide (upZ (U8.n b)≥65)) (cl (U8.n b) 256&&true) true) (B (fq (upZ (U8.n b)) 65 90)) R)):=by kernel_rfl
theorem ok72:jao Tryz.prog 150 (sp2 s72):=by
 refine jct ok_G1 hmix fn72 jai jag fun c b hc=> ?_
 rw[ja2,v72];delta ar az cu fq bk cl jc ii;have hc:(0≤b.n∧b.n<256):=jab hc;dsimp only[s72];obtain⟨hb0,hb1⟩:=hc;obtain⟨c⟩:=c;obtain⟨b⟩:=b;dsimp only at*
 have hl:(decide (upZ b≥65) &&decide (upZ b≤90))=letZ b:=by
  rw[Bool.eq_iff_iff];simp only[letZ,jaf,jae];unfold upZ;by_cases hq:97≤b∧b≤122
  ·simp only[if_pos hq];constructor<;>intro h<;>omega
  ·simp only[if_neg hq];constructor<;>intro h<;>omega
 have hd:(decide (b≥48) &&decide (b≤57))=je3 b:=by
  rw[Bool.eq_iff_iff];simp only[je3,jaf,jae]
  try omega
 rw[hl,hd]
 all_goals (by_cases h1:c=88<;>by_cases h2:b=32<;>by_cases h3:c=57<;>simp_all[oneZ])
def G2:Env:=(Env.nil.add 202 (sp2 s40)).add 199 (sp2 s75)
theorem ok_G2:jax Tryz.prog G2:=jak (jak jan ok40) ok75
def drGo(s:J):J→Int
 | []=>0
 | c::r=>if hasZ [36,83,43,45] c=true∧2≤cntZ s c then c else drGo s r
def drZ(s:J):Int:=drGo s s
def jez(s:J):Bool:=s.all (fun c=>hasZ [65,88,57] c) && (hasZ s 65 || hasZ s 88)
def crZ(s:J):Bool:=decide (2≤s.length) && (decide (s.drop (s.length-2)=[67,82]) || decide (s.drop (s.length-2)=[68,66]))
theorem jlh{c:Int}:hasZ [36,83,43,45] c=true↔c=36∨c=83∨c=43∨c=45:=by simp[ja8]
theorem jdm(l:J):List.drop (Int.toNat 0) l=l:=rfl
def V96_0:Y×Int×Int→E:=fun(s,b,i)=> [S s,C8 b,I i]
def B96_0:Y×Int×Int→O:=fun _=> []
def S96_0:LSpec (Y×Int×Int) where
 live:=[0,2,3]
 mid:=[]
 n:=60
 dec vs bs:=match vs,bs with | [.string s,.int .u8 b,.int .i64 i],[]=>some (s,b,i) | _,_=>none
 pre:=fun(s,b,i)=>decide (0≤i∧i≤s.size∧s.size≤9223372036854775807)
 fin:=fun(s,b,i) Z=>(bif drGo (bz s) ((bz s).drop i.toNat)==0 then Z (.exit 0) [S s,C8 b,I s.size] []else(∀i',Z .ret [S s,C8 (drGo (bz s) ((bz s).drop i.toNat)),I i'] []))
def bu(a:Y)(b:Int):Int:=jaj a b.toNat
def ir(d:Y)(e:Int)(c:Yb)(a b:UInt8):Bool:=hasZ (bz ⟨(a::b::c).toArray⟩) (jaj d e.toNat)
def j7(c f:Bool)(a d:Y)(b e:Int):Bool:=bp a b&&bk c (bp d e&&f) true
theorem r96_0(s:Y)(b:Int)(i:Int)(jk:Tmps)(R:Exit→E→O→Prop):(jbv Tryz.prog G2 noL Tryz.f242.ntmps (ja9 Tryz.f242 0) (tl S96_0.live (V96_0 (s,b,i)) jk) (ml S96_0.mid (B96_0 (s,b,i))) S96_0.n fun e t' m' _=>R e (List.map t' S96_0.live) (List.map m' S96_0.mid))=(ez (j7 (ir s i [43,45] 36 83) (cm s&&true) s s i i) R i (aq s) [] (ax s [ak i] (ao b)) 0 (bif ir s i [43,45] 36 83&&decide ((cntZ (bz s) (bu s i):Int)≥2)then bif bp s i then R .ret (ax s [ak i] (.int .u8 (bu s i))) []else False else R .normal (ax s [ay i] (ao b)) [])):=by kernel_rfl
theorem l96_0:LOKf Tryz.prog (oneL 0 S96_0.h) Tryz.f242:=by
 refine jbo (h:=S96_0.h) (by kernel_rfl) (jbl ok_G2 hmix (by kernel_rfl) (ja7 _) S96_0 V96_0 B96_0 (fun(s,b,i)=>(s.size-i).toNat) ?_ ?_ ?_)
 ·intro vs bs s h;simp only[S96_0]at h;split at h
  all_goals first | (cases h;exact⟨rfl,rfl⟩) | cases h
 ·exact fun _ _ _ h=>h
 ·intro⟨s,b,i⟩ jk Z hp hf;rw[r96_0];delta cq b7 ez ax ao aw ay bu ak aq bp ir bk j7 cm;simp only[S96_0]at hp hf;simp only[jae]at hp;apply cond_intro<;>intro h
  ·have h:=jab h;rw[jb7 hp.1 h]at hf;have h1:decide (0≤i∧i<(s.size:Int))=true:=jaa (by omega);have h2:decide (s.size≤9223372036854775807)=true:=jaa (by omega);have k:bz ⟨#[36,83,43,45]⟩=[36,83,43,45]:=rfl;rw[k];refine c_t (by rw[h1,h2];cases hasZ [36,83,43,45] (jaj s i.toNat) <;>rfl) ?_;rw[drGo]at hf;refine cond_intro (fun hd=>c_t h1 ?_) (fun hd=> ?_)
   ·simp only[jaf,jae]at hd
    have hne:(jaj s i.toNat==0)=false:=by
     have:=jlh.1 hd.1;simp only[beq_eq_false_iff_ne];omega
    rw[if_pos ⟨hd.1,by omega⟩,hne]at hf;exact hf i
   ·have hd':¬(hasZ [36,83,43,45] (jaj s i.toNat)=true∧2≤cntZ (bz s) (jaj s i.toNat)):=by
     rintro ⟨q1,q2⟩;rw[q1,Bool.true_and,decide_eq_false_iff_not]at hd;omega
    rw[if_neg hd']at hf;rw[w64 (by omega)];exact⟨(s,b,i+1),rfl,rfl,by simp only[S96_0,jae];omega,by simp only;omega,hf⟩
  ·have h:=jac h;rw[jcq (by omega)]at hf;obtain rfl:i=s.size:=by omega
   exact hf
def s96(s:Y):Bool×Value:=(decide (s.size≤9223372036854775807),.int .u8 (drZ (bz s)))
theorem fn96:Fn1 Tryz.prog 242 Tryz.f242:= .m Tryz.func242
theorem v96(s:Y)(R:Value→Prop):ja1 Tryz.prog G2 (oneL 0 S96_0.h) Tryz.f242 [Enc.enc s] (fun _=>none) 0 (fun v _ _=>R v)=(ib (S96_0.pre (s,((0:Int),(0:Int)))) (drGo (bz s) (bq s 0)==0) (Tmps→R (ao 0)) (fu (R (.int .u8 (drGo (bz s) (bq s 0)))))):=by kernel_rfl
theorem ok96:jao Tryz.prog 242 (sp1 s96):=by
 refine jb8 ok_G2 hmix fn96 l96_0 jag fun s hc=> ?_
 rw[ja2,v96];delta ar ib fu bq ao;have hc:(s.size≤9223372036854775807):=jab hc;dsimp only[s96];refine c_t (by simp only[S96_0,jae];omega) ?_;rw[jdm];refine cond_intro (fun h _=> ?_) (fun h _ _=>rfl);rw[drZ,eq_of_beq h]
def V73_0:Y×Bool×Int→E:=fun(s,b,i)=> [S s,B b,I i]
def B73_0:Y×Bool×Int→O:=fun _=> []
def S73_0:LSpec (Y×Bool×Int) where
 live:=[0,2,3]
 mid:=[]
 n:=60
 dec vs bs:=match vs,bs with | [.string s,.bool b,.int .i64 i],[]=>some (s,b,i) | _,_=>none
 pre:=fun(s,b,i)=>decide (0≤i∧i≤s.size∧s.size≤9223372036854775807)
 fin:=fun(s,b,i) Z=>(bif ((bz s).drop i.toNat).all (fun c=>hasZ [65,88,57] c)then Z (.exit 0) [S s,B b,I s.size] []else(∀i',Z .ret [S s,B false,I i'] []))
theorem r73_0(s:Y)(b:Bool)(i:Int)(jk:Tmps)(R:Exit→E→O→Prop):(jbv Tryz.prog G2 noL Tryz.f197.ntmps (ja9 Tryz.f197 0) (tl S73_0.live (V73_0 (s,b,i)) jk) (ml S73_0.mid (B73_0 (s,b,i))) S73_0.n fun e t' m' _=>R e (List.map t' S73_0.live) (List.map m' S73_0.mid))=(mj (bp s i) (!ir s i [57] 65 88) s s R i [] [] (B false) (ak i) (B b) (ay i) (ak i)):=by kernel_rfl
theorem l73_0:LOKf Tryz.prog (oneL 0 S73_0.h) Tryz.f197:=by
 refine jbo (h:=S73_0.h) (by kernel_rfl) (jbl ok_G2 hmix (by kernel_rfl) (ja7 _) S73_0 V73_0 B73_0 (fun(s,b,i)=>(s.size-i).toNat) ?_ ?_ ?_)
 ·intro vs bs s h;simp only[S73_0]at h;split at h
  all_goals first | (cases h;exact⟨rfl,rfl⟩) | cases h
 ·exact fun _ _ _ h=>h
 ·intro⟨s,b,i⟩ jk Z hp hf;rw[r73_0];delta ko a7 aq mj ak aw ay ir bp;simp only[S73_0]at hp hf;simp only[jae]at hp;apply cond_intro<;>intro h
  ·have h:=jab h;rw[jb7 hp.1 h,List.all_cons]at hf;have k:bz ⟨#[65,88,57]⟩=[65,88,57]:=rfl;rw[k];refine c_t (jaa (by omega)) ?_;apply cond_intro<;>intro hd
   ·simp only[Bool.not_eq_true']at hd;rw[hd]at hf;exact hf i
   ·simp only[Bool.not_eq_false']at hd;rw[hd,Bool.true_and]at hf;rw[w64 (by omega)];exact⟨(s,b,i+1),rfl,rfl,by simp only[S73_0,jae];omega,by simp only;omega,hf⟩
  ·have h:=jac h;rw[jcq (by omega)]at hf;obtain rfl:i=s.size:=by omega
   exact hf
def s73(s:Y):Bool×Value:=(decide (s.size≤9223372036854775807),.bool (jez (bz s)))
theorem fn73:Fn1 Tryz.prog 197 Tryz.f197:= .m Tryz.func197
theorem v73(s:Y)(R:Value→Prop):ja1 Tryz.prog G2 (oneL 0 S73_0.h) Tryz.f197 [Enc.enc s] (fun _=>none) 0 (fun v _ _=>R v)=(ib (S73_0.pre (s,(false,(0:Int)))) ((bq s 0).all (fun a:Int=>hasZ [65,88,57] a)) (Tmps→cu (cm s&& (hasZ (bz s) 65 || cm s&&true)) (B (hasZ (bz s) 65 || hasZ (bz s) 88)) R) (fu (fk R))):=by kernel_rfl
theorem ok73:jao Tryz.prog 197 (sp1 s73):=by
 refine jb8 ok_G2 hmix fn73 l73_0 jag fun s hc=> ?_
 rw[ja2,v73];delta ar ib fu fk cu cm bq;have hc:(s.size≤9223372036854775807):=jab hc;dsimp only[s73];refine c_t (by simp only[S73_0,jae];omega) ?_;rw[jdm];refine cond_intro (fun h _=>c_t (by rw[jaa hc];cases hasZ (bz s) 65<;>rfl) ?_) (fun h _ _=> ?_)
 ·simp only[jez,h,Bool.true_and]
 ·simp only[jez,h,Bool.false_and]
def s101(s:Y):Bool×Value:=(decide (s.size≤9223372036854775807),.bool (crZ (bz s)))
theorem fn101:Fn1 Tryz.prog 238 Tryz.f238:= .m Tryz.func238
def oa(a b c e:Bool)(d:Value→Prop):Prop:=bif bk a (b&&c) true then d (.bool (a&&e))else False
def d4(a b:Y):Bool:=a.toList==b.toList
def gk(a:Y)(b:Int):Int:=IntKind.i64.wrap (aq a-b)
def gz(a b c d e:Int):Bool:=decide (a≤b∧b≤c∧d≤e)
theorem v101(s:Y)(R:Value→Prop):ja1 Tryz.prog G2 noL Tryz.f238 [Enc.enc s] (fun _=>none) 0 (fun v _ _=>R v)=(oa (decide (aq s≥2)) (gz 0 (gk s 2) (aq s) (aq s) (aq s)) (d4 (s.extract (gk s 2).toNat s.size) ⟨#[67,82]⟩ || gz 0 (gk s 2) (aq s) (aq s) (aq s) &&true) (d4 (s.extract (gk s 2).toNat s.size) ⟨#[67,82]⟩ || d4 (s.extract (gk s 2).toNat s.size) ⟨#[68,66]⟩) R):=by kernel_rfl
theorem ok101:jao Tryz.prog 238 (sp1 s101):=by
 refine jb8 ok_G2 hmix fn101 jai jag fun s hc=> ?_
 rw[ja2,v101];delta bk oa d4 aq gk gz;have hc:(s.size≤9223372036854775807):=jab hc;dsimp only[s101];have e:((s.size:Int)-2).toNat=s.size-2:=by omega
 have ex:bz (s.extract (s.size-2) s.size)=(bz s).drop (s.size-2):=by rw[jcb,List.take_of_length_le (by rw[jap];omega)]
 have k1:bz ⟨#[67,82]⟩=[67,82]:=rfl;have k2:bz ⟨#[68,66]⟩=[68,66]:=rfl;rw[w64 (by omega),e,jcd,jcd,ex,k1,k2];by_cases h2:2≤s.size
 ·have d1:decide ((s.size:Int)≥2)=true:=jaa (by omega);have d2:decide (0≤(s.size:Int)-2∧(s.size:Int)-2≤s.size∧(s.size:Int)≤s.size)=true:=jaa (by omega);rw[d1,d2];refine c_t (by simp) ?_;simp[crZ,h2]
 ·have d1:decide ((s.size:Int)≥2)=false:=jad (by omega);rw[d1];refine c_t rfl ?_;simp[crZ,h2]
def cdGo:J→Int→Int→Bool×Int×Int
 | [],n,i=>(true,n,i)
 | c::r,n,i=>if je3 c=true then(if 1≤n*10+(c-48)∧n*10+(c-48)≤32 then cdGo r (n*10+(c-48)) (i+1)else(false,0,0))else(true,n,i)
def ctP(l:J)(i:Int):Prop:=(cdGo (l.drop i.toNat) 0 i).1=true∧1≤(cdGo (l.drop i.toNat) 0 i).2.1∧(cdGo (l.drop i.toNat) 0 i).2.2<l.length∧l.getD (cdGo (l.drop i.toNat) 0 i).2.2.toNat 0=41
instance (l:List Int)(i:Int):Decidable (ctP l i):=by unfold ctP;infer_instance
def ctZ(l:J)(i:Int):Int×Int:=if ctP l i then((cdGo (l.drop i.toNat) 0 i).2.1,(cdGo (l.drop i.toNat) 0 i).2.2+1)else(0,0)
theorem jhg:∀(l:J)(n i:Int),0≤n∧n≤32→(cdGo l n i).1=true→0≤(cdGo l n i).2.1∧(cdGo l n i).2.1≤32∧i≤(cdGo l n i).2.2∧(cdGo l n i).2.2≤i+l.length
 | [],n,i,h,_=>by simp only[cdGo,List.length_nil];omega
 | c::r,n,i,h,hok=>by
  simp only[cdGo]at hok ⊢;split
  ·rename_i hd;rw[if_pos hd]at hok;split
   ·rename_i hq;rw[if_pos hq]at hok;have:=jhg r _ _ (by omega) hok;simp only[List.length_cons];omega
   ·rename_i hq;rw[if_neg hq]at hok;cases hok
  ·simp only[List.length_cons];omega
def V81_0:Y×Int×Int×Int×Int→E:=fun(s,r1,r2,n,i)=> [S s,I r1,I r2,I n,I i]
def B81_0:Y×Int×Int×Int×Int→O:=fun _=> []
def S81_0:LSpec (Y×Int×Int×Int×Int) where
 live:=[0,4,5,6,7]
 mid:=[]
 n:=80
 dec vs bs:=match vs,bs with | [.string s,.int .i64 r1,.int .i64 r2,.int .i64 n,.int .i64 i],[]=>some (s,r1,r2,n,i) | _,_=>none
 pre:=fun(s,r1,r2,n,i)=>decide (0≤i∧i≤s.size∧s.size≤9223372036854775807∧0≤n∧n≤32)
 fin:=fun(s,r1,r2,n,i) Z=>(bif (cdGo ((bz s).drop i.toNat) n i).1 then Z (.exit 0) [S s,I r1,I r2,I (cdGo ((bz s).drop i.toNat) n i).2.1,I (cdGo ((bz s).drop i.toNat) n i).2.2] []else(∀n' i',Z .ret [S s,I 0,I 0,I n',I i'] []))
def gu(a b c d:Bool)(e f:Prop):Prop:=bif bif a then b else c then ar d e f else False
def mq(a b d:Int)(c:IntKind):Int:=IntKind.i64.wrap (IntKind.i64.wrap (a*b)+dx (c.wrap (d-48)) .i64)
def j8(c:Y)(a b d:Int):Int:=mq a b (jaj c d.toNat) .u8
theorem r81_0(s:Y)(r1:Int)(r2:Int)(n:Int)(i:Int)(jk:Tmps)(R:Exit→E→O→Prop):(jbv Tryz.prog G2 noL Tryz.f237.ntmps (ja9 Tryz.f237 0) (tl S81_0.live (V81_0 (s,r1,r2,n,i)) jk) (ml S81_0.mid (B81_0 (s,r1,r2,n,i))) S81_0.n fun e t' m' _=>R e (List.map t' S81_0.live) (List.map m' S81_0.mid))=(gu (a7 i (aq s)) (j7 (decide (bu s i≥48)) true s s i i) true (a7 i (aq s) &&fq (bu s i) 48 57) (bif bp s i then az (a7 (j8 s n 10 i) 1) true (a7 (j8 s n 10 i) 1 || decide (j8 s n 10 i>32)) (R .ret (ax s [ak 0,I (j8 s n 10 i),ak i] (ak 0)) []) (R .normal (ax s [ak r2,I (j8 s n 10 i),ay i] (ak r1)) [])else False) (R (.exit 0) (ax s (ak r2::bw n i) (ak r1)) [])):=by kernel_rfl
theorem l81_0:LOKf Tryz.prog (oneL 0 S81_0.h) Tryz.f237:=by
 refine jbo (h:=S81_0.h) (by kernel_rfl) (jbl ok_G2 hmix (by kernel_rfl) (ja7 _) S81_0 V81_0 B81_0 (fun(s,r1,r2,n,i)=>(s.size-i).toNat) ?_ ?_ ?_)
 ·intro vs bs s h;simp only[S81_0]at h;split at h
  all_goals first | (cases h;exact⟨rfl,rfl⟩) | cases h
 ·exact fun _ _ _ h=>h
 ·intro⟨s,r1,r2,n,i⟩ jk Z hp hf;rw[r81_0];delta ar gu ax ak bw az aw ay dx mq j8 a7 aq bp fq bu bk j7;simp only[S81_0]at hp hf;simp only[jae]at hp;have h1:i<(s.size:Int)→decide (0≤i∧i<(s.size:Int))=true:=fun h=>jaa (by omega)
  refine c_t ?_ ?_
  ·by_cases hi:i<(s.size:Int)
   ·rw[jaa hi,h1 hi];cases decide (jaj s i.toNat≥48) <;>rfl
   ·rw[jad hi];rfl
  apply cond_intro<;>intro h
  ·simp only[jaf,jae]at h;obtain⟨hi,hd1,hd2⟩:=h;rw[jb7 hp.1 hi]at hf;refine c_t (h1 hi) (c_t (by simp) ?_);have hdig:je3 (jaj s i.toNat)=true:=jaa (by omega);rw[cdGo,if_pos hdig]at hf;rw[w8 (n:=jaj s i.toNat-48) (by omega),w64 (n:=jaj s i.toNat-48) (by omega),w64 (n:=n*10) (by omega),w64 (n:=n*10+(jaj s i.toNat-48)) (by omega)];apply cond_intro<;>intro hd
   ·simp only[Bool.or_eq_true,jae]at hd;rw[if_neg (by omega)]at hf;exact hf _ i
   ·simp only[Bool.or_eq_false_iff,decide_eq_false_iff_not]at hd;rw[if_pos (by omega)]at hf;rw[w64 (by omega)];exact⟨(s,r1,r2,_,i+1),rfl,rfl,by simp only[S81_0,jae];omega,by simp only;omega,hf⟩
  ·by_cases hi:i<(s.size:Int)
   ·rw[jaa hi,Bool.true_and]at h
    have hdig:¬je3 (jaj s i.toNat)=true:=by
     intro hq;have:=jab hq;rw[jaa (by omega),jaa (by omega)]at h;cases h
    rw[jb7 hp.1 hi,cdGo,if_neg hdig]at hf;exact hf
   ·rw[jcq (by omega)]at hf;exact hf
def s81(s:Y)(i:Int):Bool×Value:=(decide (0≤i∧i≤s.size∧s.size≤9223372036854775807),.tuple ⟨[.int .i64 (ctZ (bz s) i).1,.int .i64 (ctZ (bz s) i).2]⟩)
theorem fn81:Fn1 Tryz.prog 237 Tryz.f237:= .m Tryz.func237
def d7(a b:Int):E:=[ak a,ak b]
def pq(c d e:Bool)(a b h:Int)(g i:Value)(f:Value→Prop):Prop:=az (b7 a b) (c || d) (b7 a b || (c || e)) (f (al [ak 0,g])) (f (al [.int .i64 h,i]))
theorem v81(s:Y)(i:Int)(R:Value→Prop):ja1 Tryz.prog G2 (oneL 0 S81_0.h) Tryz.f237 [Enc.enc s,Enc.enc i] (fun _=>none) 0 (fun v _ _=>R v)=(ib (S81_0.pre (s,((0:Int),((0:Int),((0:Int),i))))) (cdGo (bq s i) 0 i).fst (Tmps→pq (decide ((cdGo (bq s i) 0 i).snd.snd≥aq s)) (cl (cdGo (bq s i) 0 i).snd.snd (aq s) &&true) (bu s (cdGo (bq s i) 0 i).snd.snd !=41) (cdGo (bq s i) 0 i).snd.fst 1 (cdGo (bq s i) 0 i).snd.fst (ak 0) (I (d8 (cdGo (bq s i) 0 i).snd.snd 1)) R) (Int→fu (R (al (d7 0 0))))):=by kernel_rfl
theorem ok81:jao Tryz.prog 237 (sp2 s81):=by
 refine jct ok_G2 hmix fn81 l81_0 jag fun s i hc=> ?_
 rw[ja2,v81];delta ar ib fu al ak d7 az b7 pq d8 bq bu cl aq;have hc:(0≤i∧i≤s.size∧s.size≤9223372036854775807):=jab hc;dsimp only[s81];refine c_t (by simp only[S81_0,jae];omega) ?_;refine cond_intro (fun h _=> ?_) (fun h _ _ _=> ?_)
 ·have hr:=jhg ((bz s).drop i.toNat) 0 i (by omega) h;rw[List.length_drop,jap]at hr
  have hP:ctP (bz s) i↔1≤(cdGo ((bz s).drop i.toNat) 0 i).2.1∧(cdGo ((bz s).drop i.toNat) 0 i).2.2<s.size∧jaj s (cdGo ((bz s).drop i.toNat) 0 i).2.2.toNat=41:=by
   simp only[ctP,h,true_and,jap,jen]
  have hz:ctZ (bz s) i=if ctP (bz s) i then((cdGo ((bz s).drop i.toNat) 0 i).2.1,(cdGo ((bz s).drop i.toNat) 0 i).2.2+1)else(0,0):=rfl
  rw[hz];generalize cdGo ((bz s).drop i.toNat) 0 i=q at*;refine c_t ?_ (cond_intro (fun hd=> ?_) (fun hd=> ?_))
  ·by_cases h1:q.2.2<s.size
   ·rw[jaa (p:=0≤q.2.2∧q.2.2<(s.size:Int)) (by omega)];simp
   ·rw[jaa (p:=q.2.2≥(s.size:Int)) (by omega)];simp
  ·have hn:¬ctP (bz s) i:=by
    rw[hP];simp only[Bool.or_eq_true,jae,bne_iff_ne,ne_eq]at hd;omega
   rw[if_neg hn]
  ·have hn:ctP (bz s) i:=by
    rw[hP];simp only[Bool.or_eq_false_iff,decide_eq_false_iff_not,bne_eq_false_iff_eq]at hd;omega
   have:=hP.1 hn;rw[if_pos hn,w64 (by omega)]
 ·have hn:¬ctP (bz s) i:=fun hq=>by rw[hq.1]at h;cases h
  rw[ctZ,if_neg hn]
def kL:J:=[57,86,90,42,89,84,73,82,83,43,45,36,44,46,47,66,67,68,65,88]
def xpGo:J→Int→Int→J→J×Bool
 | [],st,_,out=>(out,decide (st=0))
 | c::r,st,n,out=>
  if st=1 then
   (if c=41 then(if 0<n then xpGo r 2 n out else([],false))
   else if je3 c=true∧ ¬(n=0∧c=48)∧10*n+(c-48)≤32 then xpGo r 1 (10*n+(c-48)) out else([],false))
  else if c=41∨st=2∧c=40 then([],false)
  else if c=40 then xpGo r 1 0 out
  else if hasZ kL (upZ c)=true∧(out.length:Int)+(if st=2 then n else 1)≤32 then xpGo r 0 0 (out++rep1 (upZ c) (if st=2 then n else 1).toNat)else([],false)
theorem xp_put{c:Int}{r:J}{st n:Int}{out:J}(hs:st=2∨st=0∧c≠40):
  xpGo (c::r) st n out=if hasZ kL (upZ c)=true∧(out.length:Int)+(if st=2 then n else 1)≤32 then xpGo r 0 0 (out++rep1 (upZ c) (if st=2 then n else 1).toNat)else([],false):=by
 rw[xpGo,if_neg (by omega)];by_cases h1:c=41
 ·subst h1;rw[if_pos (.inl rfl),if_neg (by intro h;exact absurd h.1 (by decide))]
 ·by_cases h2:c=40
  ·subst h2;have:st=2:=by omega
   subst this;rw[if_pos (.inr ⟨rfl,rfl⟩),if_neg (by intro h;exact absurd h.1 (by decide))]
  ·rw[if_neg (by omega),if_neg h2]
theorem xp_num:∀(l:J)(n i:Int)(out:J),0≤n∧n≤32→
  if(cdGo l n i).1=true∧1≤(cdGo l n i).2.1∧(l.drop ((cdGo l n i).2.2-i).toNat).head?=some 41 then xpGo l 1 n out=xpGo (l.drop ((cdGo l n i).2.2-i+1).toNat) 2 (cdGo l n i).2.1 out
  else(xpGo l 1 n out).2=false
 | [],n,i,out,_=>by
  rw[if_neg (by simp[cdGo])];rfl
 | c::r,n,i,out,h=>by
  by_cases hd:je3 c=true
  ·have hd':=jab hd;by_cases hq:1≤n*10+(c-48)∧n*10+(c-48)≤32
   ·have e:cdGo (c::r) n i=cdGo r (n*10+(c-48)) (i+1):=by rw[cdGo,if_pos hd,if_pos hq]
    have e2:xpGo (c::r) 1 n out=xpGo r 1 (n*10+(c-48)) out:=by
     rw[xpGo,if_pos rfl,if_neg (by omega),if_pos ⟨hd,by omega,by omega⟩,show 10*n+(c-48)=n*10+(c-48)by omega]
    have ih:=xp_num r (n*10+(c-48)) (i+1) out (by omega);rw[e,e2];by_cases hk:(cdGo r (n*10+(c-48)) (i+1)).1=true
    ·have hr:=jhg r _ (i+1) (by omega) hk;have e3:((cdGo r (n*10+(c-48)) (i+1)).2.2-i).toNat=((cdGo r (n*10+(c-48)) (i+1)).2.2-(i+1)).toNat+1:=by omega
     have e4:((cdGo r (n*10+(c-48)) (i+1)).2.2-i+1).toNat=((cdGo r (n*10+(c-48)) (i+1)).2.2-(i+1)+1).toNat+1:=by omega
     rw[e3,e4,List.drop_succ_cons,List.drop_succ_cons];exact ih
    ·rw[if_neg (fun q=>hk q.1)]at ih ⊢;exact ih
   ·have e:cdGo (c::r) n i=(false,0,0):=by rw[cdGo,if_pos hd,if_neg hq]
    rw[e,if_neg (by simp)];rw[xpGo,if_pos rfl,if_neg (by omega),if_neg (by omega)]
  ·have e:cdGo (c::r) n i=(true,n,i):=by rw[cdGo,if_neg hd]
   rw[e];simp only[Int.sub_self,Int.toNat_zero,List.drop_zero,List.head?_cons,Option.some.injEq,true_and,Int.zero_add,Int.toNat_one,List.drop_succ_cons];rw[xpGo,if_pos rfl];by_cases h41:c=41
   ·rw[if_pos h41];by_cases hn:0<n
    ·rw[if_pos hn,if_pos ⟨by omega,h41⟩]
    ·rw[if_neg hn,if_neg (by omega)]
   ·rw[if_neg h41,if_neg (show¬(je3 c=true∧ ¬(n=0∧c=48)∧10*n+(c-48)≤32)from fun q=>hd q.1),if_neg (show¬(1≤n∧c=41)from fun q=>h41 q.2)]
theorem xp_ct(l:J)(i:Int)(out:J)(hi:0≤i)(hl:i≤l.length):
  if ctP l i then xpGo (l.drop i.toNat) 1 0 out=xpGo (l.drop (ctZ l i).2.toNat) 2 (ctZ l i).1 out∧1≤(ctZ l i).1∧(ctZ l i).1≤32∧i<(ctZ l i).2∧(ctZ l i).2≤l.length
  else(xpGo (l.drop i.toNat) 1 0 out).2=false∧ctZ l i=(0,0):=by
 have N:=xp_num (l.drop i.toNat) 0 i out (by omega);by_cases hk:(cdGo (l.drop i.toNat) 0 i).1=true
 ·have hr:=jhg _ 0 i (by omega) hk;rw[List.length_drop]at hr;have e1:i.toNat+((cdGo (l.drop i.toNat) 0 i).2.2-i).toNat=(cdGo (l.drop i.toNat) 0 i).2.2.toNat:=by omega
  have e2:i.toNat+((cdGo (l.drop i.toNat) 0 i).2.2-i+1).toNat=((cdGo (l.drop i.toNat) 0 i).2.2+1).toNat:=by omega
  have hh:((l.drop i.toNat).drop ((cdGo (l.drop i.toNat) 0 i).2.2-i).toNat).head?=some 41↔(cdGo (l.drop i.toNat) 0 i).2.2<l.length∧l.getD (cdGo (l.drop i.toNat) 0 i).2.2.toNat 0=41:=by
   rw[List.drop_drop,e1,List.head?_drop,List.getD_eq_getElem?_getD];constructor
   ·intro h;have:=(List.getElem?_eq_some_iff.1 h).1;exact⟨by omega,by rw[h];rfl⟩
   ·rintro ⟨h1,h2⟩;rw[List.getElem?_eq_getElem (by omega)]at h2 ⊢;simpa using h2
  by_cases hP:ctP l i
  ·rw[if_pos hP];rw[if_pos ⟨hk,hP.2.1,hh.2 ⟨hP.2.2.1,hP.2.2.2⟩⟩,List.drop_drop,e2]at N;have hz:ctZ l i=((cdGo (l.drop i.toNat) 0 i).2.1,(cdGo (l.drop i.toNat) 0 i).2.2+1):=if_pos hP;have:=hP.2.1;have:=hP.2.2.1;rw[hz];exact⟨N,by simp only;omega,by simp only;omega,by simp only;omega,by simp only;omega⟩
  ·rw[if_neg hP];rw[if_neg (fun q=>hP ⟨hk,q.2.1,(hh.1 q.2.2).1,(hh.1 q.2.2).2⟩)]at N;exact⟨N,if_neg hP⟩
 ·have hP:¬ctP l i:=fun q=>hk q.1
  rw[if_neg hP];rw[if_neg (fun q=>hk q.1)]at N;exact⟨N,if_neg hP⟩
def G3:Env:=(((((Env.nil.add 211 (sp1 s82)).add 202 (sp2 s40)).add 229 (sp2 s57)).add 242 (sp1 s96)).add 238 (sp1 s101)).add 237 (sp2 s81)
theorem ok_G3:jax Tryz.prog G3:=jak (jak (jak (jak (jak (jak jan ok82) ok40) ok57) ok96) ok101) ok81
def V45_0:Y×Y×Int×Y×Int→E:=fun(s,r,e,o,i)=> [S s,S r,I e,S o,I i]
def B45_0:Y×Y×Int×Y×Int→O:=fun _=> []
def S45_0:LSpec (Y×Y×Int×Y×Int) where
 live:=[0,2,3,4,5]
 mid:=[]
 n:=80
 dec vs bs:=match vs,bs with | [.string s,.string r,.int .i64 e,.string o,.int .i64 i],[]=>some (s,r,e,o,i) | _,_=>none
 pre:=fun(s,r,e,o,i)=>decide (0≤i∧i≤s.size∧s.size≤9223372036854775807∧o.size≤32)
 fin:=fun(s,r,e,o,i) Z=>(bif (xpGo ((bz s).drop i.toNat) 0 0 (bz o)).2 then Z (.exit 0) [S s,S r,I e,S (sz (xpGo ((bz s).drop i.toNat) 0 0 (bz o)).1),I s.size] []else(∀o' i',Z .ret [S s,S e0,I 30,S o',I i'] []))
def ju(c:Bool)(a:Y)(b:Int)(d e:Prop):Prop:=bif bp a b then ar c d e else False
def j0(a b:Y)(d:E)(c:Value):E:= .string a:: .string b::c::d
def i6(a b:Y):Bool:=jb1 (a.size+b.size)
def a8:Y:=⟨#[]⟩
def d9:Value:= .string a8
def l9:J:=bz ⟨#[57,86,90,42,89,84,73,82,83,43,45,36,44,46,47,66,67,68,65,88]⟩
def lh(c:Bool)(a b:Int)(d e:Prop):Prop:=bif cl a b then bif c then d else e else False
def jm(a:Y)(b:Int):Prod Int Int:=ctZ (bz a) (aw b)
def gx(a b c:Int):Bool:=decide (a≤b∧b≤c)
def km(c:Y)(a b:Int)(d:Nat):Bool:=decide (0≤a∧a≤b∧c.size≤d)
theorem r45_0(s:Y)(r:Y)(e:Int)(o:Y)(i:Int)(jk:Tmps)(R:Exit→E→O→Prop):(jbv Tryz.prog G3 noL Tryz.f196.ntmps (ja9 Tryz.f196 0) (tl S45_0.live (V45_0 (s,r,e,o,i)) jk) (ml S45_0.mid (B45_0 (s,r,e,o,i))) S45_0.n fun e t' m' _=>R e (List.map t' S45_0.live) (List.map m' S45_0.mid))=(ez (bp s i) R i (aq s) [] (j0 s r (ax o [] (ak i)) (ak e)) 0 (bif au s i 40 then bif km s (aw i) (aq s) 9223372036854775807 then az (a7 (jm s i).fst 1) true (a7 (jm s i).fst 1 || decide ((jm s i).snd≥aq s)) (R .ret (ax s [ak 30,S o,I (jm s i).snd] d9) []) (lh (cl (bu s (jm s i).snd) 256) (jm s i).snd (aq s) (f8 (!hasZ l9 (upZ (bu s (jm s i).snd))) true (!hasZ l9 (upZ (bu s (jm s i).snd)) || decide (d8 (aq o) (jm s i).fst>32)) (R .ret (ax s [ak 30,S o,I (jm s i).snd] d9) []) (bif gx 0 (jm s i).fst 1000 then b9 (i6 o (sz (rep1 (upZ (bu s (jm s i).snd)) (jm s i).fst.toNat))) R [] (j0 s r (ax (o++sz (rep1 (upZ (bu s (jm s i).snd)) (jm s i).fst.toNat)) [] (I (d8 (jm s i).snd 1))) (ak e))else False)) False)else False else ju (cl (bu s i) 256) s i (az (!hasZ l9 (upZ (bu s i))) true (!hasZ l9 (upZ (bu s i)) || decide (d8 (aq o) 1>32)) (R .ret (ax s [ak 30,S o,ak i] d9) []) (b9 (i6 o (sz (rep1 (upZ (bu s i)) (Int.toNat 1)))) R [] (j0 s r (ax (o++sz (rep1 (upZ (bu s i)) (Int.toNat 1))) [] (ay i)) (ak e)))) False)):=by kernel_rfl
theorem l45_0:LOKf Tryz.prog (oneL 0 S45_0.h) Tryz.f196:=by
 refine jbo (h:=S45_0.h) (by kernel_rfl) (jbl ok_G3 hmix (by kernel_rfl) (ja7 _) S45_0 V45_0 B45_0 (fun(s,r,e,o,i)=>(s.size-i).toNat) ?_ ?_ ?_)
 ·intro vs bs s h;simp only[S45_0]at h;split at h
  all_goals first | (cases h;exact⟨rfl,rfl⟩) | cases h
 ·exact fun _ _ _ h=>h
 ·intro⟨s,r,e,o,i⟩ jk Z hp hf;rw[r45_0];delta cq b7 ez ar aq bp ju az b9 j0 ak ax aw ay bu i6 a8 d9 d8 l9 cl lh f8 jm gx a7 km au;simp only[S45_0]at hp hf;simp only[jae]at hp;apply cond_intro<;>intro h
  ·have h:=jab h;have hc:=jfs s i.toNat;rw[jb7 hp.1 h]at hf;have k:bz ⟨#[57,86,90,42,89,84,73,82,83,43,45,36,44,46,47,66,67,68,65,88]⟩=kL:=rfl
   have put:∀(c:Int)(q:Nat),0≤c∧c<256→bz (o++sz (rep1 (upZ c) q))=bz o++rep1 (upZ c) q∧(o++sz (rep1 (upZ c) q)).size=o.size+q:=fun c q hc=>by
    have hb:IsB (rep1 (upZ c) q):=fun x hx=>by
     rw[List.eq_of_mem_replicate hx];unfold upZ;split<;>omega
    have e:bz (o++sz (rep1 (upZ c) q))=bz o++rep1 (upZ c) q:=by rw[jcw,jdd hb]
    exact⟨e,by rw[←jap,e,List.length_append,jap];simp[rep1]⟩
   refine c_t (jaa (by omega)) (cond_intro (fun h40=> ?_) (fun h40=> ?_))
   ·have h40:=eq_of_beq h40;rw[h40]at hf
    have e1:xpGo (40::(bz s).drop (i+1).toNat) 0 0 (bz o)=xpGo ((bz s).drop (i+1).toNat) 1 0 (bz o):=by
     rw[xpGo,if_neg (by decide),if_neg (by decide),if_pos rfl]
    rw[e1]at hf;rw[w64 (n:=i+1) (by omega),k];have N:=xp_ct (bz s) (i+1) (bz o) (by omega) (by rw[jap];omega);refine c_t (jaa (by omega)) (c_t (by simp) ?_);by_cases hP:ctP (bz s) (i+1)
    ·rw[if_pos hP]at N;obtain⟨n1,n2,n3,n4,n5⟩:=N;rw[n1]at hf;rw[jap]at n5;generalize (ctZ (bz s) (i+1)).1=n' at*;generalize (ctZ (bz s) (i+1)).2=a' at*;apply cond_intro<;>intro hd
     ·simp only[Bool.or_eq_true,jae]at hd;rw[jcq (by omega)]at hf;exact hf o a'
     ·simp only[Bool.or_eq_false_iff,decide_eq_false_iff_not]at hd;have hc2:=jfs s a'.toNat;obtain⟨u1,u2⟩:=put (jaj s a'.toNat) n'.toNat hc2;rw[jb7 (by omega) (show a'<s.size by omega),xp_put (.inl rfl),jap,if_pos rfl]at hf;rw[w64 (n:=(o.size:Int)+n') (by omega)];refine c_t (jaa (by omega)) (c_t (jaa hc2) (c_t (by simp) (cond_intro (fun hq=> ?_) (fun hq=> ?_))))
      ·rw[if_neg (by
        intro hz;rw[hz.1]at hq;simp only[Bool.not_true,Bool.false_or,jae]at hq;omega)]at hf
       exact hf o a'
      ·simp only[Bool.or_eq_false_iff,Bool.not_eq_false',decide_eq_false_iff_not]at hq;rw[if_pos ⟨hq.1,by omega⟩]at hf;refine c_t (jaa (by omega)) (c_t ?_ ?_)
       ·rw[jcr];simp only[jb1,Nat.ble_eq,rep1,List.length_replicate];omega
       ·rw[w64 (by omega)];refine⟨(s,r,e,_,a'+1),rfl,rfl,by simp only[S45_0,jae];omega,by simp only;omega,?_⟩;simp only[S45_0,u1];exact hf
    ·rw[if_neg hP]at N;rw[N.1]at hf;rw[N.2];exact hf o 0
   ·have h40:jaj s i.toNat≠40:=by simpa using h40
    obtain⟨u1,u2⟩:=put (jaj s i.toNat) (Int.toNat 1) hc;rw[xp_put (.inr ⟨rfl,h40⟩),jap,if_neg (show¬((0:Int)=2)by decide)]at hf;rw[k,w64 (n:=(o.size:Int)+1) (by omega)];refine c_t (jaa (by omega)) (c_t (jaa hc) (c_t (by simp) (cond_intro (fun hq=> ?_) (fun hq=> ?_))))
    ·rw[if_neg (by
      intro hz;rw[hz.1]at hq;simp only[Bool.not_true,Bool.false_or,jae]at hq;omega)]at hf
     exact hf o i
    ·simp only[Bool.or_eq_false_iff,Bool.not_eq_false',decide_eq_false_iff_not]at hq;rw[if_pos ⟨hq.1,by omega⟩]at hf;refine c_t ?_ ?_
     ·rw[jcr];simp only[jb1,Nat.ble_eq,rep1,List.length_replicate];omega
     ·rw[w64 (by omega)];refine⟨(s,r,e,_,i+1),rfl,rfl,by simp only[S45_0,jae];refine⟨by omega,by omega,by omega,?_⟩;rw[u2];omega,by simp only;omega,?_⟩;simp only[S45_0];rw[u1];exact hf
  ·have h:=jac h;rw[jcq (by omega)]at hf;obtain rfl:i=s.size:=by omega
   have:sz (bz o)=o:=jhk o;simp only[xpGo,this]at hf;exact hf
def exOK(l:J):Bool:=(xpGo l 0 0 []).2&& !(xpGo l 0 0 []).1.isEmpty
def eE(l:J):Int:=if exOK l=true then 0 else 30
def exZ(l:J):J:=if exOK l=true then(xpGo l 0 0 []).1 else []
theorem sz_empty(l:J):decide (bz (sz l)=bz ⟨#[]⟩)=l.isEmpty:=by
 cases l with
 | nil=>rfl
 | cons c r=>
  have:bz (sz (c::r))≠ []:=fun h=>by
   have:=congrArg List.length h;rw[jap,jcr]at this;simp at this
  exact jad this
def s45(s:Y):Bool×Value:=(decide (s.size≤9223372036854775807),.tuple ⟨[.string (sz (exZ (bz s))),.int .i64 (eE (bz s))]⟩)
theorem fn45:Fn1 Tryz.prog 196 Tryz.f196:= .m Tryz.func196
def e8(a:Yb):Value:= .string ⟨a.toArray⟩
def g8(b:Int)(a:Yb):E:=[e8 a,ak b]
theorem v45(s:Y)(R:Value→Prop):ja1 Tryz.prog G3 (oneL 0 S45_0.h) Tryz.f196 [Enc.enc s] (fun _=>none) 0 (fun v _ _=>R v)=(ib (S45_0.pre (s,(a8,((0:Int),(a8,(0:Int)))))) (xpGo (bq s 0) 0 0 (bz a8)).snd (Tmps→f0 (d4 (sz (xpGo (bq s 0) 0 0 (bz a8)).fst) a8) (.tuple ⟨g8 30 []⟩) (al (ax (sz (xpGo (bq s 0) 0 0 (bz a8)).fst) [] (ak 0))) R) (Y→fu (R (al (ax Px.e0 [] (ak 30)))))):=by kernel_rfl
theorem ok45:jao Tryz.prog 196 (sp1 s45):=by
 refine jb8 ok_G3 hmix fn45 l45_0 jag fun s hc=> ?_
 rw[ja2,v45];delta ar ib fu al ax ak f0 a8 bq e8 g8 d4;have hc:(s.size≤9223372036854775807):=jab hc;dsimp only[s45];refine c_t (by simp only[S45_0,jae];exact⟨by omega,by omega,by omega,by decide⟩) ?_;rw[jdm,show bz ⟨#[]⟩=[]from rfl];refine cond_intro (fun h x=> ?_) (fun h _ _ _=> ?_)
 ·rw[jcd,sz_empty];apply cond_intro<;>intro he
  ·have:exOK (bz s)=false:=by simp[exOK,he]
   simp only[exZ,eE,this];rfl
  ·have:exOK (bz s)=true:=by simp[exOK,he,h]
   simp only[exZ,eE,this,if_true]
 ·have:exOK (bz s)=false:=by simp[exOK,h]
  simp only[exZ,eE,this];rfl
def mk1(dr:Int)(seen:Bool)(c:Int):Int:=bif hasZ [57,89,84,73,82] c then 100 else bif hasZ [90,42] c || (dr !=0&& (c==dr&&seen))then 99
 else bif c==86 then 118 else bif c==36 then 109 else bif hasZ [83,43,45] c then 115 else 105
def mkGo(dr:Int):Bool→J→J
 | _,[]=> []
 | seen,c::r=>mk1 dr seen c::mkGo dr (seen || (dr !=0&&c==dr)) r
def jal(s:J):J:=if crZ s=true then s.take (s.length-2)else s
def jas(s:J):J:=mkGo (drZ (jal s)) false (jal s)++(if crZ s=true then [115,115]else [])
def V69_0:Y×Y×Y×Int×E×Nat×Nat×Bool×Int→E:=fun(s,r,b,dr,d,m,cap,seen,i)=> [S s,S r,S b,C8 dr,.slice (some ⟨200,0,some 1⟩) m cap,B seen,I i]
def B69_0:Y×Y×Y×Int×E×Nat×Nat×Bool×Int→O:=fun(s,r,b,dr,d,m,cap,seen,i)=> [some ⟨d,5,true⟩]
def S69_0:LSpecA (Y×Y×Y×Int×E×Nat×Nat×Bool×Int) where
 live:=[0,2,3,4,5,6,7]
 mid:=[200]
 n:=260
 ap:=[(.tmp 5,200)]
 dec vs bs:=match vs,bs with | [.string s,.string r,.string b,.int .u8 dr,.slice (some ⟨200,0,some 1⟩) m cap,.bool seen,.int .i64 i],[some ⟨d,5,true⟩]=>some (s,r,b,dr,d,m,cap,seen,i) | _,_=>none
 pre:=fun(s,r,b,dr,d,m,cap,seen,i)=>jci d m cap&&decide (0≤i∧i≤b.size∧b.size≤1000∧i=m)
 fin:=fun(s,r,b,dr,d,m,cap,seen,i) Z=>∀d' cap' seen',jci d' b.size cap'=true→zc d' b.size=zc d m++mkGo dr seen ((bz b).drop i.toNat)→Z (.exit 0) [S s,S r,S b,C8 dr,.slice (some ⟨200,0,some 1⟩) b.size cap',B seen',I b.size] [some ⟨d',5,true⟩]
def mc(a:E)(b c d:Nat)(e:Prop):Prop:=bif gn a b c d then e else False
def nd(b:Bool)(i l m:Y)(g:Exit→E→O→Prop)(c h j:Int)(d:E)(e f k:Nat):Prop:=bif b || (c !=0 || true)then mc d e f 1 (∀a:Nat,pp g h c .u8 d [a9 200 (f+1) a,.bool (b || c !=0&&au i j c),ay j] a f k (.string l) (.string m) (.string i))else False
theorem r69_0(s:Y)(r:Y)(b:Y)(dr:Int)(d:E)(m:Nat)(cap:Nat)(seen:Bool)(i:Int)(jk:Tmps)(R:Exit→E→O→Prop):(jbv Tryz.prog G3 noL Tryz.f201.ntmps (ja9 Tryz.f201 0) (tl S69_0.live (V69_0 (s,r,b,dr,d,m,cap,seen,i)) jk) (ml S69_0.mid (B69_0 (s,r,b,dr,d,m,cap,seen,i))) S69_0.n fun e t' m' _=>S69_0.out R e t' m')=(d5 (a7 i (aq b)) (bp b i) (f9 d 200 200) (bif ir b i [84,73,82] 57 89 then nd seen b s r R dr 100 i d cap m 286 else az (ir b i [] 90 42) (bk (dr !=0) (au b i dr || true) true) (ir b i [] 90 42 || dr !=0&& (au b i dr&&seen)) (nd seen b s r R dr 99 i d cap m 300) (bif au b i 86 then nd seen b s r R dr 118 i d cap m 302 else bif au b i 36 then nd seen b s r R dr 109 i d cap m 304 else bif ir b i [45] 83 43 then nd seen b s r R dr 115 i d cap m 306 else nd seen b s r R dr 105 i d cap m 305)) False (R (.exit 0) (j0 s r [ao dr,a9 200 m cap,B seen,ak i] (S b)) (ic d))):=by kernel_rfl
theorem l69_0:LOKf Tryz.prog (oneL 0 S69_0.hA) Tryz.f201:=by
 refine jbo (h:=S69_0.hA) (by kernel_rfl) (jbr ok_G3 hmix (by kernel_rfl) (ja7 _) S69_0 V69_0 B69_0 (fun(s,r,b,dr,d,m,cap,seen,i)=>(b.size-i).toNat) ?_ ?_ ?_)
 ·intro vs bs s h;simp only[S69_0]at h;split at h
  all_goals first | (cases h;exact⟨rfl,rfl⟩) | cases h
 ·exact fun⟨s,r,b,dr,d,m,cap,seen,i⟩ hp=>by
   simp only[S69_0,jaf]at hp;simp[V69_0,B69_0,S69_0,ja0,jbz,idsL,ids,jaq (jat.1 hp.1).plain]
 ·intro⟨s,r,b,dr,d,m,cap,seen,i⟩ jk Z hp hf;rw[r69_0];delta cq ar d5 ie ic j0 ak dv a9 ao az iq gn mc b9 gq mb nh pp aw ay au nd ir bk f9 aq bp a7;simp only[S69_0]at hp hf;simp only[jaf,jae]at hp;obtain⟨hr,hp⟩:=hp;have hr:=jat.1 hr;apply cond_intro<;>intro h
  ·have h:=jab h;have k1:bz ⟨#[57,89,84,73,82]⟩=[57,89,84,73,82]:=rfl;have k2:bz ⟨#[90,42]⟩=[90,42]:=rfl;have k3:bz ⟨#[83,43,45]⟩=[83,43,45]:=rfl;rw[k1,k2,k3];rw[jb7 hp.1 h]at hf;refine c_t (jaa (by omega)) ?_
   have fin:∀(cap':Nat)(d':E)(x:Int),mk1 dr seen (jaj b i.toNat)=x→RowP d' (m+1) cap'→zc d' (m+1)=zc d m++ [x]→
     S69_0.step V69_0 B69_0 (fun(s,r,b,dr,d,m,cap,seen,i)=>(b.size-i).toNat) (s,r,b,dr,d,m,cap,seen,i) Z Exit.normal [S s,S r,S b,C8 dr,.slice (some ⟨200,0,some 1⟩) (m+1) cap',B (seen || dr !=0&&jaj b i.toNat==dr),I (IntKind.wrap .i64 (i+1))] [some ⟨d',5,true⟩]:=by
    intro cap' d' x hx g1 g2;rw[w64 (by omega)];refine⟨(s,r,b,dr,d',m+1,cap',_,i+1),rfl,rfl,by simp only[S69_0,jaf,jae];exact⟨jat.2 g1,by omega⟩,by simp only;omega,?_⟩;intro d'' cap'' seen'' h1 h2;refine hf d'' cap'' seen'' h1 ?_;rw[h2,g2,mkGo,hx,List.append_assoc];rfl
   have sn:(seen || (dr !=0 || true))=true:=by simp
   have K:Nat→Nat→E→Prop:=fun _ _ _=>True
   apply cond_intro<;>intro h1
   ·exact c_t sn (jft hr (by omega) 100 _ (fun cap' d'=>S69_0.step V69_0 B69_0 _ (s,r,b,dr,d,m,cap,seen,i) Z Exit.normal [S s,S r,S b,C8 dr,.slice (some ⟨200,0,some 1⟩) (m+1) cap',B (seen || dr !=0&&jaj b i.toNat==dr),I (IntKind.wrap .i64 (i+1))] [some ⟨d',5,true⟩]) (fun cap' d' g1 g2=>fin cap' d' 100 (by simp only[mk1,h1,cond_true]) g1 g2))
   ·refine c_t (by cases hasZ [90,42] (jaj b i.toNat) <;>cases(dr !=0) <;>simp) (cond_intro (fun h2=> ?_) (fun h2=> ?_))
    ·exact c_t sn (jft hr (by omega) 99 _ (fun cap' d'=>S69_0.step V69_0 B69_0 _ (s,r,b,dr,d,m,cap,seen,i) Z Exit.normal [S s,S r,S b,C8 dr,.slice (some ⟨200,0,some 1⟩) (m+1) cap',B (seen || dr !=0&&jaj b i.toNat==dr),I (IntKind.wrap .i64 (i+1))] [some ⟨d',5,true⟩]) (fun cap' d' g1 g2=>fin cap' d' 99 (by simp only[mk1,h1,h2,cond_true,cond_false]) g1 g2))
    ·apply cond_intro<;>intro h3
     ·exact c_t sn (jft hr (by omega) 118 _ (fun cap' d'=>S69_0.step V69_0 B69_0 _ (s,r,b,dr,d,m,cap,seen,i) Z Exit.normal [S s,S r,S b,C8 dr,.slice (some ⟨200,0,some 1⟩) (m+1) cap',B (seen || dr !=0&&jaj b i.toNat==dr),I (IntKind.wrap .i64 (i+1))] [some ⟨d',5,true⟩]) (fun cap' d' g1 g2=>fin cap' d' 118 (by simp only[mk1,h1,h2,h3,cond_true,cond_false]) g1 g2))
     ·apply cond_intro<;>intro h4
      ·exact c_t sn (jft hr (by omega) 109 _ (fun cap' d'=>S69_0.step V69_0 B69_0 _ (s,r,b,dr,d,m,cap,seen,i) Z Exit.normal [S s,S r,S b,C8 dr,.slice (some ⟨200,0,some 1⟩) (m+1) cap',B (seen || dr !=0&&jaj b i.toNat==dr),I (IntKind.wrap .i64 (i+1))] [some ⟨d',5,true⟩]) (fun cap' d' g1 g2=>fin cap' d' 109 (by simp only[mk1,h1,h2,h3,h4,cond_true,cond_false]) g1 g2))
      ·apply cond_intro<;>intro h5
       ·exact c_t sn (jft hr (by omega) 115 _ (fun cap' d'=>S69_0.step V69_0 B69_0 _ (s,r,b,dr,d,m,cap,seen,i) Z Exit.normal [S s,S r,S b,C8 dr,.slice (some ⟨200,0,some 1⟩) (m+1) cap',B (seen || dr !=0&&jaj b i.toNat==dr),I (IntKind.wrap .i64 (i+1))] [some ⟨d',5,true⟩]) (fun cap' d' g1 g2=>fin cap' d' 115 (by simp only[mk1,h1,h2,h3,h4,h5,cond_true,cond_false]) g1 g2))
       ·exact c_t sn (jft hr (by omega) 105 _ (fun cap' d'=>S69_0.step V69_0 B69_0 _ (s,r,b,dr,d,m,cap,seen,i) Z Exit.normal [S s,S r,S b,C8 dr,.slice (some ⟨200,0,some 1⟩) (m+1) cap',B (seen || dr !=0&&jaj b i.toNat==dr),I (IntKind.wrap .i64 (i+1))] [some ⟨d',5,true⟩]) (fun cap' d' g1 g2=>fin cap' d' 105 (by simp only[mk1,h1,h2,h3,h4,h5,cond_true,cond_false]) g1 g2))
  ·have h:=jac h;refine c_t (by rw[hr.good];rfl) ?_;rw[hr.rlb];obtain rfl:i=b.size:=by omega
   have e:b.size=m:=by omega
   have:=hf d cap seen (by rw[e];exact jat.2 hr) (by rw[jcq (Int.le_refl _),e];simp[mkGo]);rw[e]at this ⊢;exact this
def s69(s:Y):Bool×Value:=(decide (s.size≤1000),.string (sz (jas (bz s))))
theorem fn69:Fn1 Tryz.prog 201 Tryz.f201:= .m Tryz.func201
def gm(b:E)(a:Nat):Bool:=ja0 a b&&true
def ik(a:E)(b:Nat)(c:Prop):Prop:=bif gm a b then Tmps→c else False
def qu(c d:Y)(e:J)(f:Value→Prop):Prop:=bif cm c then bif S69_0.toLSpec.pre (d,(a8,(c,(drZ (bz c),(([]:E),(0,(0,(false,(0:Int)))))))))then∀a:E,∀b:Nat,Bool→jci a c.size b=true→zc a c.size=zc [] 0++mkGo (drZ (bz c)) false e→ik a 260 (du (crZ (bz d)) d (j6 (jbf a 0 c.size) (i6 (jbb a 0 c.size) ⟨#[115,115]⟩) (.string (jbb a 0 c.size++⟨#[115,115]⟩)) f) (cu (jbf a 0 c.size) (.string (jbb a 0 c.size)) f))else False else False
def ij(a:Y):J:=(bz a).drop (Int.toNat 0)
def iw(a:Y):Y:=a.extract 0 (gk a 2).toNat
def ly(a:Y)(b:Int):Bool:=gz 0 0 (gk a b) (gk a b) (aq a)
theorem v69(s:Y)(R:Value→Prop):ja1 Tryz.prog G3 (oneL 0 S69_0.hA) Tryz.f201 [Enc.enc s] (fun _=>none) 0 (fun v _ _=>R v)=(du (crZ (bz s)) s (bif ly s 2 then qu (iw s) s (ij (iw s)) R else False) (qu s s (bq s 0) R)):=by kernel_rfl
theorem ok69:jao Tryz.prog 201 (sp1 s69):=by
 refine jb8 ok_G3 hmix fn69 l69_0 jag fun s hc=> ?_
 rw[ja2,v69];delta ar cm du gm ik cu j6 i6 a8 qu bq ij aq gk iw gz ly;have hc:(s.size≤1000):=jab hc;dsimp only[s69];have hz0:zc [] 0=[]:=rfl;have kss:(⟨#[115,115]⟩:Y)=sz [115,115]:=rfl;refine c_t (jaa (by omega)) (cond_intro (fun hcr=> ?_) (fun hcr=> ?_))
 ·have h2:2≤s.size:=by
   simp only[crZ,jaf,jae,jap]at hcr;exact hcr.1
  have e:((s.size:Int)-2).toNat=s.size-2:=by omega
  rw[w64 (by omega),e];have eb:bz (s.extract 0 (s.size-2))=(bz s).take (s.size-2):=by rw[jcb];simp
  have hbs:(s.extract 0 (s.size-2)).size=s.size-2:=by rw[←jap,eb,List.length_take,jap];omega
  generalize s.extract 0 (s.size-2)=b at*;refine c_t (jaa (by omega)) (c_t (jaa (by omega)) (c_t ?_ (fun d' cap' seen' h1 h3=> ?_)))
  ·simp only[S69_0,jaf,jae];exact⟨rfl,by omega⟩
  have h1:=jat.1 h1;have hsz:(jbb d' 0 b.size).size=b.size:=by rw[h1.str.2,jcr,jba h1]
  refine c_t (by rw[jbi h1.plain];rfl) (fun _=>c_t (jaa (by omega)) (c_t hcr (c_t h1.str.1 (c_t ?_ ?_))))
  ·rw[hsz];simp only[jb1,Nat.ble_eq];show b.size+2≤_;omega
  ·rw[h1.str.2,h3,hz0,jdm,kss,←sz_append];simp only[jas,jal,hcr,if_true,jap,eb,List.nil_append]
 ·refine c_t (jaa (by omega)) (c_t ?_ (fun d' cap' seen' h1 h3=> ?_))
  ·simp only[S69_0,jaf,jae];exact⟨rfl,by omega⟩
  have h1:=jat.1 h1;refine c_t (by rw[jbi h1.plain];rfl) (fun _=>c_t (jaa (by omega)) (c_f hcr (c_t h1.str.1 ?_)));rw[h1.str.2,h3,hz0,jdm];simp[jas,jal,hcr]
def G4:Env:=(((Env.nil.add 202 (sp2 s40)).add 199 (sp2 s75)).add 242 (sp1 s96)).add 238 (sp1 s101)
theorem ok_G4:jax Tryz.prog G4:=jak (jak (jak (jak jan ok40) ok75) ok96) ok101
def df1(s:J)(dr:Int):J→Int→Int→Int→Bool×Int×Int
 | [],_,f,l=>(true,f,l)
 | c::r,i,f,l=>bif c==dr then df1 s dr r (i+1) (if f<0 then i else f) i
  else bif hasZ [36,83,43,45] c&&decide (2≤cntZ s c)then(false,0,0)else df1 s dr r (i+1) f l
def d2Go(dr f:Int):J→Int→Bool
 | [],_=>true
 | c::r,i=> !(decide (i<f) &&c==86) && (!(decide (i>f) && (c !=dr&& !hasZ [44,46,47,66,86] c)) &&d2Go dr f r (i+1))
def jcl(s:J):Bool:=drZ s==0 || ((df1 s (drZ s) s 0 (-1) (-1)).1&&d2Go (drZ s) (df1 s (drZ s) s 0 (-1) (-1)).2.1 (s.take (df1 s (drZ s) s 0 (-1) (-1)).2.2.toNat) 0)
theorem jkw(s:J)(dr:Int):∀(r:J)(i f l:Int),0≤i→ -1≤f→f≤i→ -1≤l→l≤i→(df1 s dr r i f l).1=true→ -1≤(df1 s dr r i f l).2.1∧(df1 s dr r i f l).2.1≤i+r.length∧ -1≤(df1 s dr r i f l).2.2∧(df1 s dr r i f l).2.2≤i+r.length
 | [],i,f,l,h0,h1,h2,h3,h4,_=>by simp only[df1,List.length_nil];omega
 | c::r,i,f,l,h0,h1,h2,h3,h4,hk=>by
  simp only[df1,List.length_cons]at hk ⊢;cases hc:(c==dr)with
  | true=>
   rw[hc]at hk;simp only[cond_true]at hk ⊢;have:=jkw s dr r (i+1) _ i (by omega) (by split<;>omega) (by split<;>omega) (by omega) (by omega) hk;omega
  | false=>
   rw[hc]at hk;simp only[cond_false]at hk ⊢;cases hq:(hasZ [36,83,43,45] c&&decide (2≤cntZ s c))with
   | true=>rw[hq]at hk;cases hk
   | false=>
    rw[hq]at hk;simp only[cond_false]at hk ⊢;have:=jkw s dr r (i+1) f l (by omega) h1 (by omega) h3 (by omega) hk;omega
def V104_0:Y×Bool×Int×Int×Int×Int→E:=fun(s,b,dr,f,l,i)=> [S s,B b,C8 dr,I f,I l,I i]
def B104_0:Y×Bool×Int×Int×Int×Int→O:=fun _=> []
def S104_0:LSpec (Y×Bool×Int×Int×Int×Int) where
 live:=[0,2,3,4,5,6]
 mid:=[]
 n:=60
 dec vs bs:=match vs,bs with | [.string s,.bool b,.int .u8 dr,.int .i64 f,.int .i64 l,.int .i64 i],[]=>some (s,b,dr,f,l,i) | _,_=>none
 pre:=fun(s,b,dr,f,l,i)=>decide (0≤i∧i≤s.size∧s.size≤9223372036854775807∧ -1≤f∧f≤i∧ -1≤l∧l≤i)
 fin:=fun(s,b,dr,f,l,i) Z=>(bif (df1 (bz s) dr ((bz s).drop i.toNat) i f l).1 then Z (.exit 0) [S s,B b,C8 dr,I (df1 (bz s) dr ((bz s).drop i.toNat) i f l).2.1,I (df1 (bz s) dr ((bz s).drop i.toNat) i f l).2.2,I s.size] []else(∀f' l' i',Z .ret [S s,B false,C8 dr,I f',I l',I i'] []))
def dq(b:Bool)(a:Y)(d:E)(c:Value):E:= .string a:: .bool b::c::d
theorem r104_0(s:Y)(b:Bool)(dr:Int)(f:Int)(l:Int)(i:Int)(jk:Tmps)(R:Exit→E→O→Prop):(jbv Tryz.prog G4 noL Tryz.f239.ntmps (ja9 Tryz.f239 0) (tl S104_0.live (V104_0 (s,b,dr,f,l,i)) jk) (ml S104_0.mid (B104_0 (s,b,dr,f,l,i))) S104_0.n fun e t' m' _=>R e (List.map t' S104_0.live) (List.map m' S104_0.mid))=(ez (bp s i) R i (aq s) [] (dq b s (ak f::bw l i) (ao dr)) 0 (bif au s i dr then bif a7 f 0 then R .normal (dq b s (ak i::bv i i) (ao dr)) []else R .normal (dq b s (ak f::bv i i) (ao dr)) []else bif j7 (ir s i [43,45] 36 83) (cm s&&true) s s i i then ko (ir s i [43,45] 36 83&&decide ((cntZ (bz s) (bu s i):Int)≥2)) R [] (dq false s (ak f::bw l i) (ao dr)) (dq b s (ak f::bv l i) (ao dr))else False)):=by kernel_rfl
theorem l104_0:∀t m n K,S104_0.h t m n K→Ab.Sem Tryz.prog Tryz.f239.ntmps (.loop (ja9 Tryz.f239 0)) t m n K:=by
 refine jbl ok_G4 hmix (by kernel_rfl) (ja7 _) S104_0 V104_0 B104_0 (fun(s,b,dr,f,l,i)=>(s.size-i).toNat) ?_ ?_ ?_
 ·intro vs bs s h;simp only[S104_0]at h;split at h
  all_goals first | (cases h;exact⟨rfl,rfl⟩) | cases h
 ·exact fun _ _ _ h=>h
 ·intro⟨s,b,dr,f,l,i⟩ jk Z hp hf;rw[r104_0];delta cq b7 ez ko dq ao aw ay ak bv bw bu ir bk aq bp j7 cm a7 au;simp only[S104_0]at hp hf;simp only[jae]at hp;apply cond_intro<;>intro h
  ·have h:=jab h;rw[jb7 hp.1 h,df1]at hf;have h1:decide (0≤i∧i<(s.size:Int))=true:=jaa (by omega);have k:bz ⟨#[36,83,43,45]⟩=[36,83,43,45]:=rfl;rw[k];refine c_t h1 (cond_intro (fun hc=> ?_) (fun hc=> ?_))
   ·rw[hc,cond_true]at hf;rw[w64 (n:=i+1) (by omega)];apply cond_intro<;>intro hd
    ·rw[if_pos (jab hd)]at hf;exact⟨(s,b,dr,i,i,i+1),rfl,rfl,by simp only[S104_0,jae];omega,by simp only;omega,hf⟩
    ·rw[if_neg (jac hd)]at hf;exact⟨(s,b,dr,f,i,i+1),rfl,rfl,by simp only[S104_0,jae];omega,by simp only;omega,hf⟩
   ·rw[hc,cond_false]at hf;refine c_t (by rw[h1,jaa hp.2.2.1];cases hasZ [36,83,43,45] (jaj s i.toNat) <;>rfl) (cond_intro (fun hd=> ?_) (fun hd=> ?_))
    ·have hd':(hasZ [36,83,43,45] (jaj s i.toNat) &&decide (2≤cntZ (bz s) (jaj s i.toNat)))=true:=by
      simp only[jaf,jae]at hd ⊢;exact⟨hd.1,by omega⟩
     rw[hd',cond_true]at hf;exact hf f l i
    ·have hd':(hasZ [36,83,43,45] (jaj s i.toNat) &&decide (2≤cntZ (bz s) (jaj s i.toNat)))=false:=by
      cases q:hasZ [36,83,43,45] (jaj s i.toNat)with
      | false=>rfl
      | true=>
       rw[q,Bool.true_and,decide_eq_false_iff_not]at hd;rw[Bool.true_and];exact jad (by omega)
     rw[hd',cond_false]at hf;rw[w64 (by omega)];exact⟨(s,b,dr,f,l,i+1),rfl,rfl,by simp only[S104_0,jae];omega,by simp only;omega,hf⟩
  ·have h:=jac h;rw[jcq (by omega)]at hf;obtain rfl:i=s.size:=by omega
   exact hf
def V104_2:Y×Bool×Int×Int×Int×Int→E:=fun(s,b,dr,f,l,i)=> [S s,B b,C8 dr,I f,I l,I i]
def B104_2:Y×Bool×Int×Int×Int×Int→O:=fun _=> []
def S104_2:LSpec (Y×Bool×Int×Int×Int×Int) where
 live:=[0,2,3,4,5,7]
 mid:=[]
 n:=90
 dec vs bs:=match vs,bs with | [.string s,.bool b,.int .u8 dr,.int .i64 f,.int .i64 l,.int .i64 i],[]=>some (s,b,dr,f,l,i) | _,_=>none
 pre:=fun(s,b,dr,f,l,i)=>decide (0≤i∧s.size≤9223372036854775807∧l≤s.size)
 fin:=fun(s,b,dr,f,l,i) Z=>(bif d2Go dr f (((bz s).take l.toNat).drop i.toNat) i then(∀i',Z (.exit 2) [S s,B b,C8 dr,I f,I l,I i'] [])else(∀i',Z .ret [S s,B false,C8 dr,I f,I l,I i'] []))
theorem r104_2(s:Y)(b:Bool)(dr:Int)(f:Int)(l:Int)(i:Int)(jk:Tmps)(R:Exit→E→O→Prop):(jbv Tryz.prog G4 noL Tryz.f239.ntmps (ja9 Tryz.f239 2) (tl S104_2.live (V104_2 (s,b,dr,f,l,i)) jk) (ml S104_2.mid (B104_2 (s,b,dr,f,l,i))) S104_2.n fun e t' m' _=>R e (List.map t' S104_2.live) (List.map m' S104_2.mid))=(ez (bk (b7 i f) (bp s i&&true) true) R i l [] (dq b s (ak f::bw l i) (ao dr)) 2 (bif b7 i f&&au s i 86 then R .ret (dq false s (ak f::bw l i) (ao dr)) []else bif bk (dy i f) (j7 (bu s i !=dr) true s s i i) true then ko (dy i f&& (bu s i !=dr&& !ir s i [47,66,86] 44 46)) R [] (dq false s (ak f::bw l i) (ao dr)) (dq b s (ak f::bv l i) (ao dr))else False)):=by kernel_rfl
theorem l104_2:∀t m n K,S104_2.h t m n K→Ab.Sem Tryz.prog Tryz.f239.ntmps (.loop (ja9 Tryz.f239 2)) t m n K:=by
 refine jbl ok_G4 hmix (by kernel_rfl) (ja7 _) S104_2 V104_2 B104_2 (fun(s,b,dr,f,l,i)=>(l-i).toNat) ?_ ?_ ?_
 ·intro vs bs s h;simp only[S104_2]at h;split at h
  all_goals first | (cases h;exact⟨rfl,rfl⟩) | cases h
 ·exact fun _ _ _ h=>h
 ·intro⟨s,b,dr,f,l,i⟩ jk Z hp hf;rw[r104_2];delta cq b7 ez ko dq ao aw ay ak bv bw ir bu dy bk aq bp j7 au;simp only[S104_2]at hp hf;simp only[jae]at hp;have k:bz ⟨#[44,46,47,66,86]⟩=[44,46,47,66,86]:=rfl;rw[k];apply cond_intro<;>intro h
  ·have h:=jab h;rw[bz_take_at hp.1 h hp.2.2,d2Go]at hf;have h1:decide (0≤i∧i<(s.size:Int))=true:=jaa (by omega);refine c_t (by rw[h1];cases decide (i<f) <;>rfl) (cond_intro (fun ha=> ?_) (fun ha=> ?_))
   ·rw[ha]at hf;exact hf i
   ·rw[ha,Bool.not_false,Bool.true_and]at hf;refine c_t (by rw[h1];cases decide (i>f) <;>cases(jaj s i.toNat !=dr) <;>rfl) (cond_intro (fun hb=> ?_) (fun hb=> ?_))
    ·rw[hb]at hf;exact hf i
    ·rw[hb,Bool.not_false,Bool.true_and]at hf;rw[w64 (by omega)];exact⟨(s,b,dr,f,l,i+1),rfl,rfl,by simp only[S104_2,jae];omega,by simp only;omega,hf⟩
  ·have h:=jac h;rw[List.drop_eq_nil_of_le (by rw[List.length_take];omega)]at hf;exact hf i
theorem lok104:LOKf Tryz.prog (twoL 0 S104_0.h 2 S104_2.h) Tryz.f239:=jga (by kernel_rfl) (by kernel_rfl) l104_0 l104_2
def s104(s:Y):Bool×Value:=(decide (s.size≤1000),.bool (jcl (bz s)))
theorem fn104:Fn1 Tryz.prog 239 Tryz.f239:= .m Tryz.func239
def kp(a:Bool)(b c:Prop):Prop:=Tmps→ar a b c
def oe(a:Y):Prod Bool (Prod Int Int):=df1 (bz a) (drZ (bz a)) (bq a 0) 0 (-1) (-1)
theorem v104(s:Y)(R:Value→Prop):ja1 Tryz.prog G4 (twoL 0 S104_0.h 2 S104_2.h) Tryz.f239 [Enc.enc s] (fun _=>none) 0 (fun v _ _=>R v)=(du (drZ (bz s)==0) s (R (B true)) (ib (S104_0.pre (s,(false,(drZ (bz s),(-(1:Int),(-(1:Int),(0:Int))))))) (oe s).fst (kp (S104_2.pre (s,(false,(drZ (bz s),((oe s).snd.fst,((oe s).snd.snd,(0:Int))))))) (bif d2Go (drZ (bz s)) (oe s).snd.fst (((bz s).take (oe s).snd.snd.toNat).drop (Int.toNat 0)) 0 then fu (R (B true))else fu (fk R)) False) (Int→Int→fu (fk R)))):=by kernel_rfl
theorem ok104:jao Tryz.prog 239 (sp1 s104):=by
 refine jb8 ok_G4 hmix fn104 lok104 jag fun s hc=> ?_
 rw[ja2,v104];delta ar cm du ib fu fk kp bq oe;have hc:(s.size≤1000):=jab hc;dsimp only[s104];refine c_t (jaa (by omega)) (cond_intro (fun h=>by simp only[jcl,h,Bool.true_or]) (fun h=>c_t (by simp only[S104_0,jae];omega) ?_));rw[jdm];have hr:=jkw (bz s) (drZ (bz s)) (bz s) 0 (-1) (-1) (by omega) (by omega) (by omega) (by omega) (by omega);rw[jap]at hr;simp only[jcl,h,Bool.false_or];generalize df1 (bz s) (drZ (bz s)) (bz s) 0 (-1) (-1)=q at*;refine cond_intro (fun h1 x=>c_t ?_ ?_) (fun h1 _ _ _ _=>by rw[h1];rfl)
 ·have:=hr h1;simp only[S104_2,jae];omega
 ·rw[jdm];exact cond_intro (fun h2 _ _=>by rw[h1,h2];rfl) (fun h2 _ _=>by rw[h1,h2];rfl)
def ldGo:J→Bool→Bool→Bool→Int→Bool×Bool×Bool×Int
 | [],fm,bh,_,dg=>(true,fm,bh,dg)
 | m::r,fm,bh,pt,dg=>bif m==118 then ldGo r fm bh true dg else bif m==100 then ldGo r true bh pt (dg+1)
  else bif m==99 then(bif fm then(false,false,false,0)else ldGo r fm (bh || pt) pt (dg+1))else ldGo r fm bh pt dg
def jdp(b ms:J):Bool:=bif hasZ b 90&&hasZ b 42 then false else bif (hasZ b 90 || hasZ b 42) &&drZ b !=0 then false
 else(ldGo ms false false false 0).1&& (decide (1≤(ldGo ms false false false 0).2.2.2) && (decide ((ldGo ms false false false 0).2.2.2≤9) && !((ldGo ms false false false 0).2.2.1&& (ldGo ms false false false 0).2.1)))
def V105_0:Y×Y×Bool×Bool×Bool×Bool×Int×Int→E:=fun(s,ms,b,fm,bh,pt,dg,i)=> [S s,S ms,B b,B fm,B bh,B pt,I dg,I i]
def B105_0:Y×Y×Bool×Bool×Bool×Bool×Int×Int→O:=fun _=> []
def S105_0:LSpec (Y×Y×Bool×Bool×Bool×Bool×Int×Int) where
 live:=[0,1,4,5,6,7,8,9]
 mid:=[]
 n:=60
 dec vs bs:=match vs,bs with | [.string s,.string ms,.bool b,.bool fm,.bool bh,.bool pt,.int .i64 dg,.int .i64 i],[]=>some (s,ms,b,fm,bh,pt,dg,i) | _,_=>none
 pre:=fun(s,ms,b,fm,bh,pt,dg,i)=>decide (0≤i∧i≤s.size∧s.size=ms.size∧s.size≤1000∧0≤dg∧dg≤i)
 fin:=fun(s,ms,b,fm,bh,pt,dg,i) Z=>(bif (ldGo ((bz ms).drop i.toNat) fm bh pt dg).1 then(∀pt',Z (.exit 0) [S s,S ms,B b,B (ldGo ((bz ms).drop i.toNat) fm bh pt dg).2.1,B (ldGo ((bz ms).drop i.toNat) fm bh pt dg).2.2.1,B pt',I (ldGo ((bz ms).drop i.toNat) fm bh pt dg).2.2.2,I s.size] [])else(∀fm' bh' pt' dg' i',Z .ret [S s,S ms,B false,B fm',B bh',B pt',I dg',I i'] []))
def og(b d e g:Bool)(a c:Y)(f:E):E:= .string a::dq b c (.bool d:: .bool e::f) (.bool g)
theorem r105_0(s:Y)(ms:Y)(b:Bool)(fm:Bool)(bh:Bool)(pt:Bool)(dg:Int)(i:Int)(jk:Tmps)(R:Exit→E→O→Prop):(jbv Tryz.prog G4 noL Tryz.f240.ntmps (ja9 Tryz.f240 0) (tl S105_0.live (V105_0 (s,ms,b,fm,bh,pt,dg,i)) jk) (ml S105_0.mid (B105_0 (s,ms,b,fm,bh,pt,dg,i))) S105_0.n fun e t' m' _=>R e (List.map t' S105_0.live) (List.map m' S105_0.mid))=(ez (bp ms i) R i (aq s) [] (og b bh pt fm s ms (bw dg i)) 0 (bif au ms i 118 then R .normal (og b bh true fm s ms (bv dg i)) []else ju (au ms i 100) ms i (R .normal (og b bh pt true s ms (j5 dg i)) []) (bif bp ms i then bif au ms i 99 then bif fm then R .ret (S s::dq false ms (B bh::B pt::bw dg i) (B fm)) []else b9 (bh || true) R [] (og b (bh || pt) pt fm s ms (j5 dg i))else R .normal (og b bh pt fm s ms (bv dg i)) []else False))):=by kernel_rfl
theorem l105_0:LOKf Tryz.prog (oneL 0 S105_0.h) Tryz.f240:=by
 refine jbo (h:=S105_0.h) (by kernel_rfl) (jbl ok_G4 hmix (by kernel_rfl) (ja7 _) S105_0 V105_0 B105_0 (fun(s,ms,b,fm,bh,pt,dg,i)=>(s.size-i).toNat) ?_ ?_ ?_)
 ·intro vs bs s h;simp only[S105_0]at h;split at h
  all_goals first | (cases h;exact⟨rfl,rfl⟩) | cases h
 ·exact fun _ _ _ h=>h
 ·intro⟨s,ms,b,fm,bh,pt,dg,i⟩ jk Z hp hf;rw[r105_0];delta cq b7 ez ar aq bp ju dq og aw ay ak bv b9 j5 bw au;simp only[S105_0]at hp hf;simp only[jae]at hp;apply cond_intro<;>intro h
  ·have h:=jab h;rw[jb7 (s:=ms) hp.1 (by omega),ldGo]at hf;have h1:decide (0≤i∧i<(ms.size:Int))=true:=jaa (by omega);refine c_t h1 (cond_intro (fun q1=> ?_) (fun q1=>c_t h1 (cond_intro (fun q2=> ?_) (fun q2=>c_t h1 (cond_intro (fun q3=>cond_intro (fun q4=> ?_) (fun q4=>c_t (by simp) ?_)) (fun q3=> ?_))))))
   ·rw[q1,cond_true]at hf;rw[w64 (by omega)];exact⟨(s,ms,b,fm,bh,true,dg,i+1),rfl,rfl,by simp only[S105_0,jae];omega,by simp only;omega,hf⟩
   ·rw[q1,q2,cond_false,cond_true]at hf;rw[w64 (n:=dg+1) (by omega),w64 (by omega)];exact⟨(s,ms,b,true,bh,pt,dg+1,i+1),rfl,rfl,by simp only[S105_0,jae];omega,by simp only;omega,hf⟩
   ·rw[q1,q2,q3,cond_false,cond_false,cond_true,q4,cond_true]at hf;exact hf fm bh pt dg i
   ·rw[q1,q2,q3,cond_false,cond_false,cond_true,q4,cond_false]at hf;rw[w64 (n:=dg+1) (by omega),w64 (by omega),q4];exact⟨(s,ms,b,false,bh || pt,pt,dg+1,i+1),rfl,rfl,by simp only[S105_0,jae];omega,by simp only;omega,hf⟩
   ·rw[q1,q2,q3,cond_false,cond_false,cond_false]at hf;rw[w64 (by omega)];exact⟨(s,ms,b,fm,bh,pt,dg,i+1),rfl,rfl,by simp only[S105_0,jae];omega,by simp only;omega,hf⟩
  ·have h:=jac h;rw[jcq (by omega)]at hf;obtain rfl:i=s.size:=by omega
   exact hf pt
def s105(s:Y)(ms:Y):Bool×Value:=(decide (s.size=ms.size∧s.size≤1000),.bool (jdp (bz s) (bz ms)))
theorem fn105:Fn1 Tryz.prog 240 Tryz.f240:= .m Tryz.func240
def i7(a b c:Bool)(d e:Prop):Prop:=bif a&&b then ar c d e else False
def o6(b c:Bool)(a:Int):Bool:=decide (a≥1) && (decide (a≤9) &&bk b (!c) (!false))
def oh(a:Y):Prod Bool (Prod Bool Int):=(ldGo (bq a 0) false false false 0).snd
def nf(b:Bool)(a:Int):Bool:=bif decide (a≥1)then bk (decide (a≤9)) (b || true) true else true
theorem v105(s:Y)(ms:Y)(R:Value→Prop):ja1 Tryz.prog G4 (oneL 0 S105_0.h) Tryz.f240 [Enc.enc s,Enc.enc ms] (fun _=>none) 0 (fun v _ _=>R v)=(i7 (cm s) (bk (hasZ (bz s) 90) (cm s&&true) true) (hasZ (bz s) 90&&hasZ (bz s) 42) (fk R) (bif cm s&&bk (hasZ (bz s) 90) (cm s&&true) (cm s&& (bif hasZ (bz s) 42 then cm s&&true else true))then bif bk (hasZ (bz s) 90) (drZ (bz s) !=0) (hasZ (bz s) 42&&drZ (bz s) !=0)then fk R else ib (S105_0.pre (s,(ms,(false,(false,(false,(false,((0:Int),(0:Int))))))))) (ldGo (bq ms 0) false false false 0).fst (Bool→Tmps→cu (nf (oh ms).snd.fst (oh ms).snd.snd) (B (o6 (oh ms).snd.fst (oh ms).fst (oh ms).snd.snd)) R) (Bool→Bool→Bool→Int→fu (fk R))else False)):=by kernel_rfl
theorem ok105:jao Tryz.prog 240 (sp2 s105):=by
 refine jct ok_G4 hmix fn105 l105_0 jag fun s ms hc=> ?_
 rw[ja2,v105];delta ar i7 ib fu fk cu bk o6 bq oh nf cm;have hc:(s.size=ms.size∧s.size≤1000):=jab hc;dsimp only[s105];have d:decide (s.size≤9223372036854775807)=true:=jaa (by omega);rw[d];refine c_t (by cases hasZ (bz s) 90<;>rfl) (cond_intro (fun a=> ?_) (fun a=> ?_))
 ·simp only[jdp,a,cond_true]
 ·refine c_t (by cases hasZ (bz s) 90<;>cases hasZ (bz s) 42<;>rfl) ?_;have e:(bif hasZ (bz s) 90 then drZ (bz s) !=0 else hasZ (bz s) 42&&drZ (bz s) !=0)=((hasZ (bz s) 90 || hasZ (bz s) 42) &&drZ (bz s) !=0):=by cases hasZ (bz s) 90<;>cases hasZ (bz s) 42<;>rfl
  rw[e];apply cond_intro<;>intro q
  ·simp only[jdp,a,q,cond_true,cond_false]
  ·refine c_t (by simp only[S105_0,jae];omega) ?_;rw[jdm];simp only[jdp,a,q,cond_false];generalize ldGo (bz ms) false false false 0=w;obtain⟨w1,fm,bh,dg⟩:=w;refine cond_intro (fun r pt' x=>c_t ?_ ?_) (fun r _ _ _ _ _ _=> ?_)
   ·simp only;cases decide (dg≥1) <;>cases decide (dg≤9) <;>cases bh<;>rfl
   ·simp only at r ⊢;rw[r];cases fm<;>cases bh<;>rfl
   ·simp only at r ⊢;rw[r];rfl
def b2i(b:Bool):Int:=if b then 1 else 0
def jdh(s:J):Int:=b2i (crZ s)+b2i (hasZ (jal s) 83)+b2i (hasZ (jal s) 43)+b2i (hasZ (jal s) 45)+cntZ (jal s) 84+cntZ (jal s) 73+cntZ (jal s) 82
def s76(s:Y):Bool×Value:=(decide (s.size≤1000),.int .i64 (jdh (bz s)))
theorem fn76:Fn1 Tryz.prog 200 Tryz.f200:= .m Tryz.func200
theorem lokf_jvP{fn:Func}{l:List Nat}(h:(match fn.body with | some c=>blks (jV l) c | none=> [])=[]):LOKf Tryz.prog (jV l) fn:=by
 unfold LOKf;split
 ·rename_i c hc;simp only[hc]at h;exact jgz c fun p hp=>by rw[h]at hp;cases hp
 ·trivial
def bo76(s:Y):Y:=bif crZ (bz s)then s.extract 0 (IntKind.wrap .i64 ((s.size:Int)-2)).toNat else s
def sg76(b:Y)(x c:Int):Int:=bif hasZ (bz b) c then IntKind.wrap .i64 (x+1)else x
def k76(b:Y)(x:Int)(R:Value→Prop):Prop:=bif cm b then az (hasZ (bz b) 83) true (cm b) (bif hasZ (bz b) 43 || true then du (hasZ (bz b) 45 || true) b (bif cm b then j6 (cm b) (cm b) (I (d8 (dx (IntKind.i64.wrap (sg76 b (sg76 b (sg76 b x 83) 43) 45+(cntZ (bz b) 84:Int))+(cntZ (bz b) 73:Int)) .i64) (cntZ (bz b) 82:Int))) R else False) False else False) False else False
theorem v76(s:Y)(R:Value→Prop):ja1 Tryz.prog G4 (jV [4]) Tryz.f200 [Enc.enc s] (fun _=>none) 0 (fun v _ _=>R v)=(du (bk (crZ (bz s)) (ly s 2&&true&&true) true) s (k76 (bo76 s) (bif crZ (bz s)then 1 else 0) R) False):=by kernel_rfl
theorem b2i_r{q:Bool}:0≤b2i q∧b2i q≤1:=by cases q<;>decide
theorem sg_v{b:Y}{x c:Int}(h:0≤x∧x≤1000):sg76 b x c=x+b2i (hasZ (bz b) c):=by
 unfold sg76;cases hasZ (bz b) c
 ·simp[b2i]
 ·rw[cond_true,w64 (by omega)];rfl
theorem ok76:jao Tryz.prog 200 (sp1 s76):=by
 refine jb8 ok_G4 hmix fn76 (lokf_jvP (l:=[4]) (by kernel_rfl)) jag fun s hc=> ?_
 rw[ja2,v76];delta ar cm du bk gz aq gk ly;have hc:(s.size≤1000):=jab hc;dsimp only[s76]
 have key:(bz (bo76 s)=jal (bz s)∧(bo76 s).size≤1000)∧(crZ (bz s)=true→2≤s.size):=by
  unfold bo76 jal;cases hcr:crZ (bz s)
  ·exact⟨⟨by simp,hc⟩,by simp⟩
  ·have h2:2≤s.size:=by
    simp only[crZ,jaf,jae,jap]at hcr;exact hcr.1
   have e:((s.size:Int)-2).toNat=s.size-2:=by omega
   rw[cond_true,w64 (n:=(s.size:Int)-2) (by omega),e];have eb:bz (s.extract 0 (s.size-2))=(bz s).take (s.size-2):=by rw[jcb];simp
   have hbs:(s.extract 0 (s.size-2)).size=s.size-2:=by rw[←jap,eb,List.length_take,jap];omega
   exact⟨⟨by rw[eb];simp,by omega⟩,fun _=>h2⟩
 obtain⟨⟨hB,hb⟩,h2⟩:=key;refine c_t (jaa (by omega)) (c_t ?_ ?_)
 ·cases hcr:crZ (bz s)
  ·rfl
  ·have h2:=h2 hcr;rw[w64 (n:=(s.size:Int)-2) (by omega)];simp;omega
 generalize bo76 s=b at*;have n1:=jio (bz b) 84;have n2:=jio (bz b) 73;have n3:=jio (bz b) 82;rw[jap]at n1 n2 n3;unfold k76;delta ar az cm du cu j6 d8 dx;simp only[jaa (show b.size≤9223372036854775807 by omega),Bool.or_true,cond_true,jdh,←hB];have hx:(bif crZ (bz s)then(1:Int)else 0)=b2i (crZ (bz s)):=by cases crZ (bz s) <;>rfl
 have r:=fun q=>b2i_r (q:=q)
 have r0:=r (crZ (bz s));have r1:=r (hasZ (bz b) 83);have r2:=r (hasZ (bz b) 43);have r3:=r (hasZ (bz b) 45);rw[hx,sg_v (x:=b2i (crZ (bz s))) (by omega),sg_v (x:=b2i (crZ (bz s))+b2i (hasZ (bz b) 83)) (by omega),sg_v (by omega),w3 (by omega) (by omega) (by omega) (by omega)]
def G5:Env:=(Env.nil.add 202 (sp2 s40)).add 242 (sp1 s96)
theorem ok_G5:jax Tryz.prog G5:=jak (jak jan ok40) ok96
def stIn(dr i:Int):J→J→Int→Bool→Bool→Bool×Bool
 | c::cs,m::ms,j,a,b=>bif m==100 || (m==99 || c==dr)then stIn dr i cs ms (j+1) (a || decide (j<i)) (b || decide (j>i))else stIn dr i cs ms (j+1) a b
 | _,_,_,a,b=>(a,b)
def stGo(dr:Int)(body ms:J):J→Int→Bool
 | [],_=>true
 | c::r,i=>(bif !hasZ [36,83,43,45] c || c==dr then true else !((stIn dr i body ms 0 false false).1&& (stIn dr i body ms 0 false false).2)) &&stGo dr body ms r (i+1)
def je7(body ms:J):Bool:=stGo (drZ body) body ms body 0
def V106_2:Y×Y×Bool×Int×Int×Bool×Bool×Int→E:=fun(s,ms,b,dr,i,a,bh,j)=> [S s,S ms,B b,C8 dr,I i,B a,B bh,I j]
def B106_2:Y×Y×Bool×Int×Int×Bool×Bool×Int→O:=fun _=> []
def S106_2:LSpec (Y×Y×Bool×Int×Int×Bool×Bool×Int) where
 live:=[0,1,4,5,6,7,8,9]
 mid:=[]
 n:=200
 dec vs bs:=match vs,bs with | [.string s,.string ms,.bool b,.int .u8 dr,.int .i64 i,.bool a,.bool bh,.int .i64 j],[]=>some (s,ms,b,dr,i,a,bh,j) | _,_=>none
 pre:=fun(s,ms,b,dr,i,a,bh,j)=>decide (0≤j∧j≤s.size∧s.size=ms.size∧s.size≤1000)
 fin:=fun(s,ms,b,dr,i,a,bh,j) Z=>Z (.exit 2) [S s,S ms,B b,C8 dr,I i,B (stIn dr i ((bz s).drop j.toNat) ((bz ms).drop j.toNat) j a bh).1,B (stIn dr i ((bz s).drop j.toNat) ((bz ms).drop j.toNat) j a bh).2,I s.size] []
theorem r106_2(s:Y)(ms:Y)(b:Bool)(dr:Int)(i:Int)(a:Bool)(bh:Bool)(j:Int)(jk:Tmps)(R:Exit→E→O→Prop):(jbv Tryz.prog G5 noL Tryz.f241.ntmps (ja9 Tryz.f241 2) (tl S106_2.live (V106_2 (s,ms,b,dr,i,a,bh,j)) jk) (ml S106_2.mid (B106_2 (s,ms,b,dr,i,a,bh,j))) S106_2.n fun e t' m' _=>R e (List.map t' S106_2.live) (List.map m' S106_2.mid))=(ez (bp ms j&& (au ms j 100 || bp ms j&& (au ms j 99 || bp s j&&true))) R j (aq s) [] (S s::dq b ms [ak i,B a,B bh,ak j] (ao dr)) 2 (bif au ms j 100 || (au ms j 99 || au s j dr)then bif a || true then b9 (bh || true) R [] (S s::dq b ms [ak i,B (a || b7 j i),B (bh || dy j i),ay j] (ao dr))else False else R .normal (S s::dq b ms [ak i,B a,B bh,ay j] (ao dr)) [])):=by kernel_rfl
theorem l106_2:∀t m n K,S106_2.h t m n K→Ab.Sem Tryz.prog Tryz.f241.ntmps (.loop (ja9 Tryz.f241 2)) t m n K:=by
 refine jbl ok_G5 hmix (by kernel_rfl) (ja7 _) S106_2 V106_2 B106_2 (fun(s,ms,b,dr,i,a,bh,j)=>(s.size-j).toNat) ?_ ?_ ?_
 ·intro vs bs s h;simp only[S106_2]at h;split at h
  all_goals first | (cases h;exact⟨rfl,rfl⟩) | cases h
 ·exact fun _ _ _ h=>h
 ·intro⟨s,ms,b,dr,i,a,bh,j⟩ jk Z hp hf;rw[r106_2];delta cq b7 ez dq ao aw ay ak b9 dy au aq bp;simp only[S106_2]at hp hf;simp only[jae]at hp;apply cond_intro<;>intro h
  ·have h:=jab h;rw[jb7 hp.1 h,jb7 (s:=ms) hp.1 (by omega),stIn]at hf;have h1:decide (0≤j∧j<(ms.size:Int))=true:=jaa (by omega);have h2:decide (0≤j∧j<(s.size:Int))=true:=jaa (by omega);rw[w64 (n:=j+1) (by omega)];refine c_t (by rw[h1,h2];simp) (cond_intro (fun q=> ?_) (fun q=> ?_))
   ·rw[q,cond_true]at hf;exact c_t (by simp) (c_t (by simp) ⟨(s,ms,b,dr,i,_,_,j+1),rfl,rfl,by simp only[S106_2,jae];omega,by simp only;omega,hf⟩)
   ·rw[q,cond_false]at hf;exact⟨(s,ms,b,dr,i,a,bh,j+1),rfl,rfl,by simp only[S106_2,jae];omega,by simp only;omega,hf⟩
  ·have h:=jac h;rw[jcq (s:=s) (by omega)]at hf;obtain rfl:j=s.size:=by omega
   exact hf
theorem lk106:LOK Tryz.prog (oneL 2 S106_2.h) Tryz.f241.ntmps (ja9 Tryz.f241 0):=lok_one (by kernel_rfl) l106_2
def V106_0:Y×Y×Bool×Int×Int→E:=fun(s,ms,b,dr,i)=> [S s,S ms,B b,C8 dr,I i]
def B106_0:Y×Y×Bool×Int×Int→O:=fun _=> []
def S106_0:LSpec (Y×Y×Bool×Int×Int) where
 live:=[0,1,4,5,6]
 mid:=[]
 n:=100
 dec vs bs:=match vs,bs with | [.string s,.string ms,.bool b,.int .u8 dr,.int .i64 i],[]=>some (s,ms,b,dr,i) | _,_=>none
 pre:=fun(s,ms,b,dr,i)=>decide (0≤i∧i≤s.size∧s.size=ms.size∧s.size≤1000)
 fin:=fun(s,ms,b,dr,i) Z=>(bif stGo dr (bz s) (bz ms) ((bz s).drop i.toNat) i then Z (.exit 0) [S s,S ms,B b,C8 dr,I s.size] []else(∀i',Z .ret [S s,S ms,B false,C8 dr,I i'] []))
theorem r106_0(s:Y)(ms:Y)(b:Bool)(dr:Int)(i:Int)(jk:Tmps)(R:Exit→E→O→Prop):(jbv Tryz.prog G5 (oneL 2 S106_2.h) Tryz.f241.ntmps (ja9 Tryz.f241 0) (tl S106_0.live (V106_0 (s,ms,b,dr,i)) jk) (ml S106_0.mid (B106_0 (s,ms,b,dr,i))) S106_0.n fun e t' m' _=>R e (List.map t' S106_0.live) (List.map m' S106_0.mid))=(ez (bp s i&& (!ir s i [43,45] 36 83 || bp s i&&true)) R i (aq s) [] (S s::dq b ms [ak i] (ao dr)) 0 (bif !ir s i [43,45] 36 83 || au s i dr then R .normal (S s::dq b ms [ay i] (ao dr)) []else bif S106_2.pre (s,(ms,(b,(dr,(i,(false,(false,(0:Int))))))))then Tmps→az (stIn dr i (bq s 0) (bq ms 0) 0 false false).fst true ((stIn dr i (bq s 0) (bq ms 0) 0 false false).fst&& (stIn dr i (bq s 0) (bq ms 0) 0 false false).snd) (R .ret (S s::dq false ms [ak i] (ao dr)) []) (R .normal (S s::dq b ms [ay i] (ao dr)) [])else False)):=by kernel_rfl
theorem l106_0:∀t m n K,S106_0.h t m n K→Ab.Sem Tryz.prog Tryz.f241.ntmps (.loop (ja9 Tryz.f241 0)) t m n K:=by
 refine jbl ok_G5 hmix (by kernel_rfl) lk106 S106_0 V106_0 B106_0 (fun(s,ms,b,dr,i)=>(s.size-i).toNat) ?_ ?_ ?_
 ·intro vs bs s h;simp only[S106_0]at h;split at h
  all_goals first | (cases h;exact⟨rfl,rfl⟩) | cases h
 ·exact fun _ _ _ h=>h
 ·intro⟨s,ms,b,dr,i⟩ jk Z hp hf;rw[r106_0];delta cq b7 ez ar az dq ao aw ay ak bq au ir aq bp;simp only[S106_0]at hp hf;simp only[jae]at hp;apply cond_intro<;>intro h
  ·have h:=jab h;rw[jb7 hp.1 h,stGo]at hf;have h1:decide (0≤i∧i<(s.size:Int))=true:=jaa (by omega);have k:bz ⟨#[36,83,43,45]⟩=[36,83,43,45]:=rfl;rw[k];refine c_t (by rw[h1];simp) (cond_intro (fun q=> ?_) (fun q=>c_t ?_ (fun x=>c_t (by simp) ?_)))
   ·rw[q,cond_true,Bool.true_and]at hf;rw[w64 (by omega)];exact⟨(s,ms,b,dr,i+1),rfl,rfl,by simp only[S106_0,jae];omega,by simp only;omega,hf⟩
   ·simp only[S106_2,jae];omega
   ·rw[q,cond_false]at hf;rw[jdm,jdm];apply cond_intro<;>intro w
    ·rw[w]at hf;exact hf i
    ·rw[w,Bool.not_false,Bool.true_and]at hf;rw[w64 (by omega)];exact⟨(s,ms,b,dr,i+1),rfl,rfl,by simp only[S106_0,jae];omega,by simp only;omega,hf⟩
  ·have h:=jac h;rw[jcq (by omega)]at hf;obtain rfl:i=s.size:=by omega
   exact hf
theorem lok106:LOKf Tryz.prog (oneL 0 S106_0.h) Tryz.f241:=jbo (by kernel_rfl) l106_0
def s106(s:Y)(ms:Y):Bool×Value:=(decide (s.size=ms.size∧s.size≤1000),.bool (je7 (bz s) (bz ms)))
theorem fn106:Fn1 Tryz.prog 241 Tryz.f241:= .m Tryz.func241
theorem v106(s:Y)(ms:Y)(R:Value→Prop):ja1 Tryz.prog G5 (oneL 0 S106_0.h) Tryz.f241 [Enc.enc s,Enc.enc ms] (fun _=>none) 0 (fun v _ _=>R v)=(du (S106_0.pre (s,(ms,(false,(drZ (bz s),(0:Int)))))) s (bif stGo (drZ (bz s)) (bz s) (bz ms) (bq s 0) 0 then Tmps→R (B true)else fu (fk R)) False):=by kernel_rfl
theorem ok106:jao Tryz.prog 241 (sp2 s106):=by
 refine jct ok_G5 hmix fn106 lok106 jag fun s ms hc=> ?_
 rw[ja2,v106];delta ar cm du fu fk bq;have hc:(s.size=ms.size∧s.size≤1000):=jab hc;dsimp only[s106];refine c_t (jaa (by omega)) (c_t (by simp only[S106_0,jae];omega) ?_);rw[jdm];exact cond_intro (fun h _=>by simp only[je7,h]) (fun h _ _=>by simp only[je7,h])
theorem mk_len(dr:Int):∀(l:J)(b:Bool),(mkGo dr b l).length=l.length
 | [],_=>rfl
 | c::r,b=>by simp only[mkGo,List.length_cons,mk_len dr r]
theorem jeg(l:J):(jas l).length=l.length:=by
 unfold jas jal;cases h:crZ l with
 | false=>simp[mk_len]
 | true=>
  have:2≤l.length:=by
   simp only[crZ,jaf,jae]at h;exact h.1
  simp[mk_len];omega
theorem mk1_rng(dr:Int)(b:Bool)(c:Int):0≤mk1 dr b c∧mk1 dr b c<256:=by
 unfold mk1;cases hasZ [57,89,84,73,82] c<;>cases(hasZ [90,42] c || (dr !=0&& (c==dr&&b))) <;>cases(c==86) <;>cases(c==36) <;>cases hasZ [83,43,45] c<;>decide
theorem mk_isB(dr:Int):∀(l:J)(b:Bool),IsB (mkGo dr b l)
 | [],_=>IsB.nil
 | c::r,b=>IsB.cons (mk1_rng dr b c) (mk_isB dr r _)
theorem jfa(l:J):IsB (jas l):=by
 unfold jas;refine(mk_isB _ _ _).append ?_;split
 ·intro c hc;simp at hc;omega
 ·exact IsB.nil
def numV(s:J):Bool:= !jez s&& (!(jal s).any (hasZ [65,88,67,68]) && (decide ((cntZ (jal s) 86:Int)≤1) && (jcl (jal s) && (jdp (jal s) (jas (jal s)) && (decide (jdh s≤1) &&je7 (jal s) (jas (jal s)))))))
def G6:Env:=((((((((Env.nil.add 202 (sp2 s40)).add 199 (sp2 s75)).add 197 (sp1 s73)).add 238 (sp1 s101)).add 201 (sp1 s69)).add 239 (sp1 s104)).add 240 (sp2 s105)).add 200 (sp1 s76)).add 241 (sp2 s106)
theorem ok_G6:jax Tryz.prog G6:=jak (jak (jak (jak (jak (jak (jak (jak (jak jan ok40) ok75) ok73) ok101) ok69) ok104) ok105) ok76) ok106
def V74_0:Y×Bool×Y×Int→E:=fun(s,b,d,i)=> [S s,B b,S d,I i]
def B74_0:Y×Bool×Y×Int→O:=fun _=> []
def S74_0:LSpec (Y×Bool×Y×Int) where
 live:=[0,2,3,4]
 mid:=[]
 n:=80
 dec vs bs:=match vs,bs with | [.string s,.bool b,.string d,.int .i64 i],[]=>some (s,b,d,i) | _,_=>none
 pre:=fun(s,b,d,i)=>decide (0≤i∧i≤d.size∧d.size≤1000)
 fin:=fun(s,b,d,i) Z=>(bif ((bz d).drop i.toNat).any (hasZ [65,88,67,68])then(∀i',Z .ret [S s,B false,S d,I i'] [])else Z (.exit 0) [S s,B b,S d,I d.size] [])
theorem r74_0(s:Y)(b:Bool)(d:Y)(i:Int)(jk:Tmps)(R:Exit→E→O→Prop):(jbv Tryz.prog G6 noL Tryz.f198.ntmps (ja9 Tryz.f198 0) (tl S74_0.live (V74_0 (s,b,d,i)) jk) (ml S74_0.mid (B74_0 (s,b,d,i))) S74_0.n fun e t' m' _=>R e (List.map t' S74_0.live) (List.map m' S74_0.mid))=(mj (bp d i) (ir d i [67,68] 65 88) d s R i [ak i] [ay i] (B false) (S d) (B b) (S d) (S d)):=by kernel_rfl
theorem l74_0:LOKf Tryz.prog (oneL 0 S74_0.h) Tryz.f198:=by
 refine jbo (h:=S74_0.h) (by kernel_rfl) (jbl ok_G6 hmix (by kernel_rfl) (ja7 _) S74_0 V74_0 B74_0 (fun(s,b,d,i)=>(d.size-i).toNat) ?_ ?_ ?_)
 ·intro vs bs s h;simp only[S74_0]at h;split at h
  all_goals first | (cases h;exact⟨rfl,rfl⟩) | cases h
 ·exact fun _ _ _ h=>h
 ·intro⟨s,b,d,i⟩ jk Z hp hf;rw[r74_0];delta ko a7 aq mj aw ay ak ir bp;simp only[S74_0]at hp hf;simp only[jae]at hp;apply cond_intro<;>intro h
  ·have h:=jab h;rw[jb7 hp.1 h,List.any_cons]at hf;have k:bz ⟨#[65,88,67,68]⟩=[65,88,67,68]:=rfl;rw[k];refine c_t (jaa (by omega)) (cond_intro (fun q=> ?_) (fun q=> ?_))
   ·rw[q]at hf;exact hf i
   ·rw[q,Bool.false_or]at hf;rw[w64 (by omega)];exact⟨(s,b,d,i+1),rfl,rfl,by simp only[S74_0,jae];omega,by simp only;omega,hf⟩
  ·have h:=jac h;rw[jcq (by omega)]at hf;obtain rfl:i=d.size:=by omega
   exact hf
def s74(s:Y):Bool×Value:=(decide (s.size≤1000),.bool (numV (bz s)))
theorem fn74:Fn1 Tryz.prog 198 Tryz.f198:= .m Tryz.func198
def ft(a:Y):Bool:=decide (a.size≤1000)
def qv(a b:Y)(c:J)(d:Value→Prop):Prop:=bif Px.S74_0.pre (a,(false,(b,(0:Int))))then bif c.any (hasZ [65,88,67,68])then fu (fk d)else Tmps→j6 (ft b) (cm b&&bk (decide ((cntZ (bz b) 86:Int)≤1)) (ft b&& (bif jcl (bz b)then decide (b.size=(sz (jas (bz b))).size∧b.size≤1000) && (bif jdp (bz b) (bz (sz (jas (bz b))))then ft a&& (bif decide (jdh (bz a)≤1)then decide (b.size=(sz (jas (bz b))).size∧b.size≤1000) &&true else true)else true)else true)) true) (.bool (decide ((cntZ (bz b) 86:Int)≤1) && (jcl (bz b) && (jdp (bz b) (bz (sz (jas (bz b)))) && (decide (jdh (bz a)≤1) &&je7 (bz b) (bz (sz (jas (bz b))))))))) d else False
theorem v74(s:Y)(R:Value→Prop):ja1 Tryz.prog G6 (oneL 0 S74_0.h) Tryz.f198 [Enc.enc s] (fun _=>none) 0 (fun v _ _=>R v)=(du (jez (bz s)) s (fk R) (bif cm s then bif crZ (bz s)then bif ly s 2 then qv s (iw s) (ij (iw s)) R else False else qv s s (bq s 0) R else False)):=by kernel_rfl
theorem ok74:jao Tryz.prog 198 (sp1 s74):=by
 refine jb8 ok_G6 hmix fn74 l74_0 jag fun s hc=> ?_
 rw[ja2,v74];delta ar cm du cu j6 bk ft fu fk qv bq ij aq gk iw gz ly;have hc:(s.size≤1000):=jab hc;dsimp only[s74];have hm:∀b:Y,bz (sz (jas (bz b)))=jas (bz b)∧(sz (jas (bz b))).size=b.size:=fun b=>⟨jdd (jfa _),by rw[jcr,jeg,jap]⟩
 have d0:decide (s.size≤9223372036854775807)=true:=jaa (by omega);have e4:decide (s.size≤1000)=true:=jaa hc;rw[d0];refine c_t rfl (cond_intro (fun hch=>by simp only[numV,hch,Bool.not_true,Bool.false_and]) (fun hch=>c_t rfl (cond_intro (fun hcr=> ?_) (fun hcr=> ?_))))
 ·have h2:2≤s.size:=by
   simp only[crZ,jaf,jae,jap]at hcr;exact hcr.1
  have e:((s.size:Int)-2).toNat=s.size-2:=by omega
  rw[w64 (n:=(s.size:Int)-2) (by omega),e];have eb:bz (s.extract 0 (s.size-2))=(bz s).take (s.size-2):=by rw[jcb];simp
  have hbs:(s.extract 0 (s.size-2)).size=s.size-2:=by rw[←jap,eb,List.length_take,jap];omega
  have hB:jal (bz s)=bz (s.extract 0 (s.size-2)):=by simp[jal,hcr,eb]
  clear eb;generalize s.extract 0 (s.size-2)=b at*;have e1:decide (b.size≤1000)=true:=jaa (by omega);have e2:decide (b.size≤9223372036854775807)=true:=jaa (by omega);refine c_t (jaa (by omega)) (c_t (by simp only[S74_0,jae];omega) ?_);rw[jdm];refine cond_intro (fun ha _ _=> ?_) (fun ha _=> ?_)
  ·simp only[numV,hB,ha,Bool.not_true,Bool.false_and,Bool.and_false]
  ·simp only[(hm b).1,(hm b).2,e1,e2,e4,eq_self,true_and,Bool.true_and,cond_true,Bool.and_true];refine c_t (by simp) ?_;simp only[numV,hch,hB,ha,Bool.not_false,Bool.true_and]
 ·have hB:jal (bz s)=bz s:=by simp[jal,hcr]
  refine c_t (by simp only[S74_0,jae];omega) ?_;rw[jdm];refine cond_intro (fun ha _ _=> ?_) (fun ha _=> ?_)
  ·simp only[numV,hB,ha,Bool.not_true,Bool.false_and,Bool.and_false]
  ·simp only[(hm s).1,(hm s).2,e4,eq_self,true_and,Bool.true_and,cond_true,Bool.and_true];refine c_t (by simp) ?_;simp only[numV,hch,hB,ha,Bool.not_false,Bool.true_and]
def G7:Env:=((((((Env.nil.add 202 (sp2 s40)).add 199 (sp2 s75)).add 197 (sp1 s73)).add 201 (sp1 s69)).add 196 (sp1 s45)).add 200 (sp1 s76)).add 198 (sp1 s74)
theorem ok_G7:jax Tryz.prog G7:=jak (jak (jak (jak (jak (jak (jak jan ok40) ok75) ok73) ok69) ok45) ok76) ok74
def vOK(l:J):Bool:=exOK l&& (jez (exZ l) || numV (exZ l))
def pN(l:J):Bool:=exOK l&&numV (exZ l)
def pS(l:J):J:=if vOK l=true then exZ l else []
def pW(l:J):Int:=if vOK l=true then(if jez (exZ l)=true then((exZ l).length:Int)else(exZ l).length-cntZ (exZ l) 86)else 0
def isP(m:Int):Bool:=m==100 || m==99
def pdGo:J→Int
 | []=>0
 | m::r=>(bif isP m then 1 else 0)+pdGo r
def pqGo(s:J):J→Int→Int
 | [],_=>0
 | m::r,i=>(bif isP m&&hasZ (s.take i.toNat) 86 then 1 else 0)+pqGo s r (i+1)
def pD(l:J):Int:=if pN l=true then pdGo (jas (exZ l))else 0
def pQ(l:J):Int:=if pN l=true then pqGo (exZ l) (jas (exZ l)) 0 else 0
def pG(l:J):Bool:=pN l&&jdh (exZ l)==1
def pE(l:J):Int:=if vOK l=true then 0 else 30
def picV(l:J):Value:= .agg ⟨[.string (sz (pS l)),.bool (pN l),.int .i64 (pW l),.int .i64 (pD l),.int .i64 (pQ l),.bool (pG l)]⟩
def V30_0:Int×Y×Y×Y×Bool×Int×Int×Int×Bool×Y×Int×Int×Int×Bool×Bool×Int→E:=fun(e,s,ms,z,zb,z1,z2,z3,zg,p,w,d,q,n,g,i)=> [.pointer (some ⟨0,0,some 0⟩),I e,S s,.pointer (some ⟨26,0,some 0⟩),S ms,I i]
def B30_0:Int×Y×Y×Y×Bool×Int×Int×Int×Bool×Y×Int×Int×Int×Bool×Bool×Int→O:=fun(e,s,ms,z,zb,z1,z2,z3,zg,p,w,d,q,n,g,i)=> [some ⟨[S z,B zb,I z1,I z2,I z3,B zg],131,true⟩,some ⟨[S p,B n,I w,I d,I q,B g],131,true⟩]
def S30_0:LSpec (Int×Y×Y×Y×Bool×Int×Int×Int×Bool×Y×Int×Int×Int×Bool×Bool×Int) where
 live:=[2,3,4,6,7,8]
 mid:=[0,26]
 n:=120
 dec vs bs:=match vs,bs with | [.pointer (some ⟨0,0,some 0⟩),.int .i64 e,.string s,.pointer (some ⟨26,0,some 0⟩),.string ms,.int .i64 i],[some ⟨[.string z,.bool zb,.int .i64 z1,.int .i64 z2,.int .i64 z3,.bool zg],131,true⟩,some ⟨[.string p,.bool n,.int .i64 w,.int .i64 d,.int .i64 q,.bool g],131,true⟩]=>some (e,s,ms,z,zb,z1,z2,z3,zg,p,w,d,q,n,g,i) | _,_=>none
 pre:=fun(e,s,ms,z,zb,z1,z2,z3,zg,p,w,d,q,n,g,i)=>decide (0≤i∧i≤ms.size∧ms.size=s.size∧s.size≤1000∧0≤d∧d≤i∧0≤q∧q≤i)
 fin:=fun(e,s,ms,z,zb,z1,z2,z3,zg,p,w,d,q,n,g,i) Z=>Z (.exit 0) [.pointer (some ⟨0,0,some 0⟩),I e,S s,.pointer (some ⟨26,0,some 0⟩),S ms,I ms.size] [some ⟨[S z,B zb,I z1,I z2,I z3,B zg],131,true⟩,some ⟨[S p,B n,I w,I (d+pdGo ((bz ms).drop i.toNat)),I (q+pqGo (bz s) ((bz ms).drop i.toNat) i),B g],131,true⟩]
def go(b f:Bool)(a:Y)(c d e:Int):Option Blk:=some (.mk [.string a,.bool b,ak c,ak d,ak e,.bool f] 131 true)
def av(a:Nat):Value:= .pointer (dv a 0)
def o7(b c:Y)(a:Int)(d:Value):E:=av 0::ak a::ax b [.string c,d] (av 26)
def j1(a:Y)(b:Int):Y:=a.extract 0 b.toNat
theorem r30_0(e:Int)(s:Y)(ms:Y)(z:Y)(zb:Bool)(z1:Int)(z2:Int)(z3:Int)(zg:Bool)(p:Y)(w:Int)(d:Int)(q:Int)(n:Bool)(g:Bool)(i:Int)(jk:Tmps)(R:Exit→E→O→Prop):(jbv Tryz.prog G7 noL Tryz.f143.ntmps (ja9 Tryz.f143 0) (tl S30_0.live (V30_0 (e,s,ms,z,zb,z1,z2,z3,zg,p,w,d,q,n,g,i)) jk) (ml S30_0.mid (B30_0 (e,s,ms,z,zb,z1,z2,z3,zg,p,w,d,q,n,g,i))) S30_0.n fun e t' m' _=>R e (List.map t' S30_0.live) (List.map m' S30_0.mid))=(ez (bp ms i&& (au ms i 100 || bp ms i&&true)) R i (aq ms) [go zb zg z z1 z2 z3,go n g p w d q] (o7 s ms e (ak i)) 0 (bif au ms i 100 || au ms i 99 then bif gz 0 0 i i (aq s)then du (hasZ (bz (j1 s i)) 86) (j1 s i) (R .normal (o7 s ms e (ay i)) [go zb zg z z1 z2 z3,go n g p w (aw d) (aw q)]) (R .normal (o7 s ms e (ay i)) [go zb zg z z1 z2 z3,go n g p w (aw d) q])else False else R .normal (o7 s ms e (ay i)) [go zb zg z z1 z2 z3,go n g p w d q])):=by kernel_rfl
theorem l30_0:LOKf Tryz.prog (oneL 0 S30_0.h) Tryz.f143:=by
 refine jbo (h:=S30_0.h) (by kernel_rfl) (jbl ok_G7 hmix (by kernel_rfl) (ja7 _) S30_0 V30_0 B30_0 (fun(e,s,ms,z,zb,z1,z2,z3,zg,p,w,d,q,n,g,i)=>(ms.size-i).toNat) ?_ ?_ ?_)
 ·intro vs bs s h;simp only[S30_0]at h;split at h
  all_goals first | (cases h;exact⟨rfl,rfl⟩) | cases h
 ·exact fun _ _ _ h=>h
 ·intro⟨e,s,ms,z,zb,z1,z2,z3,zg,p,w,d,q,n,g,i⟩ jk Z hp hf;rw[r30_0];delta cq b7 ez ak go ax dv av o7 aw ay ar cm du j1 gz aq au bp;simp only[S30_0]at hp hf;simp only[jae]at hp;apply cond_intro<;>intro h
  ·have h:=jab h;rw[jb7 (s:=ms) hp.1 h,pdGo,pqGo]at hf;have h1:decide (0≤i∧i<(ms.size:Int))=true:=jaa (by omega);have ex:bz (s.extract 0 i.toNat)=(bz s).take i.toNat:=by rw[jcb];simp
   have exs:(s.extract 0 i.toNat).size≤1000:=by rw[←jap,ex,List.length_take,jap];omega
   refine c_t (by rw[h1];simp) (cond_intro (fun a=>c_t (jaa (by omega)) (c_t (jaa (by omega)) ?_)) (fun a=> ?_))
   ·have a':isP (jaj ms i.toNat)=true:=a;rw[a',cond_true,Bool.true_and]at hf;rw[ex,w64 (n:=d+1) (by omega),w64 (n:=i+1) (by omega)];apply cond_intro<;>intro b
    ·rw[b,cond_true,←Int.add_assoc,←Int.add_assoc]at hf;rw[w64 (n:=q+1) (by omega)];exact⟨(e,s,ms,z,zb,z1,z2,z3,zg,p,w,d+1,q+1,n,g,i+1),rfl,rfl,by simp only[S30_0,jae];omega,by simp only;omega,hf⟩
    ·rw[b,cond_false,Int.zero_add,←Int.add_assoc]at hf;exact⟨(e,s,ms,z,zb,z1,z2,z3,zg,p,w,d+1,q,n,g,i+1),rfl,rfl,by simp only[S30_0,jae];omega,by simp only;omega,hf⟩
   ·have a':isP (jaj ms i.toNat)=false:=a;rw[a',cond_false,Bool.false_and,cond_false,Int.zero_add,Int.zero_add]at hf;rw[w64 (by omega)];exact⟨(e,s,ms,z,zb,z1,z2,z3,zg,p,w,d,q,n,g,i+1),rfl,rfl,by simp only[S30_0,jae];omega,by simp only;omega,hf⟩
  ·have h:=jac h;rw[jcq (s:=ms) (by omega),pdGo,pqGo,Int.add_zero,Int.add_zero]at hf;obtain rfl:i=ms.size:=by omega
   exact hf
theorem up_rng{c:Int}(h:0≤c∧c<256):0≤upZ c∧upZ c<256:=by unfold upZ;split<;>omega
theorem jjx:∀(l:J)(st n:Int)(out:J),IsB l→IsB out→out.length≤32→IsB (xpGo l st n out).1∧(xpGo l st n out).1.length≤32
 | [],st,n,out,_,h2,h3=>⟨h2,h3⟩
 | c::r,st,n,out,h1,h2,h3=>by
  have hc:=h1 c (List.mem_cons_self ..);have hr:IsB r:=fun x hx=>h1 x (List.mem_cons_of_mem _ hx)
  have nil:IsB (([],false):J×Bool).1∧(([],false):J×Bool).1.length≤32:=⟨IsB.nil,Nat.zero_le _⟩
  rw[xpGo];by_cases e1:st=1
  ·rw[if_pos e1];split
   ·split
    ·exact jjx r _ _ out hr h2 h3
    ·exact nil
   ·split
    ·exact jjx r _ _ out hr h2 h3
    ·exact nil
  ·rw[if_neg e1];by_cases e2:c=41∨st=2∧c=40
   ·rw[if_pos e2];exact nil
   ·rw[if_neg e2];by_cases e3:c=40
    ·rw[if_pos e3];exact jjx r _ _ out hr h2 h3
    ·rw[if_neg e3];by_cases hq:hasZ kL (upZ c)=true∧(out.length:Int)+(if st=2 then n else 1)≤32
     ·rw[if_pos hq];refine jjx r _ _ _ hr (h2.append fun x hx=> ?_) ?_
      ·rw[List.eq_of_mem_replicate hx];exact up_rng hc
      ·rw[List.length_append];simp only[rep1,List.length_replicate];have:=hq.2;omega
     ·rw[if_neg hq];exact nil
theorem jh4(s:Y):IsB (exZ (bz s))∧(exZ (bz s)).length≤32:=by
 unfold exZ;split
 ·exact jjx _ _ _ _ (jd1 s) IsB.nil (Nat.zero_le _)
 ·exact⟨IsB.nil,Nat.zero_le _⟩
theorem jhj:sz []=⟨#[]⟩:=rfl
def s30(s:Y):Bool×Value:=(decide (s.size≤9223372036854775807),.tuple ⟨[picV (bz s),.int .i64 (pE (bz s))]⟩)
theorem fn30:Fn1 Tryz.prog 143 Tryz.f143:= .m Tryz.func143
def g9(a:Y):Y:=sz (exZ (bz a))
def ep(a:Y):Int:=(a.size:Int)
def li(a b:Int):E:=ak a::ak b::fv
theorem v30(s:Y)(R:Value→Prop):ja1 Tryz.prog G7 (oneL 0 S30_0.h) Tryz.f143 [Enc.enc s] (fun _=>none) 0 (fun v _ _=>R v)=(du (eE (bz s) !=0) s (R (al [.agg ⟨d9::B false::ak 0::li 0 0⟩,I (eE (bz s))])) (bif cm (g9 s)then bif jez (bz (g9 s))then R (al [.agg ⟨ax (g9 s) (I (ep (g9 s))::li 0 0) (B false)⟩,ak 0])else bif ft (g9 s)then bif !Px.numV (bz (g9 s))then R (al [.agg ⟨d9::B false::ak 0::li 0 0⟩,ak 30])else bif cm (g9 s)then bif ft (g9 s)then bif ft (g9 s)then jj (S30_0.pre ((0:Int),(g9 s,(sz (jas (bz (g9 s))),(a8,(false,((0:Int),((0:Int),((0:Int),(false,(g9 s,(b8 (ep (g9 s)) (cntZ (bz (g9 s)) 86:Int),((0:Int),((0:Int),(true,(jdh (bz (g9 s))==1,(0:Int))))))))))))))))) (al [.agg ⟨ax (g9 s) [I (b8 (ep (g9 s)) (cntZ (bz (g9 s)) 86:Int)),I (0+pdGo (ij (sz (jas (bz (g9 s)))))),I (0+pqGo (bz (g9 s)) (ij (sz (jas (bz (g9 s))))) 0),B (jdh (bz (g9 s))==1)] (B true)⟩,ak 0]) R else False else False else False else False else False)):=by kernel_rfl
theorem ok30:jao Tryz.prog 143 (sp1 s30):=by
 refine jb8 ok_G7 hmix fn30 l30_0 jag fun s hc=> ?_
 rw[ja2,v30];delta ar cm du jj al ak ax g9 ij b8 ep a8 ft fv li d9;have hc:(s.size≤9223372036854775807):=jab hc
 try dsimp only[s30]
 obtain⟨hb,hl⟩:=jh4 s;have hmB:=jfa (exZ (bz s));have hml:=jeg (exZ (bz s));have hcn:=jio (exZ (bz s)) 86;rw[jdd hb,jcr];refine c_t (jaa hc) (cond_intro (fun he=> ?_) (fun he=> ?_))
 ·have ho:exOK (bz s)=false:=by
   cases h:exOK (bz s)with
   | false=>rfl
   | true=>rw[eE,h]at he;cases he
  simp[picV,pS,pN,pW,pD,pQ,pG,pE,eE,vOK,ho,jhj]
 ·have ho:exOK (bz s)=true:=by
   cases h:exOK (bz s)with
   | true=>rfl
   | false=>rw[eE,h]at he;cases he
  refine c_t (jaa (by omega)) (cond_intro (fun hch=> ?_) (fun hch=>c_t (jaa (by omega)) (cond_intro (fun hn=> ?_) (fun hn=>c_t (jaa (by omega)) (c_t (jaa (by omega)) (c_t (jaa (by omega)) (c_t ?_ (fun x=> ?_))))))))
  ·simp[picV,pS,pN,pW,pD,pQ,pG,pE,vOK,ho,hch,numV]
  ·have hn:numV (exZ (bz s))=false:=by simpa using hn
   simp[picV,pS,pN,pW,pD,pQ,pG,pE,vOK,ho,hch,hn,jhj]
  ·have e1:(sz (jas (exZ (bz s)))).size=(exZ (bz s)).length:=by rw[jcr,hml]
   have e2:(sz (exZ (bz s))).size=(exZ (bz s)).length:=jcr _;simp only[S30_0,jae,e1];omega
  ·have hn:numV (exZ (bz s))=true:=by simpa using hn
   rw[jdd hmB,jdm,w64 (by omega)];simp[picV,pS,pN,pW,pD,pQ,pG,pE,vOK,ho,hch,hn]
structure Pic where
 s:Y
 n:Bool
 w:Int
 d:Int
 q:Int
 g:Bool
instance:Enc Pic where
 enc p:= .agg ⟨[.string p.s,.bool p.n,.int .i64 p.w,.int .i64 p.d,.int .i64 p.q,.bool p.g]⟩
 dec | .agg ⟨[.string a,.bool b,.int .i64 c,.int .i64 d,.int .i64 e,.bool f]⟩=>some ⟨a,b,c,d,e,f⟩ | _=>none
 dec_some:=by
  intro v a h;split at h
  ·cases h;rfl
  ·cases h
 plain_enc _:=rfl
def G8:Env:=((Env.nil.add 202 (sp2 s40)).add 262 (sp2 s85)).add 143 (sp1 s30)
theorem ok_G8:jax Tryz.prog G8:=jak (jak (jak jan ok40) ok85) ok30
def tyK(l:J):Int:=if vOK l=true then(if pN l=true then 1 else 3)else 0
def tyP(l:J):Int:=if vOK l=true then(if pN l=true then pD l else pW l)else 0
def tyV(l:J):Value:= .agg ⟨[.int .i64 (tyK l),.int .i64 (tyP l),.int .i64 (pQ l),.bool false,.string ⟨#[]⟩]⟩
def cuM(n q sc:Int):Int:=if q≥sc then(n.natAbs:Int)/tenZ (q-sc).toNat else n.natAbs*tenZ (sc-q).toNat
def cuV(n q sc d:Int):Int:=cuM n q sc%tenZ d.toNat
def cuN(n q sc d:Int)(g:Bool):Int:=if n<0∧g=true then 0-cuV n q sc d else cuV n q sc d
def cuF(n q sc d:Int)(g:Bool):Bool:=decide (cuM n q sc<tenZ d.toNat) && (decide (n≥0) || (g || cuV n q sc d==0))
def ssZ(c dr:Int)(m:Bool):Int:=bif dr !=0&&c==dr then 32 else bif hasZ [67,82,68,66] c then(bif m then c else 32)else sgZ c m
theorem jnd(l:J):(pE l !=0)= !vOK l:=by
 unfold pE;cases vOK l<;>rfl
theorem jc4{l:J}(h:pN l=true):vOK l=true:=by
 simp only[pN,jaf]at h;simp[vOK,h.1,h.2]
theorem pN_or(l:J):(!vOK l || !pN l)= !pN l:=by
 cases h:pN l with
 | false=>simp
 | true=>simp[jc4 h]
theorem jit{n:Nat}(h:n≤9):tenZ n≤1000000000:=by
 match n,h with
 | 0,_ | 1,_ | 2,_ | 3,_ | 4,_ | 5,_ | 6,_ | 7,_ | 8,_ | 9,_=>decide
theorem tenZ_add(a b:Nat):tenZ (a+b)=tenZ a*tenZ b:=Int.pow_add ..
theorem jik:∀(ms:J)(fm bh pt:Bool)(dg:Int),(ldGo ms fm bh pt dg).1=true→(ldGo ms fm bh pt dg).2.2.2=dg+pdGo ms
 | [],fm,bh,pt,dg,_=>by simp[ldGo,pdGo]
 | m::r,fm,bh,pt,dg,h=>by
  rw[ldGo]at h ⊢;rw[pdGo];cases h1:(m==118)with
  | true=>
   rw[h1,cond_true]at h;have hm:=eq_of_beq h1;subst hm;simp only[cond_true,isP];rw[jik r _ _ _ _ h];simp
  | false=>
   rw[h1,cond_false]at h;cases h2:(m==100)with
   | true=>
    rw[h2,cond_true]at h;simp only[cond_true,cond_false,isP,h2,Bool.true_or];rw[jik r _ _ _ _ h];omega
   | false=>
    rw[h2,cond_false]at h;cases h3:(m==99)with
    | true=>
     rw[h3,cond_true]at h;cases fm with
     | true=>cases h
     | false=>
      rw[cond_false]at h;simp only[cond_true,cond_false,isP,h2,h3,Bool.false_or];rw[jik r _ _ _ _ h];omega
    | false=>
     rw[h3,cond_false]at h;simp only[cond_false,isP,h2,h3,Bool.false_or];rw[jik r _ _ _ _ h];omega
theorem jl4:∀a b:J,pdGo (a++b)=pdGo a+pdGo b
 | [],b=>by simp[pdGo]
 | m::r,b=>by simp only[List.cons_append,pdGo,jl4 r b];omega
theorem pd_nn:∀a:J,0≤pdGo a
 | []=>by simp[pdGo]
 | m::r=>by have:=pd_nn r;simp only[pdGo];cases isP m<;>simp<;>omega
theorem pq_rng(s:J):∀(a:J)(i:Int),0≤pqGo s a i∧pqGo s a i≤pdGo a
 | [],i=>by simp[pqGo,pdGo]
 | m::r,i=>by
  have:=pq_rng s r (i+1);simp only[pqGo,pdGo];cases isP m<;>cases hasZ (s.take i.toNat) 86<;>simp<;>omega
theorem body_ncr{s:J}(h:(jal s).any (hasZ [65,88,67,68])=false):crZ (jal s)=false:=by
 cases hc:crZ (jal s)with
 | false=>rfl
 | true=>
  exfalso;simp only[crZ,jaf,Bool.or_eq_true,jae]at hc;have:∀c∈jal s,hasZ [65,88,67,68] c=false:=by simpa using h
  rcases hc.2 with h1 | h1
  ·have hm:(67:Int)∈(jal s).drop ((jal s).length-2):=by rw[h1];simp
   exact absurd (this _ (List.mem_of_mem_drop hm)) (by decide)
  ·have hm:(68:Int)∈(jal s).drop ((jal s).length-2):=by rw[h1];simp
   exact absurd (this _ (List.mem_of_mem_drop hm)) (by decide)
theorem jgq{s:J}(h:(jal s).any (hasZ [65,88,67,68])=false):jas (jal s)=mkGo (drZ (jal s)) false (jal s):=by
 have hc:=body_ncr h;have gen:∀l:J,crZ l=false→jal l=l:=fun l h=>by simp[jal,h]
 have hb:jal (jal s)=jal s:=gen _ hc;unfold jas;rw[hb,hc];simp
structure NumP (s:J):Prop where
 nch:jez s=false
 plain:(jal s).any (hasZ [65,88,67,68])=false
 one:(cntZ (jal s) 86:Int)≤1
 dr:jcl (jal s)=true
 ld:jdp (jal s) (mkGo (drZ (jal s)) false (jal s))=true
 sg:jdh s≤1
 st:je7 (jal s) (mkGo (drZ (jal s)) false (jal s))=true
theorem numV_iff{s:J}:numV s=true↔NumP s:=by
 constructor
 ·intro h;simp only[numV,jaf,Bool.not_eq_true',jae]at h;obtain⟨h1,h2,h3,h4,h5,h6,h7⟩:=h;rw[jgq h2]at h5 h7;exact⟨h1,h2,h3,h4,h5,h6,h7⟩
 ·rintro ⟨h1,h2,h3,h4,h5,h6,h7⟩;rw[←jgq h2]at h5 h7;simp only[numV,jaf,Bool.not_eq_true',jae];exact⟨h1,h2,h3,h4,h5,h6,h7⟩
theorem num_digits{s:J}(h:NumP s):1≤pdGo (jas s)∧pdGo (jas s)≤9:=by
 have hl:=h.ld
 have e:pdGo (jas s)=pdGo (mkGo (drZ (jal s)) false (jal s)):=by
  unfold jas;rw[jl4];split
  ·have:pdGo [115,115]=0:=by decide
   omega
  ·simp[pdGo]
 rw[e];unfold jdp at hl;cases h1:(hasZ (jal s) 90&&hasZ (jal s) 42)with
 | true=>rw[h1]at hl;cases hl
 | false=>
  rw[h1,cond_false]at hl;cases h2:((hasZ (jal s) 90 || hasZ (jal s) 42) &&drZ (jal s) !=0)with
  | true=>rw[h2]at hl;cases hl
  | false=>
   rw[h2,cond_false]at hl;simp only[jaf,jae]at hl;obtain⟨g1,g2,g3,_⟩:=hl;have:=jik _ _ _ _ _ g1;omega
theorem jfx{l:J}(h:pN l=true):NumP (exZ l):=by
 simp only[pN,jaf]at h;exact numV_iff.1 h.2
theorem jd5{l:J}(h:pN l=true):1≤pD l∧pD l≤9∧0≤pQ l∧pQ l≤pD l:=by
 have h1:=num_digits (jfx h);have h2:=pq_rng (exZ l) (jas (exZ l)) 0;simp only[pD,pQ,h,if_true];omega
theorem jdv(s:Y):IsB (pS (bz s))∧(pS (bz s)).length≤32:=by
 unfold pS;split
 ·exact jh4 s
 ·exact⟨IsB.nil,Nat.zero_le _⟩
def s48(s:Y):Bool×Value:=(decide (s.size≤9223372036854775807),.int .i64 (pE (bz s)))
theorem fn48:Fn1 Tryz.prog 69 Tryz.f69:= .m Tryz.func69
theorem v48(s:Y)(R:Value→Prop):ja1 Tryz.prog G8 noL Tryz.f69 [Enc.enc s] (fun _=>none) 0 (fun v _ _=>R v)=(bif decide (s.size≤9223372036854775807)then R (I (pE (bz s)))else False):=by kernel_rfl
theorem ok48:jao Tryz.prog 69 (sp1 s48):=by
 refine jb8 ok_G8 hmix fn48 jai jag fun s hc=> ?_
 rw[ja2,v48];have hc:(s.size≤9223372036854775807):=jab hc
 try dsimp only[s48]
 exact c_t (jaa hc) rfl
def s98(c:U8)(dr:U8)(m:Bool):Bool×Value:=(true,.int .u8 (ssZ c.n dr.n m))
theorem fn98:Fn1 Tryz.prog 261 Tryz.f261:= .m Tryz.func261
theorem v98(c:U8)(dr:U8)(m:Bool)(R:Value→Prop):ja1 Tryz.prog G8 noL Tryz.f261 [Enc.enc c,Enc.enc dr,Enc.enc m] (fun _=>none) 0 (fun v _ _=>R v)=(az (U8.n dr !=0) true (U8.n dr !=0&&U8.n c==U8.n dr) (R (ao 32)) (bif hasZ (bz ⟨#[67,82,68,66]⟩) (U8.n c)then f0 m (.int .u8 (U8.n c)) (ao 32) R else R (.int .u8 (sgZ (U8.n c) m)))):=by kernel_rfl
theorem ok98:jao Tryz.prog 261 (sp3 s98):=by
 refine jki ok_G8 hmix fn98 jai jag fun c dr m hc=> ?_
 rw[ja2,v98];delta ar az f0 ao
 try dsimp only[s98]
 refine c_t (by simp) (cond_intro (fun h=> ?_) (fun h=>cond_intro (fun h2=>cond_intro (fun h3=> ?_) (fun h3=> ?_)) (fun h2=> ?_)))
 ·simp only[ssZ,h,cond_true]
 ·have h2':hasZ [67,82,68,66] c.n=true:=h2;simp only[ssZ,h,h2',h3,cond_true,cond_false]
 ·have h2':hasZ [67,82,68,66] c.n=true:=h2;simp only[ssZ,h,h2',h3,cond_true,cond_false]
 ·have h2':hasZ [67,82,68,66] c.n=false:=h2;simp only[ssZ,h,h2',cond_false]
def G9:Env:=Env.nil.add 270 (sp1 s77)
theorem ok_G9:jax Tryz.prog G9:=jak jan ok77
def digZ:Int→Nat→J
 | _,0=> []
 | v,n+1=>digZ (v/10) n++ [48+v%10]
theorem isBytes_iff{l:E}:jcc l=true↔ ∀v∈l,∃n,v= .int .u8 n:=by
 induction l with
 | nil=>simp[jcc]
 | cons v r ih=>
  constructor
  ·intro h;unfold jcc at h;split at h
   ·rename_i heq;cases heq
   ·rename_i n r' heq;cases heq;intro u hu;rcases List.mem_cons.1 hu with rfl | hu
    ·exact⟨_,rfl⟩
    ·exact ih.1 h u hu
   ·cases h
  ·intro h;obtain⟨n,rfl⟩:=h v (List.mem_cons_self ..);exact ih.2 fun u hu=>h u (List.mem_cons_of_mem _ hu)
theorem RowP.set{c:E}{n cap:Nat}(h:RowP c n cap)(x:Int){i:Nat}(hi:i<n):
  RowP (setL c (0+i*1) [.int .u8 x]) n cap∧zc (setL c (0+i*1) [.int .u8 x]) n=(zc c n).set i x∧Nat.ble (0+i*1+1) c.length=true:=by
 have e:setL c (0+i*1) [.int .u8 x]=c.set i (.int .u8 x):=by simp[setL]
 have h1:=h.len;have h2:=h.le;rw[e];refine⟨⟨?_,?_,by simp[h1],h2,h.cap⟩,?_,Nat.ble_eq_true_of_le (by omega)⟩
 ·rw[List.take_set];refine isBytes_iff.2 fun v hv=> ?_
  rcases List.mem_or_eq_of_mem_set hv with hv | rfl
  ·exact isBytes_iff.1 h.bytes v hv
  ·exact⟨_,rfl⟩
 ·refine jbc.2 fun v hv=> ?_
  rcases List.mem_or_eq_of_mem_set hv with hv | rfl
  ·exact jbc.1 h.plain v hv
  ·rfl
 ·simp only[zc,List.take_set,List.map_set,iv]
theorem zrow_u8(k:Nat):zrow (.int .u8 0) k=cz (List.replicate k 0)++ []:=by
 simp only[zrow,Builtin.zeroCells,cz,Value.cells,List.append_nil,List.map_replicate];apply List.ext_getElem?;intro i;simp only[Array.toList_map,Array.toList_range,List.getElem?_map,List.getElem?_replicate];by_cases h:i<k
 ·simp[h,Nat.mod_one]
 ·simp[h]
theorem row_zero{k:Nat}(hk:k≤9223372036854775807):RowP (zrow (.int .u8 0) k) k k:=by
 have:=(jj0 (List.replicate k 0) (tail:=[]) (cap:=k) rfl (by simp) hk).1;rw[zrow_u8];simpa using this
theorem w8u(v:Int)(h:0≤v):IntKind.wrap .u8 (IntKind.wrap .u64 (48+v.tmod 10))=48+v%10:=by
 rw[Int.tmod_eq_emod_of_nonneg h,wu64 (by omega),w8 (by omega)]
theorem rep_isB(c:Int)(n:Nat)(h:0≤c∧c<256):IsB (rep1 c n):=fun x hx=>by rw[List.eq_of_mem_replicate hx];exact h
theorem jcm:∀(n:Nat)(v:Int),(digZ v n).length=n
 | 0,_=>rfl
 | n+1,v=>by simp[digZ,jcm n]
def V38_0:Int×E×Nat×Nat×Int→E:=fun(v,d,m,cap,i)=> [C64 v,.slice (some ⟨200,0,some 1⟩) m cap,I i]
def B38_0:Int×E×Nat×Nat×Int→O:=fun(v,d,m,cap,i)=> [some ⟨d,5,true⟩]
def S38_0:LSpecA (Int×E×Nat×Nat×Int) where
 live:=[5,6,7]
 mid:=[200]
 n:=210
 ap:=[(.tmp 6,200)]
 dec vs bs:=match vs,bs with | [.int .u64 v,.slice (some ⟨200,0,some 1⟩) m cap,.int .i64 i],[some ⟨d,5,true⟩]=>some (v,d,m,cap,i) | _,_=>none
 pre:=fun(v,d,m,cap,i)=>jci d m cap&&decide (-1≤i∧i<m∧m≤1000∧0≤v∧v≤9223372036854775808)
 fin:=fun(v,d,m,cap,i) Z=>∀d' v',jci d' m cap=true→zc d' m=digZ v (i+1).toNat++(zc d m).drop (i+1).toNat→Z (.exit 0) [.int .u64 v',.slice (some ⟨200,0,some 1⟩) m cap,I (-1)] [some ⟨d',5,true⟩]
def mn(c:Exit→E→O→Prop)(e f:Int)(d:IntKind)(b h:E)(a:Nat)(g:Value):Prop:=b9 (jav [(a,200)] b&&true&&true) c [ie [(a,200)] b] (.int d (d.wrap (e.tdiv f))::g::h)
theorem r38_0(v:Int)(d:E)(m:Nat)(cap:Nat)(i:Int)(jk:Tmps)(R:Exit→E→O→Prop):(jbv Tryz.prog G9 noL Tryz.f257.ntmps (ja9 Tryz.f257 0) (tl S38_0.live (V38_0 (v,d,m,cap,i)) jk) (ml S38_0.mid (B38_0 (v,d,m,cap,i))) S38_0.n fun e t' m' _=>S38_0.out R e t' m')=(d5 (decide (i≥0)) (cl i (m:Int)) (f9 d 200 200) (bif Nat.ble (dp i+1) d.length then mn R v 10 .u64 (setL d (dp i) [jz (dx (48+v.tmod 10) .u64)]) [I (b8 i 1)] 200 (a9 200 m cap)else False) False (R (.exit 0) [.int .u64 v,a9 200 m cap,ak i] (ic d))):=by kernel_rfl
theorem l38_0:LOKf Tryz.prog (oneL 0 S38_0.hA) Tryz.f257:=by
 refine jbo (h:=S38_0.hA) (by kernel_rfl) (jbr ok_G9 hmix (by kernel_rfl) (ja7 _) S38_0 V38_0 B38_0 (fun(v,d,m,cap,i)=>(i+1).toNat) ?_ ?_ ?_)
 ·intro vs bs s h;simp only[S38_0]at h;split at h
  all_goals first | (cases h;exact⟨rfl,rfl⟩) | cases h
 ·exact fun⟨v,d,m,cap,i⟩ hp=>by
   simp only[S38_0,jaf]at hp;simp[V38_0,B38_0,S38_0,ja0,jbz,idsL,ids,jaq (jat.1 hp.1).plain]
 ·intro⟨v,d,m,cap,i⟩ jk Z hp hf;rw[r38_0];delta cq ar d5 ie ic ak dv a9 b9 mn b8 jz dx dp f9 cl;simp only[S38_0]at hp hf;simp only[jaf,jae]at hp;obtain⟨hr,hp⟩:=hp;have hr:=jat.1 hr;have hz:=jba hr;apply cond_intro<;>intro h
  ·have h:=jab h;rw[w8u v hp.2.2.2.1];obtain⟨h1,h2,h3⟩:=hr.set (48+v%10) (i:=i.toNat) (by omega);have e3:setL d (0+i.toNat*1) [.int .u8 (48+v%10)]=d.set i.toNat (.int .u8 (48+v%10)):=by simp[setL]
   refine c_t (jaa (by omega)) (c_t h3 (c_t (by rw[h1.good];rfl) ?_));rw[h1.rlb,Int.tdiv_eq_ediv_of_nonneg (by omega),wu64 (n:=v/10) (by omega),w64 (by omega)];refine⟨(v/10,_,m,cap,i-1),rfl,rfl,by simp only[S38_0,jaf,jae];exact⟨jat.2 h1,by omega⟩,by simp only;omega,?_⟩;intro d' v' g1 g2;refine hf d' v' g1 ?_;have e1:(i+1).toNat=i.toNat+1:=by omega
   have e2:(i-1+1).toNat=i.toNat:=by omega
   rw[g2,h2,e1,e2,digZ,List.append_assoc];congr 1;rw[List.drop_set];have hd:(zc d m).drop i.toNat=(zc d m).getD i.toNat 0::(zc d m).drop (i.toNat+1):=jei _ _ (by omega);rw[if_neg (by omega),hd,Nat.sub_self];rfl
  ·have h:=jac h;refine c_t (by rw[hr.good];rfl) ?_;rw[hr.rlb];obtain rfl:i= -1:=by omega
   exact hf d v (jat.2 hr) (by simp[digZ])
def s38(n:Int)(k:Int):Bool×Value:=(decide (0≤k∧k≤1000∧ -9223372036854775808≤n∧n≤9223372036854775807),.string (sz (digZ n.natAbs k.toNat)))
theorem fn38:Fn1 Tryz.prog 257 Tryz.f257:= .m Tryz.func257
def jf(a:List (Prod Nat Nat))(b:E)(c:Nat):Bool:=jav a b&&true&&true&&gm (rlbL a b) c
def pu(c:Bool)(a:Int)(b:Nat)(d:Prop):Prop:=bif gx 0 a a&&jbx a.toNat 1 then bif jf [(b,200)] (zrow (ao 0) a.toNat) 210 then cq c d else False else False
def gv(a:Int)(b:List (Prod Nat Nat))(c:E)(d:Nat):J:=(zc (rlbL b c) d).drop a.toNat
def lj(a b:Int):J:=digZ (a.natAbs:Int) b.toNat
theorem v38(n:Int)(k:Int)(R:Value→Prop):ja1 Tryz.prog G9 (oneL 0 S38_0.hA) Tryz.f257 [Enc.enc n,Enc.enc k] (fun _=>none) 0 (fun v _ _=>R v)=(bif gx (-9223372036854775808) n 9223372036854775807 then pu (S38_0.toLSpec.pre ((n.natAbs:Int),(rlbL [(5,200)] (zrow (ao 0) k.toNat),(k.toNat,(k.toNat,b8 k 1))))) k 5 (∀a:E,Int→lx true (lj n (b8 k 1+1)) (gv (b8 k 1+1) [(5,200)] (zrow (ao 0) k.toNat) k.toNat) a a k.toNat k.toNat 210 R)else False):=by kernel_rfl
theorem ok38:jao Tryz.prog 257 (sp2 s38):=by
 refine jct ok_G9 hmix fn38 l38_0 jag fun n k hc=> ?_
 rw[ja2,v38];delta cq gm jf ao gx pu cu lx gv b8 lj;have hc:(0≤k∧k≤1000∧ -9223372036854775808≤n∧n≤9223372036854775807):=jab hc
 try dsimp only[s38]
 obtain⟨h1,h2,h3,h4⟩:=hc;have hr:=row_zero (k:=k.toNat) (by omega);refine c_t (jaa ⟨h3,h4⟩) (c_t (by simp[jbx];omega) (c_t ?_ ?_))
 ·rw[hr.good,hr.rlb,jbi hr.plain];rfl
 rw[hr.rlb,w64 (by omega)];refine c_t ?_ (fun d' v' g1 g2=> ?_)
 ·simp only[S38_0,jaf,jae];exact⟨jat.2 hr,by omega⟩
 have g1:=jat.1 g1;refine c_t (by rw[jbi g1.plain];rfl) (fun _=>c_t g1.str.1 ?_);have hz:=jba hr;rw[g1.str.2,g2,show(k-1+1).toNat=k.toNat by omega,List.drop_of_length_le (by omega),List.append_nil]
def G10:Env:=((Env.nil.add 202 (sp2 s40)).add 229 (sp2 s57)).add 201 (sp1 s69)
theorem ok_G10:jax Tryz.prog G10:=jak (jak (jak jan ok40) ok57) ok69
def jea:J→J→Int→Int
 | [],_,o=>o
 | m::r,ds,o=>bif (m==118 || m==100) || (m==99&&ds.headD 0 !=48)then o else jea r (bif m==99 then ds.tail else ds) (o+1)
def ldc:J→Nat
 | []=>0
 | m::r=>(bif m==99 then 1 else 0)+ldc r
def endZ(ms ds:J)(w:Int)(k:Nat):Int:=bif !hasZ ms 99 then 0 else bif !hasZ ms 100&&decide (ds=rep1 48 k)then w else jea ms ds 0
def V86_0:Int×Y×Bool×Int×Int×Int×Bool×Y×Y×Int×Int×Int→E:=fun(r,z,zb,z1,z2,z3,zg,s,ms,o,d,i)=> [I r,.pointer (some ⟨0,0,some 0⟩),S s,S ms,I o,I d,I i]
def B86_0:Int×Y×Bool×Int×Int×Int×Bool×Y×Y×Int×Int×Int→O:=fun(r,z,zb,z1,z2,z3,zg,s,ms,o,d,i)=> [some ⟨[S z,B zb,I z1,I z2,I z3,B zg],131,true⟩]
def S86_0:LSpec (Int×Y×Bool×Int×Int×Int×Bool×Y×Y×Int×Int×Int) where
 live:=[4,2,1,5,6,7,8]
 mid:=[0]
 n:=100
 dec vs bs:=match vs,bs with | [.int .i64 r,.pointer (some ⟨0,0,some 0⟩),.string s,.string ms,.int .i64 o,.int .i64 d,.int .i64 i],[some ⟨[.string z,.bool zb,.int .i64 z1,.int .i64 z2,.int .i64 z3,.bool zg],131,true⟩]=>some (r,z,zb,z1,z2,z3,zg,s,ms,o,d,i) | _,_=>none
 pre:=fun(r,z,zb,z1,z2,z3,zg,s,ms,o,d,i)=>decide (0≤i∧i≤ms.size∧ms.size≤1000∧0≤d∧o=i∧d+ldc ((bz ms).drop i.toNat)≤s.size∧s.size≤1000)
 fin:=fun(r,z,zb,z1,z2,z3,zg,s,ms,o,d,i) Z=>(∀o' d' i',Z .ret [I (jea ((bz ms).drop i.toNat) ((bz s).drop d.toNat) o),.pointer (some ⟨0,0,some 0⟩),S s,S ms,I o',I d',I i'] [some ⟨[S z,B zb,I z1,I z2,I z3,B zg],131,true⟩])∧(∀d',Z (.exit 0) [I r,.pointer (some ⟨0,0,some 0⟩),S s,S ms,I (jea ((bz ms).drop i.toNat) ((bz s).drop d.toNat) o),I d',I ms.size] [some ⟨[S z,B zb,I z1,I z2,I z3,B zg],131,true⟩])
def j2(a:Y)(d:E)(b c:Value):E:=av 0:: .string a::b::c::d
def k8(a:Y)(b:Int):Bool:=jaj a b.toNat !=48
theorem r86_0(r:Int)(z:Y)(zb:Bool)(z1:Int)(z2:Int)(z3:Int)(zg:Bool)(s:Y)(ms:Y)(o:Int)(d:Int)(i:Int)(jk:Tmps)(R:Exit→E→O→Prop):(jbv Tryz.prog G10 noL Tryz.f258.ntmps (ja9 Tryz.f258 0) (tl S86_0.live (V86_0 (r,z,zb,z1,z2,z3,zg,s,ms,o,d,i)) jk) (ml S86_0.mid (B86_0 (r,z,zb,z1,z2,z3,zg,s,ms,o,d,i))) S86_0.n fun e t' m' _=>R e (List.map t' S86_0.live) (List.map m' S86_0.mid))=(ez (bp ms i&& (au ms i 118 || bp ms i&& (au ms i 100 || j7 (au ms i 99) true ms s i d))) R i (aq ms) [go zb zg z z1 z2 z3] (ak r::j2 s (bw d i) (S ms) (ak o)) 0 (bif au ms i 118 || (au ms i 100 || au ms i 99&&k8 s d)then R .ret (ak o::j2 s (bw d i) (S ms) (ak o)) [go zb zg z z1 z2 z3]else ju (au ms i 99) ms i (R .normal (ak r::j2 s (j5 d i) (S ms) (ay o)) [go zb zg z z1 z2 z3]) (R .normal (ak r::j2 s (bv d i) (S ms) (ay o)) [go zb zg z z1 z2 z3]))):=by kernel_rfl
theorem l86_0:LOKf Tryz.prog (oneL 0 S86_0.h) Tryz.f258:=by
 refine jbo (h:=S86_0.h) (by kernel_rfl) (jbl ok_G10 hmix (by kernel_rfl) (ja7 _) S86_0 V86_0 B86_0 (fun(r,z,zb,z1,z2,z3,zg,s,ms,o,d,i)=>(ms.size-i).toNat) ?_ ?_ ?_)
 ·intro vs bs s h;simp only[S86_0]at h;split at h
  all_goals first | (cases h;exact⟨rfl,rfl⟩) | cases h
 ·exact fun _ _ _ h=>h
 ·intro⟨r,z,zb,z1,z2,z3,zg,s,ms,o,d,i⟩ jk Z hp hf;rw[r86_0];delta cq b7 ez ar aq bp ju ak go dv av j2 aw ay bv j5 au bw k8 bk j7;simp only[S86_0]at hp hf;simp only[jae]at hp;apply cond_intro<;>intro h
  ·have h:=jab h;have h1:decide (0≤i∧i<(ms.size:Int))=true:=jaa (by omega);rw[jb7 hp.1 h]at hf;have hq:=hp.2.2.2.2.2.1;rw[jb7 hp.1 h,ldc]at hq
   have hd:jaj ms i.toNat=99→d<s.size:=by
    intro e;rw[e]at hq;simp only[beq_self_eq_true,cond_true]at hq;omega
   have hc:(decide (0≤i∧i<(ms.size:Int)) && (jaj ms i.toNat==118 || decide (0≤i∧i<(ms.size:Int)) && (jaj ms i.toNat==100 || decide (0≤i∧i<(ms.size:Int)) &&bif jaj ms i.toNat==99 then decide (0≤d∧d<(s.size:Int)) &&true else true)))=true:=by
    rw[h1];cases e:(jaj ms i.toNat==99)with
    | true=>
     have:=hd (eq_of_beq e);rw[cond_true,jaa (show 0≤d∧d<(s.size:Int)by omega)];simp
    | false=>simp
   have hhd:jaj ms i.toNat=99→(bz s).drop d.toNat=jaj s d.toNat::(bz s).drop (d+1).toNat:=fun e=>jb7 hp.2.2.2.1 (hd e)
   have hb:(jaj ms i.toNat==99&&jaj s d.toNat !=48)=(jaj ms i.toNat==99&& ((bz s).drop d.toNat).headD 0 !=48):=by
    cases e:(jaj ms i.toNat==99)with
    | true=>rw[hhd (eq_of_beq e)];rfl
    | false=>rfl
   rw[jea,Bool.or_assoc]at hf;refine c_t hc ?_;rw[hb];refine cond_intro (fun a=> ?_) (fun a=>c_t h1 (cond_intro (fun b=> ?_) (fun b=> ?_)))
   ·rw[a,cond_true]at hf;exact hf.1 _ _ _
   ·rw[a,b,cond_false,cond_true,hhd (eq_of_beq b),List.tail_cons]at hf;rw[b,cond_true]at hq;have:=hd (eq_of_beq b);rw[w64 (n:=o+1) (by omega),w64 (n:=d+1) (by omega),w64 (by omega)];exact⟨(r,z,zb,z1,z2,z3,zg,s,ms,o+1,d+1,i+1),rfl,rfl,by simp only[S86_0,jae];omega,by simp only;omega,hf⟩
   ·rw[a,b,cond_false,cond_false]at hf;rw[b,cond_false]at hq;rw[w64 (n:=o+1) (by omega),w64 (by omega)];exact⟨(r,z,zb,z1,z2,z3,zg,s,ms,o+1,d,i+1),rfl,rfl,by simp only[S86_0,jae];omega,by simp only;omega,hf⟩
  ·have h:=jac h;rw[jcq (s:=ms) (by omega),jea]at hf;obtain rfl:i=ms.size:=by omega
   exact hf.2 _
def s86(p:Pic)(s:Y):Bool×Value:=(decide (p.s.size≤900∧s.size≤1000∧ldc (jas (bz p.s))≤s.size∧0≤p.d∧p.d≤1000),.int .i64 (endZ (jas (bz p.s)) (bz s) p.w p.d.toNat))
theorem fn86:Fn1 Tryz.prog 258 Tryz.f258:= .m Tryz.func258
def j9(a:Bool)(b c:Prop):Prop:=bif a then b∧c else False
def jd(a:Px.Pic):J:=bz (Pic.s a)
def jn(a:Px.Pic):Y:=sz (jas (jd a))
theorem v86(p:Pic)(s:Y)(R:Value→Prop):ja1 Tryz.prog G10 (oneL 0 S86_0.h) Tryz.f258 [Enc.enc p,Enc.enc s] (fun _=>none) 0 (fun v _ _=>R v)=(bif ft (Pic.s p)then du (!hasZ (bz (jn p)) 99) (jn p) (R (ak 0)) (i7 (cm (jn p)) (bk (!hasZ (bz (jn p)) 100) (gx 0 (Pic.d p) 1000&&true) true) (!hasZ (bz (jn p)) 100&&d4 s (sz (rep1 48 (Pic.d p).toNat))) (R (I (Pic.w p))) (j9 (S86_0.pre ((0:Int),(Pic.s p,(Pic.n p,(Pic.w p,(Pic.d p,(Pic.q p,(Pic.g p,(s,(jn p,((0:Int),((0:Int),(0:Int))))))))))))) (Int→Int→fu (R (I (jea (ij (jn p)) (bq s 0) 0)))) (fu (R (I (jea (ij (jn p)) (bq s 0) 0))))))else False):=by kernel_rfl
theorem ok86:jao Tryz.prog 258 (sp2 s86):=by
 refine jct ok_G10 hmix fn86 l86_0 jag fun p s hc=> ?_
 rw[ja2,v86];delta ar cm du i7 j9 fu bq ij jd jn d4 bk gx ak ft;have hc:(p.s.size≤900∧s.size≤1000∧ldc (jas (bz p.s))≤s.size∧0≤p.d∧p.d≤1000):=jab hc
 try dsimp only[s86]
 have hml:(sz (jas (bz p.s))).size=p.s.size:=by rw[jcr,jeg,jap]
 have hB:=jdd (jfa (bz p.s));have hr1:bz (sz (rep1 48 p.d.toNat))=rep1 48 p.d.toNat:=jdd (rep_isB 48 _ (by omega));rw[hB,jcd,hr1,hml];refine c_t (jaa (by omega)) (c_t (jaa (by omega)) (cond_intro (fun a=> ?_) (fun a=>c_t ?_ (cond_intro (fun b=> ?_) (fun b=>c_t ?_ ?_)))))
 ·simp only[endZ,a,cond_true]
 ·rw[jaa (show p.s.size≤9223372036854775807 by omega),jaa (show 0≤p.d∧p.d≤1000 by omega)];cases hasZ (jas (bz p.s)) 100<;>rfl
 ·simp only[endZ,a,b,cond_true,cond_false]
 ·simp only[S86_0,jae,hml,hB,Int.toNat_zero,List.drop_zero];exact⟨Int.le_refl _,by omega,by omega,Int.le_refl _,trivial,by omega,by omega⟩
 ·have e:endZ (jas (bz p.s)) (bz s) p.w p.d.toNat=jea (jas (bz p.s)) (bz s) 0:=by simp only[endZ,a,b,cond_false]
  rw[e,jdm];exact⟨fun _ _ _ _=>rfl,fun _ _=>rfl⟩
def G11:Env:=(((((((((Env.nil.add 202 (sp2 s40)).add 229 (sp2 s57)).add 259 (sp1 s58)).add 262 (sp2 s85)).add 260 (sp3 s97)).add 242 (sp1 s96)).add 201 (sp1 s69)).add 261 (sp3 s98)).add 257 (sp2 s38)).add 258 (sp2 s86)
theorem ok_G11:jax Tryz.prog G11:=jak (jak (jak (jak (jak (jak (jak (jak (jak (jak jan ok40) ok57) ok58) ok85) ok97) ok96) ok69) ok98) ok38) ok86
def fdGo(le fill dr:Int)(neg:Bool):J→J→J→Int→J
 | [],_,_,_=> []
 | m::r,sp,ds,o=>
  bif m==100 then fmZ (sp.headD 0) (ds.headD 0) neg::fdGo le fill dr neg r sp.tail ds.tail (o+1)
  else bif m==99 then(bif decide (o<le)then fill else ds.headD 0)::fdGo le fill dr neg r sp.tail ds.tail (o+1)
  else bif m==105 then(bif sp.headD 0==66 then 32 else bif decide (o<le)then fill else sp.headD 0)::fdGo le fill dr neg r sp.tail ds (o+1)
  else bif m !=118 then ssZ (sp.headD 0) dr neg::fdGo le fill dr neg r sp.tail ds (o+1)
  else fdGo le fill dr neg r sp.tail ds o
def dgL(l:J):Bool:=l.all fun d=>decide (48≤d∧d≤57)
def fdFl(sp:J):Int:=if hasZ sp 42=true then 42 else 32
def fdLe(sp:J)(w:Int)(k:Nat)(n:Int):Int:=endZ (jas sp) (digZ n.natAbs k) w k
def fdBl(sp:J)(w:Int)(k:Nat)(n:Int):Bool:=decide (fdLe sp w k n>0) && (fdLe sp w k n==w&& (n==0&& !hasZ (jas sp) 100))
def fdDr(sp:J):Int:=bif !hasZ sp 90&& (!hasZ sp 42&&hasZ (jas sp) 99)then drZ sp else 0
def jej(sp:J)(w:Int)(k:Nat)(n:Int):J:=fdGo (fdLe sp w k n) (fdFl sp) (fdDr sp) (decide (n<0)) (jas sp) sp (digZ n.natAbs k) 0
def jdk(sp:J)(w:Int)(k:Nat)(n:Int):J:=
 bif fdBl sp w k n then rep1 (fdFl sp) w.toNat else bif fdDr sp !=0 then(jej sp w k n).set (fdLe sp w k n-1).toNat (sgZ (fdDr sp) (decide (n<0)))else jej sp w k n
def fdOK(sp:J)(w:Int)(k:Nat)(n:Int):Bool:=fdBl sp w k n || (fdDr sp==0 || decide (1≤fdLe sp w k n∧fdLe sp w k n≤(jej sp w k n).length))
theorem jdc:∀(n:Nat)(v:Int),dgL (digZ v n)=true
 | 0,_=>rfl
 | n+1,v=>by
  have:=jdc n (v/10);simp only[dgL]at this ⊢;simp only[digZ,List.all_append,this,List.all_cons,List.all_nil,Bool.and_true,Bool.true_and,jae];omega
theorem jg1{l:J}(h:dgL l=true):IsB l:=fun x hx=>by
 simp only[dgL,List.all_eq_true,jae]at h;have:=h x hx;omega
theorem ldc_le:∀l:J,(ldc l:Int)≤pdGo l
 | []=>by simp[ldc,pdGo]
 | m::r=>by
  have:=ldc_le r;simp only[ldc,pdGo,isP];cases m==100<;>cases m==99<;>simp<;>omega
theorem dg_at{s:Y}(h:dgL (bz s)=true){k:Int}(h0:0≤k)(h1:k<s.size):48≤jaj s k.toNat∧jaj s k.toNat≤57:=by
 have hm:jaj s k.toNat∈bz s:=by
  have:jaj s k.toNat∈(bz s).drop k.toNat:=by rw[jb7 h0 h1];exact List.mem_cons_self ..
  exact List.mem_of_mem_drop this
 simp only[dgL,List.all_eq_true,jae]at h;exact h _ hm
def V66_0:Int×Y×Bool×Int×Int×Int×Bool×Y×Int×Int×Y×Int×E×Nat×Nat×Int×Int→E:=fun(n,z,zb,z1,z2,z3,zg,s,le,fl,ms,dr,d,m,cap,k,i)=> [I n,.pointer (some ⟨0,0,some 0⟩),S s,I le,C8 fl,S ms,C8 dr,.slice (some ⟨200,0,some 1⟩) m cap,I k,I i]
def B66_0:Int×Y×Bool×Int×Int×Int×Bool×Y×Int×Int×Y×Int×E×Nat×Nat×Int×Int→O:=fun(n,z,zb,z1,z2,z3,zg,s,le,fl,ms,dr,d,m,cap,k,i)=> [some ⟨[S z,B zb,I z1,I z2,I z3,B zg],131,true⟩,some ⟨d,5,true⟩]
def S66_0:LSpecA (Int×Y×Bool×Int×Int×Int×Bool×Y×Int×Int×Y×Int×E×Nat×Nat×Int×Int) where
 live:=[1,2,5,6,7,8,9,10,11,12]
 mid:=[0,200]
 n:=260
 ap:=[(.tmp 10,200)]
 dec vs bs:=match vs,bs with | [.int .i64 n,.pointer (some ⟨0,0,some 0⟩),.string s,.int .i64 le,.int .u8 fl,.string ms,.int .u8 dr,.slice (some ⟨200,0,some 1⟩) m cap,.int .i64 k,.int .i64 i],[some ⟨[.string z,.bool zb,.int .i64 z1,.int .i64 z2,.int .i64 z3,.bool zg],131,true⟩,some ⟨d,5,true⟩]=>some (n,z,zb,z1,z2,z3,zg,s,le,fl,ms,dr,d,m,cap,k,i) | _,_=>none
 pre:=fun(n,z,zb,z1,z2,z3,zg,s,le,fl,ms,dr,d,m,cap,k,i)=>jci d m cap&& (dgL (bz s) &&decide (0≤i∧i≤ms.size∧ms.size≤1000∧ms.size=z.size∧0≤k∧k+pdGo ((bz ms).drop i.toNat)≤s.size∧s.size≤1000∧m≤i))
 fin:=fun(n,z,zb,z1,z2,z3,zg,s,le,fl,ms,dr,d,m,cap,k,i) Z=>∀d' m' cap' k',jci d' m' cap'=true→zc d' m'=zc d m++fdGo le fl dr (decide (n<0)) ((bz ms).drop i.toNat) ((bz z).drop i.toNat) ((bz s).drop k.toNat) m→Z (.exit 0) [I n,.pointer (some ⟨0,0,some 0⟩),S s,I le,.int .u8 fl,S ms,.int .u8 dr,.slice (some ⟨200,0,some 1⟩) m' cap',I k',I ms.size] [some ⟨[S z,B zb,I z1,I z2,I z3,B zg],131,true⟩,some ⟨d',5,true⟩]
def fp(d e:Int)(a b c:Nat):E:=a9 a b c::bw d e
def mo(a:E)(b c:Nat)(d:Prop):Prop:=bif gn a b c 1 then d else False
def cw(a:E)(b c:Nat):Prop:=jay a b c 1=true
def mp(h i:Bool)(j:Y)(g:Exit→E→O→Prop)(d k l m:Int)(e n:E)(a c f:Nat):Prop:=∀b:E,cw b a (c+1)→b9 (nh d e b f 200 c&&true) g (go h i j k l m::mb d e b f 200 c) n
def o8(b e:Y)(a c d f i j:Int)(g h:Nat):E:=ak a::j2 b (.string e::ao f::a9 200 (g+1) h::bv i j) (ak c) (ao d)
def px(b e:Y)(a c d f i j:Int)(g h:Nat):E:=ak a::j2 b (.string e::ao f::a9 200 (g+1) h::j5 i j) (ak c) (ao d)
theorem r66_0(n:Int)(z:Y)(zb:Bool)(z1:Int)(z2:Int)(z3:Int)(zg:Bool)(s:Y)(le:Int)(fl:Int)(ms:Y)(dr:Int)(d:E)(m:Nat)(cap:Nat)(k:Int)(i:Int)(jk:Tmps)(R:Exit→E→O→Prop):(jbv Tryz.prog G11 noL Tryz.f210.ntmps (ja9 Tryz.f210 0) (tl S66_0.live (V66_0 (n,z,zb,z1,z2,z3,zg,s,le,fl,ms,dr,d,m,cap,k,i)) jk) (ml S66_0.mid (B66_0 (n,z,zb,z1,z2,z3,zg,s,le,fl,ms,dr,d,m,cap,k,i))) S66_0.n fun e t' m' _=>S66_0.out R e t' m')=(d5 (a7 i (aq ms)) (bp z i) (f9 d 200 200) (ju (au ms i 100) ms i (bif bp s k then bif gx 48 (bu s k) 57 then mo d cap m (∀a:Nat,mp zb zg z R (fmZ (bu z i) (bu s k) (a7 n 0)) z1 z2 z3 d (px s ms n le fl dr k i m a) a m 287)else False else False) (bif bp ms i then bif au ms i 99 then bif a7 (natO m) le then mo d cap m (∀a:Nat,mp zb zg z R fl z1 z2 z3 d (px s ms n le fl dr k i m a) a m 286)else bif bp s k then mo d cap m (∀a:Nat,mp zb zg z R (bu s k) z1 z2 z3 d (px s ms n le fl dr k i m a) a m 288)else False else bif bp ms i then bif au ms i 105 then bif au z i 66 then mo d cap m (∀a:Nat,mp zb zg z R 32 z1 z2 z3 d (o8 s ms n le fl dr k i m a) a m 290)else bif a7 (natO m) le then mo d cap m (∀a:Nat,mp zb zg z R fl z1 z2 z3 d (o8 s ms n le fl dr k i m a) a m 292)else mo d cap m (∀a:Nat,mp zb zg z R (bu z i) z1 z2 z3 d (o8 s ms n le fl dr k i m a) a m 292)else bif bp ms i then bif bu ms i !=118 then mo d cap m (∀a:Nat,mp zb zg z R (ssZ (bu z i) dr (a7 n 0)) z1 z2 z3 d (o8 s ms n le fl dr k i m a) a m 297)else b9 (f9 d 200 200) R (go zb zg z z1 z2 z3::ic d) (ak n::j2 s (ax ms (a9 200 m cap::bv k i) (ao dr)) (ak le) (ao fl))else False else False else False)) False (R (.exit 0) (ak n::j2 s (ax ms (fp k i 200 m cap) (ao dr)) (ak le) (ao fl)) (go zb zg z z1 z2 z3::ic d))):=by kernel_rfl
theorem l66_0:LOKf Tryz.prog (oneL 0 S66_0.hA) Tryz.f210:=by
 refine jbo (h:=S66_0.hA) (by kernel_rfl) (jbr ok_G11 hmix (by kernel_rfl) (ja7 _) S66_0 V66_0 B66_0 (fun(n,z,zb,z1,z2,z3,zg,s,le,fl,ms,dr,d,m,cap,k,i)=>(ms.size-i).toNat) ?_ ?_ ?_)
 ·intro vs bs s h;simp only[S66_0]at h;split at h
  all_goals first | (cases h;exact⟨rfl,rfl⟩) | cases h
 ·exact fun⟨n,z,zb,z1,z2,z3,zg,s,le,fl,ms,dr,d,m,cap,k,i⟩ hp=>by
   simp only[S66_0,jaf]at hp;simp[V66_0,B66_0,S66_0,ja0,jbz,idsL,ids,jaq (jat.1 hp.1).plain]
 ·intro⟨n,z,zb,z1,z2,z3,zg,s,le,fl,ms,dr,d,m,cap,k,i⟩ jk Z hp hf;rw[r66_0];delta cq ar d5 ie ic ak go dv av j2 ao ax bw a9 fp aq bp ju b9 aw ay bv f9 iq gn mo gq mb nh cw mp o8 a7 bu au j5 px gx;simp only[S66_0]at hp hf;simp only[jaf,jae]at hp;rw[jb6];obtain⟨hr,hdg,hp⟩:=hp;have hr:=jat.1 hr;apply cond_intro<;>intro h
  ·have h:=jab h;have hi0:=hp.1;have g1:decide (0≤i∧i<(ms.size:Int))=true:=jaa (by omega);have g2:decide (0≤i∧i<(z.size:Int))=true:=jaa (by omega);have hq:=hp.2.2.2.2.2.1;rw[jb7 hi0 h,pdGo]at hq;have nn:=pd_nn ((bz ms).drop (i+1).toNat);have hi1:i<(z.size:Int):=by omega
   have ek:(k+1).toNat=k.toNat+1:=by omega
   have eF:fdGo le fl dr (decide (n<0)) ((bz ms).drop i.toNat) ((bz z).drop i.toNat) ((bz s).drop k.toNat) m=
     (bif jaj ms i.toNat==100 then fmZ (jaj z i.toNat) (((bz s).drop k.toNat).headD 0) (decide (n<0))::fdGo le fl dr (decide (n<0)) ((bz ms).drop (i+1).toNat) ((bz z).drop (i+1).toNat) ((bz s).drop (k+1).toNat) (m+1)
     else bif jaj ms i.toNat==99 then(bif decide ((m:Int)<le)then fl else((bz s).drop k.toNat).headD 0)::fdGo le fl dr (decide (n<0)) ((bz ms).drop (i+1).toNat) ((bz z).drop (i+1).toNat) ((bz s).drop (k+1).toNat) (m+1)
     else bif jaj ms i.toNat==105 then(bif jaj z i.toNat==66 then 32 else bif decide ((m:Int)<le)then fl else jaj z i.toNat)::fdGo le fl dr (decide (n<0)) ((bz ms).drop (i+1).toNat) ((bz z).drop (i+1).toNat) ((bz s).drop k.toNat) (m+1)
     else bif jaj ms i.toNat !=118 then ssZ (jaj z i.toNat) dr (decide (n<0))::fdGo le fl dr (decide (n<0)) ((bz ms).drop (i+1).toNat) ((bz z).drop (i+1).toNat) ((bz s).drop k.toNat) (m+1)
     else fdGo le fl dr (decide (n<0)) ((bz ms).drop (i+1).toNat) ((bz z).drop (i+1).toNat) ((bz s).drop k.toNat) m):=by
    rw[jb7 (s:=ms) hi0 h,jb7 (s:=z) hi0 hi1,fdGo,List.tail_drop,ek];rfl
   have fin:∀(cap':Nat)(d':E)(m1:Nat)(k':Int)(M:J),RowP d' m1 cap'→(m1:Int)≤i+1→zc d' m1=zc d m++M→0≤k'→k'+pdGo ((bz ms).drop (i+1).toNat)≤s.size→
     fdGo le fl dr (decide (n<0)) ((bz ms).drop i.toNat) ((bz z).drop i.toNat) ((bz s).drop k.toNat) m=M++fdGo le fl dr (decide (n<0)) ((bz ms).drop (i+1).toNat) ((bz z).drop (i+1).toNat) ((bz s).drop k'.toNat) m1→
     S66_0.step V66_0 B66_0 (fun(n,z,zb,z1,z2,z3,zg,s,le,fl,ms,dr,d,m,cap,k,i)=>(ms.size-i).toNat) (n,z,zb,z1,z2,z3,zg,s,le,fl,ms,dr,d,m,cap,k,i) Z Exit.normal
      [I n,.pointer (some ⟨0,0,some 0⟩),S s,I le,C8 fl,S ms,C8 dr,.slice (some ⟨200,0,some 1⟩) m1 cap',I k',I (IntKind.wrap .i64 (i+1))] [some ⟨[S z,B zb,I z1,I z2,I z3,B zg],131,true⟩,some ⟨d',5,true⟩]:=by
    intro cap' d' m1 k' M q1 q2 q3 q4 q5 q6;rw[w64 (n:=i+1) (by omega)];refine⟨(n,z,zb,z1,z2,z3,zg,s,le,fl,ms,dr,d',m1,cap',k',i+1),rfl,rfl,by simp only[S66_0,jaf,jae];exact⟨jat.2 q1,hdg,by omega⟩,by simp only;omega,?_⟩;intro d'' m'' cap'' k'' r1 r2;exact hf d'' m'' cap'' k'' r1 (by rw[r2,q3,q6,List.append_assoc])
   have hk:isP (jaj ms i.toNat)=true→k<s.size∧k+1+pdGo ((bz ms).drop (i+1).toNat)≤s.size:=by
    intro e;rw[e,cond_true]at hq;omega
   have hk0:k+pdGo ((bz ms).drop (i+1).toNat)≤s.size:=by
    revert hq;cases isP (jaj ms i.toNat) <;>simp only[cond_true,cond_false] <;>omega
   have hkd:k<s.size→(bz s).drop k.toNat=jaj s k.toNat::(bz s).drop (k+1).toNat:=fun e=>jb7 hp.2.2.2.2.1 e
   refine c_t g2 (c_t g1 (cond_intro (fun a=> ?_) (fun a=>c_t g1 (cond_intro (fun b=> ?_) (fun b=>c_t g1 (cond_intro (fun c=> ?_) (fun c=>c_t g1 (cond_intro (fun e=> ?_) (fun e=> ?_)))))))))
   ·obtain⟨k1,k2⟩:=hk (by simp[isP,a]);refine c_t (jaa (by omega)) (c_t (jaa (dg_at hdg (by omega) k1)) ?_);refine c_t (hr.ask (k:=1) (by omega)) (fun cap1 tail ht=> ?_);obtain⟨f1,f2⟩:=hr.app1 (fmZ (jaj z i.toNat) (jaj s k.toNat) (decide (n<0))) ht;refine c_t (by rw[f1.good];rfl) ?_;rw[f1.rlb];rw[w64 (n:=k+1) (by omega)];exact fin _ _ _ _ _ f1 (by omega) f2 (by omega) k2 (by rw[eF,a,cond_true,hkd k1];rfl)
   ·obtain⟨k1,k2⟩:=hk (by simp[isP,b]);refine cond_intro (fun c=> ?_) (fun c=>c_t (jaa (by omega)) ?_)
    ·refine c_t (hr.ask (k:=1) (by omega)) (fun cap1 tail ht=> ?_);obtain⟨f1,f2⟩:=hr.app1 (fl) ht;refine c_t (by rw[f1.good];rfl) ?_;rw[f1.rlb];rw[w64 (n:=k+1) (by omega)];exact fin _ _ _ _ _ f1 (by omega) f2 (by omega) k2 (by rw[eF,a,b,c,cond_true,cond_false];rfl)
    ·refine c_t (hr.ask (k:=1) (by omega)) (fun cap1 tail ht=> ?_);obtain⟨f1,f2⟩:=hr.app1 (jaj s k.toNat) ht;refine c_t (by rw[f1.good];rfl) ?_;rw[f1.rlb];rw[w64 (n:=k+1) (by omega)];exact fin _ _ _ _ _ f1 (by omega) f2 (by omega) k2 (by rw[eF,a,b,c,cond_true,cond_false,cond_false,hkd k1];rfl)
   ·refine cond_intro (fun e=> ?_) (fun e=>cond_intro (fun o=> ?_) (fun o=> ?_))
    ·refine c_t (hr.ask (k:=1) (by omega)) (fun cap1 tail ht=> ?_);obtain⟨f1,f2⟩:=hr.app1 (32) ht;refine c_t (by rw[f1.good];rfl) ?_;rw[f1.rlb];exact fin _ _ _ _ _ f1 (by omega) f2 (by omega) hk0 (by rw[eF,a,b,c,e];rfl)
    ·refine c_t (hr.ask (k:=1) (by omega)) (fun cap1 tail ht=> ?_);obtain⟨f1,f2⟩:=hr.app1 (fl) ht;refine c_t (by rw[f1.good];rfl) ?_;rw[f1.rlb];exact fin _ _ _ _ _ f1 (by omega) f2 (by omega) hk0 (by rw[eF,a,b,c,e,o];rfl)
    ·refine c_t (hr.ask (k:=1) (by omega)) (fun cap1 tail ht=> ?_);obtain⟨f1,f2⟩:=hr.app1 (jaj z i.toNat) ht;refine c_t (by rw[f1.good];rfl) ?_;rw[f1.rlb];exact fin _ _ _ _ _ f1 (by omega) f2 (by omega) hk0 (by rw[eF,a,b,c,e,o];rfl)
   ·refine c_t (hr.ask (k:=1) (by omega)) (fun cap1 tail ht=> ?_);obtain⟨f1,f2⟩:=hr.app1 (ssZ (jaj z i.toNat) dr (decide (n<0))) ht;refine c_t (by rw[f1.good];rfl) ?_;rw[f1.rlb];exact fin _ _ _ _ _ f1 (by omega) f2 (by omega) hk0 (by rw[eF,a,b,c,e];rfl)
   ·refine c_t (by rw[hr.good];rfl) ?_;rw[hr.rlb];exact fin _ _ _ _ [] hr (by omega) (by simp) (by omega) hk0 (by rw[eF,a,b,c,e];rfl)
  ·have h:=jac h;refine c_t (by rw[hr.good];rfl) ?_;rw[hr.rlb];obtain rfl:i=ms.size:=by omega
   exact hf d m cap k (jat.2 hr) (by rw[jcq (Int.le_refl _)];simp[fdGo])
def s66(p:Pic)(n:Int):Bool×Value:=(decide (p.s.size≤900∧0≤p.d∧p.d≤900∧pdGo (jas (bz p.s))≤p.d∧0≤p.w∧p.w≤900∧ -9223372036854775808≤n∧n≤9223372036854775807∧fdOK (bz p.s) p.w p.d.toNat n=true),.string (sz (jdk (bz p.s) p.w p.d.toNat n)))
theorem fn66:Fn1 Tryz.prog 210 Tryz.f210:= .m Tryz.func210
def k9(b:Int)(a:Px.Pic):Int:=endZ (jas (jd a)) (bz (sz (lj b (Pic.d a)))) (Pic.w a) (Pic.d a).toNat
def qw(a c:Int)(b:Px.Pic):Bool:=S66_0.toLSpec.pre (a,(Pic.s b,(Pic.n b,(Pic.w b,(Pic.d b,(Pic.q b,(Pic.g b,(sz (lj a (Pic.d b)),(k9 a b,(if hasZ (jd b) 42=true then(42:Int)else(32:Int),(jn b,(c,(([]:E),(0,(0,((0:Int),(0:Int)))))))))))))))))
def ll(a b c d e f:Int):Bool:=decide (a≤b∧b≤c∧d≤e∧e≤f)
theorem v66(p:Pic)(n:Int)(R:Value→Prop):ja1 Tryz.prog G11 (oneL 0 S66_0.hA) Tryz.f210 [Enc.enc p,Enc.enc n] (fun _=>none) 0 (fun v _ _=>R v)=(bif ll 0 (Pic.d p) 1000 (-9223372036854775808) n 9223372036854775807 then bif decide ((Pic.s p).size≤900∧(sz (lj n (Pic.d p))).size≤1000∧ldc (jas (jd p))≤(sz (lj n (Pic.d p))).size∧0≤Pic.d p∧Pic.d p≤1000)then du (ft (Pic.s p)) (Pic.s p) (gu (decide (k9 n p>0)) (bk (k9 n p==Pic.w p) (bif n==0 then cm (jn p) &&true else true) true) true (decide (k9 n p>0) && (k9 n p==Pic.w p&& (n==0&& !hasZ (bz (jn p)) 100))) (cu (gx 0 (Pic.w p) 1000) (S (sz (rep1 (if hasZ (jd p) 42=true then 42 else 32) (Pic.w p).toNat))) R) (i7 (cm (Pic.s p)) (bk (!hasZ (jd p) 90) (cm (Pic.s p) && (bif !hasZ (jd p) 42 then cm (jn p) &&true else true)) true) (!hasZ (jd p) 90&& (!hasZ (jd p) 42&&hasZ (bz (jn p)) 99)) (bif cm (Pic.s p)then bif qw n (drZ (jd p)) p then∀a:E,∀b:Nat,∀c:Nat,Int→jci a b c=true→zc a b=zc [] 0++fdGo (k9 n p) (if hasZ (jd p) 42=true then 42 else 32) (drZ (jd p)) (a7 n 0) (ij (jn p)) (ij (Pic.s p)) (ij (sz (lj n (Pic.d p)))) 0→ik a 260 (bif drZ (jd p) !=0 then bif cl (b8 (k9 n p) 1) (b:Int)then j6 (Nat.ble (dp (b8 (k9 n p) 1)+1) a.length) (jbf (setL a (dp (b8 (k9 n p) 1)) [.int .u8 (sgZ (drZ (jd p)) (a7 n 0))]) 0 b) (S (jbb (setL a (dp (b8 (k9 n p) 1)) [.int .u8 (sgZ (drZ (jd p)) (a7 n 0))]) 0 b)) R else False else cu (jbf a 0 b) (S (jbb a 0 b)) R)else False else False) (bif qw n 0 p then∀a:E,∀b:Nat,∀c:Nat,Int→lx true (zc [] 0) (fdGo (k9 n p) (if hasZ (jd p) 42=true then 42 else 32) 0 (a7 n 0) (ij (jn p)) (ij (Pic.s p)) (ij (sz (lj n (Pic.d p)))) 0) a a b c 260 R else False))) False else False else False):=by kernel_rfl
theorem ok66:jao Tryz.prog 210 (sp2 s66):=by
 refine jct ok_G11 hmix fn66 l66_0 jag fun p n hc=> ?_
 rw[ja2,v66];delta ar cm du gu i7 cu lx ij lj jd jn a7 k9 qw gm ik j6 dp b8 cl bk gx ft ll;have hc:(p.s.size≤900∧0≤p.d∧p.d≤900∧pdGo (jas (bz p.s))≤p.d∧0≤p.w∧p.w≤900∧ -9223372036854775808≤n∧n≤9223372036854775807∧fdOK (bz p.s) p.w p.d.toNat n=true):=jab hc
 try dsimp only[s66]
 obtain⟨h1,h2,h3,h4,h5,h6,h7,h8,hok⟩:=hc;have hml:(sz (jas (bz p.s))).size=p.s.size:=by rw[jcr,jeg,jap]
 have hB:=jdd (jfa (bz p.s));have hdg:=jdc p.d.toNat (n.natAbs:Int);have hds:bz (sz (digZ n.natAbs p.d.toNat))=digZ n.natAbs p.d.toNat:=jdd (jg1 hdg);have hdl:(sz (digZ n.natAbs p.d.toNat)).size=p.d.toNat:=by rw[jcr,jcm]
 have hld:=ldc_le (jas (bz p.s));have hz0:zc [] 0=[]:=rfl;rw[hB,hds];have dd:decide (p.s.size≤9223372036854775807)=true:=jaa (by omega);have dm:decide ((sz (jas (bz p.s))).size≤9223372036854775807)=true:=jaa (by omega)
 have pre:∀dr:Int,S66_0.pre (n,p.s,p.n,p.w,p.d,p.q,p.g,sz (digZ n.natAbs p.d.toNat),endZ (jas (bz p.s)) (digZ n.natAbs p.d.toNat) p.w p.d.toNat,(if hasZ (bz p.s) 42=true then 42 else 32),sz (jas (bz p.s)),dr,[],0,0,0,0)=true:=by
  intro dr;simp only[S66_0,jaf,jae,hds,hB,Int.toNat_zero,List.drop_zero];exact⟨rfl,hdg,Int.le_refl _,by omega,by omega,by omega,Int.le_refl _,by omega,by omega,by omega⟩
 refine c_t (jaa (by omega)) (c_t (jaa (by omega)) (c_t dd (c_t (jaa (by omega)) (c_t ?_ (cond_intro (fun a=> ?_) (fun a=> ?_))))))
 ·rw[dm];simp
 ·have a':fdBl (bz p.s) p.w p.d.toNat n=true:=a;refine c_t (jaa (by omega)) ?_;rw[jdk,a',cond_true];rfl
 have a':fdBl (bz p.s) p.w p.d.toNat n=false:=a
 have e1:jdk (bz p.s) p.w p.d.toNat n=bif fdDr (bz p.s) !=0 then(jej (bz p.s) p.w p.d.toNat n).set (fdLe (bz p.s) p.w p.d.toNat n-1).toNat (sgZ (fdDr (bz p.s)) (decide (n<0)))else jej (bz p.s) p.w p.d.toNat n:=by
  rw[jdk,a',cond_false]
 rw[e1];refine c_t (by rw[dd,dm];simp) (cond_intro (fun b=>c_t dd (c_t (pre _) (fun d' m' cap' k' g1 g2=> ?_))) (fun b=>c_t (pre _) (fun d' m' cap' k' g1 g2=> ?_)))
 ·have eD:fdDr (bz p.s)=drZ (bz p.s):=by rw[fdDr,b,cond_true]
  have g1:=jat.1 g1;have hzl:=jba g1
  have g2:zc d' m'=jej (bz p.s) p.w p.d.toNat n:=by
   rw[g2,jdm,jdm,jdm,jej,eD];rfl
  rw[eD];refine c_t (by rw[jbi g1.plain];rfl) (fun _=>cond_intro (fun c=> ?_) (fun c=> ?_))
  ·have hx:1≤fdLe (bz p.s) p.w p.d.toNat n∧fdLe (bz p.s) p.w p.d.toNat n≤(jej (bz p.s) p.w p.d.toNat n).length:=by
    have hc0:(drZ (bz p.s)==0)=false:=by simpa using c
    simpa only[fdOK,a',eD,hc0,Bool.false_or,jae]using hok
   rw[←g2,hzl]at hx;have hcp:=g1.cap;have hle:=g1.le;have ele:endZ (jas (bz p.s)) (digZ n.natAbs p.d.toNat) p.w p.d.toNat=fdLe (bz p.s) p.w p.d.toNat n:=rfl;rw[ele,w64 (by omega)];obtain⟨q1,q2,q3⟩:=g1.set (sgZ (drZ (bz p.s)) (decide (n<0))) (i:=(fdLe (bz p.s) p.w p.d.toNat n-1).toNat) (by omega);refine c_t (jaa (by omega)) (c_t q3 (c_t q1.str.1 ?_));rw[q1.str.2,q2,g2,c,cond_true]
  ·refine c_t g1.str.1 ?_;rw[g1.str.2,g2,c,cond_false]
 ·have eD:fdDr (bz p.s)=0:=by rw[fdDr,b,cond_false]
  have g1:=jat.1 g1
  have g2:zc d' m'=jej (bz p.s) p.w p.d.toNat n:=by
   rw[g2,jdm,jdm,jdm,jej,eD];rfl
  refine c_t (by rw[jbi g1.plain];rfl) (fun _=>c_t g1.str.1 ?_);rw[g1.str.2,g2,eD];rfl
theorem drGo_none(s:J):∀t:J,(∀c∈t,hasZ [36,83,43,45] c=false)→drGo s t=0
 | [],_=>rfl
 | c::r,h=>by
  have h1:=h c (List.mem_cons_self ..);rw[drGo,if_neg (by simp[h1])];exact drGo_none s r fun x hx=>h x (List.mem_cons_of_mem _ hx)
theorem jju(a b:J)(c:Int):cntZ (a++b) c=cntZ a c+cntZ b c:=by
 simp[cntZ]
theorem jjs{t:J}{c:Int}(h:c∉t):cntZ t c=0:=by
 simp only[cntZ,List.length_eq_zero_iff,List.filter_eq_nil_iff];intro x hx;simp;rintro rfl;exact h hx
theorem dr_app(b t:J)(ht:∀c∈t,hasZ [36,83,43,45] c=false):∀r,drGo (b++t) (r++t)=drGo b r
 | []=>by
  rw[List.nil_append,drGo_none _ _ ht];rfl
 | c::r=>by
  rw[List.cons_append,drGo,drGo,dr_app b t ht r];cases hc:hasZ [36,83,43,45] c with
  | false=>simp
  | true=>
   have:c∉t:=fun hx=>by rw[ht c hx]at hc;cases hc
   rw[jju,jjs this];simp
theorem je1(s:J):∃t,s=jal s++t∧(t=[]∧crZ s=false∨(t=[67,82]∨t=[68,66])∧crZ s=true):=by
 unfold jal;by_cases h:crZ s=true
 ·rw[if_pos h];refine⟨s.drop (s.length-2),(List.take_append_drop ..).symm,.inr ⟨?_,h⟩⟩;simp only[crZ,jaf,Bool.or_eq_true,jae]at h;exact h.2
 ·rw[if_neg h];exact⟨[],by simp,.inl ⟨rfl,by simpa using h⟩⟩
theorem dr_body(s:J):drZ s=drZ (jal s):=by
 obtain⟨t,h,ht⟩:=je1 s
 have:=dr_app (jal s) t (by
  intro c hc;rcases ht with⟨rfl,_⟩ | ⟨rfl | rfl,_⟩
  ·cases hc
  ·rcases List.mem_cons.1 hc with rfl | hc
   ·decide
   ·rcases List.mem_cons.1 hc with rfl | hc
    ·decide
    ·cases hc
  ·rcases List.mem_cons.1 hc with rfl | hc
   ·decide
   ·rcases List.mem_cons.1 hc with rfl | hc
    ·decide
    ·cases hc) (jal s)
 rw[←h]at this;exact this
theorem jh9(s:J):∀r:J,drGo s r=0∨(hasZ [36,83,43,45] (drGo s r)=true∧drGo s r∈r)
 | []=> .inl rfl
 | c::r=>by
  rw[drGo];split
  ·rename_i h;exact .inr ⟨h.1,List.mem_cons_self ..⟩
  ·rcases jh9 s r with h | ⟨h1,h2⟩
   ·exact .inl h
   ·exact .inr ⟨h1,List.mem_cons_of_mem _ h2⟩
theorem jgr:∀(r:J)(bh pt:Bool)(dg:Int),99∈r→(ldGo r true bh pt dg).1=false
 | m::r,bh,pt,dg,h=>by
  rw[ldGo];rcases List.mem_cons.1 h with rfl | h
  ·rfl
  ·cases m==118 with
   | true=>exact jgr r _ _ _ h
   | false=>
    cases m==100 with
    | true=>exact jgr r _ _ _ h
    | false=>
     cases m==99 with
     | true=>rfl
     | false=>exact jgr r _ _ _ h
theorem jkx(s:J)(dr:Int):∀(r:J)(i f l:Int),0<i→(f<0∨1≤f)→(df1 s dr r i f l).1=true→(dr∈r∨(1≤f∧1≤l))→1≤(df1 s dr r i f l).2.1∧1≤(df1 s dr r i f l).2.2
 | [],i,f,l,hi,hf,hk,h=>by
  rcases h with h | h
  ·cases h
  ·exact h
 | c::r,i,f,l,hi,hf,hk,h=>by
  rw[df1]at hk ⊢;cases hc:(c==dr)with
  | true=>
   rw[hc,cond_true]at hk;rw[cond_true];exact jkx s dr r _ _ _ (by omega) (by split<;>omega) hk (.inr ⟨by split<;>omega,by omega⟩)
  | false=>
   have hne:c≠dr:=by simpa using hc
   rw[hc,cond_false]at hk;rw[cond_false];cases h2:(hasZ [36,83,43,45] c&&decide (2≤cntZ s c))with
   | true=>rw[h2]at hk;cases hk
   | false=>
    rw[h2,cond_false]at hk;rw[cond_false];refine jkx s dr r _ _ _ (by omega) hf hk ?_;rcases h with h | h
    ·rcases List.mem_cons.1 h with h | h
     ·exact absurd h.symm hne
     ·exact .inl h
    ·exact .inr h
theorem drifts_head{c:Int}{r:J}(h:jcl (c::r)=true)(h0:drZ (c::r)≠0):c≠86:=by
 rintro rfl;simp only[jcl,Bool.or_eq_true,beq_iff_eq,jaf]at h;rcases h with h | ⟨h1,h2⟩
 ·exact h0 h
 have hd:=(jh9 (86::r) (86::r)).resolve_left h0;have hd:hasZ [36,83,43,45] (drZ (86::r))=true∧drZ (86::r)∈86::r:=hd;generalize hg:drZ (86::r)=dr at*
 have hne:((86:Int)==dr)=false:=by
  cases e:((86:Int)==dr)with
  | false=>rfl
  | true=>rw[←eq_of_beq e]at hd;exact absurd hd.1 (by decide)
 have hs:hasZ [36,83,43,45] 86=false:=by decide
 rw[df1,hne,cond_false,hs,Bool.false_and,cond_false]at h1 h2
 have hm:dr∈r:=by
  rcases List.mem_cons.1 hd.2 with rfl | h
  ·simp at hne
  ·exact h
 obtain⟨g1,g2⟩:=jkx (86::r) dr r (0+1) (-1) (-1) (by omega) (by omega) h1 (.inl hm);generalize (df1 (86::r) dr r (0+1) (-1) (-1)).2.2=l at*;generalize (df1 (86::r) dr r (0+1) (-1) (-1)).2.1=f at*;obtain⟨k,hk⟩:∃k,l.toNat=k+1:=⟨l.toNat-1,by omega⟩
 rw[hk,List.take_succ_cons,d2Go,jaa (show 0<f by omega)]at h2;simp at h2
def nv(l:J):Nat:=(l.filter (· !=118)).length
theorem jet(m:Int)(r:J):nv (m::r)=(if m=118 then 0 else 1)+nv r:=by
 unfold nv;by_cases h:m=118
 ·simp[h]
 ·simp[h];omega
theorem nv_app(a b:J):nv (a++b)=nv a+nv b:=by simp[nv]
theorem jlj:∀(ms ds:J)(o:Int),o≤jea ms ds o∧jea ms ds o≤o+nv ms
 | [],ds,o=>by simp[jea,nv]
 | m::r,ds,o=>by
  rw[jea,jet];cases h:((m==118 || m==100) || (m==99&&ds.headD 0 !=48))with
  | true=>rw[cond_true];split<;>omega
  | false=>
   rw[cond_false];have:=jlj r (bif m==99 then ds.tail else ds) (o+1);have hm:m≠118:=by rintro rfl;simp at h
   rw[if_neg hm];omega
theorem jg0(le fill dr:Int)(neg:Bool):∀(ms sp ds:J)(o:Int),(fdGo le fill dr neg ms sp ds o).length=nv ms
 | [],_,_,_=>rfl
 | m::r,sp,ds,o=>by
  rw[fdGo,jet];cases h1:(m==100)with
  | true=>
   have:=eq_of_beq h1;subst this;rw[cond_true,List.length_cons,jg0,if_neg (by decide)];omega
  | false=>
   cases h2:(m==99)with
   | true=>
    have:=eq_of_beq h2;subst this;rw[cond_false,cond_true,List.length_cons,jg0,if_neg (by decide)];omega
   | false=>
    cases h3:(m==105)with
    | true=>
     have:=eq_of_beq h3;subst this;rw[cond_false,cond_false,cond_true,List.length_cons,jg0,if_neg (by decide)];omega
    | false=>
     cases h4:(m !=118)with
     | true=>
      have h4:m≠118:=by simpa using h4
      rw[cond_false,cond_false,cond_false,cond_true,List.length_cons,jg0,if_neg h4];omega
     | false=>
      have h4:m=118:=by simpa using h4
      rw[cond_false,cond_false,cond_false,cond_false,jg0,if_pos h4];omega
theorem jld{dr:Int}(hd:dr=0∨hasZ [36,83,43,45] dr=true)(seen:Bool)(c:Int):mk1 dr seen c=118↔c=86:=by
 constructor
 ·intro h;unfold mk1 at h;cases h1:hasZ [57,89,84,73,82] c with
  | true=>rw[h1]at h;cases h
  | false=>
   rw[h1,cond_false]at h;cases h2:(hasZ [90,42] c || (dr !=0&& (c==dr&&seen)))with
   | true=>rw[h2]at h;cases h
   | false=>
    rw[h2,cond_false]at h;cases h3:(c==86)with
    | true=>exact eq_of_beq h3
    | false=>
     rw[h3,cond_false]at h;cases h4:(c==36) <;>cases h5:hasZ [83,43,45] c<;>rw[h4,h5]at h<;>exact absurd h (by decide)
 ·rintro rfl;unfold mk1;have h1:hasZ [57,89,84,73,82] 86=false:=by decide
  have h2:hasZ [90,42] 86=false:=by decide
  have h3:((86:Int)==dr)=false:=by
   cases e:((86:Int)==dr)with
   | false=>rfl
   | true=>
    rw[←eq_of_beq e]at hd;rcases hd with hd | hd
    ·cases hd
    ·exact absurd hd (by decide)
  rw[h1,h2,h3];simp
theorem mk_nv{dr:Int}(hd:dr=0∨hasZ [36,83,43,45] dr=true):∀(l:J)(seen:Bool),nv (mkGo dr seen l)+cntZ l 86=l.length
 | [],_=>rfl
 | c::r,seen=>by
  have:=mk_nv hd r (seen || (dr !=0&&c==dr));rw[mkGo,jet,List.length_cons]
  have hc:cntZ (c::r) 86=(if c=86 then 1 else 0)+cntZ r 86:=by
   unfold cntZ;by_cases h:c=86
   ·simp[h];omega
   ·simp[h]
  rw[hc];have hm:=jld hd seen c;by_cases h:c=86
  ·rw[if_pos h,if_pos (hm.2 h)];omega
  ·rw[if_neg h,if_neg fun e=>h (hm.1 e)];omega
theorem jg9(s:J):nv (jas s)+cntZ s 86=s.length:=by
 obtain⟨t,h,ht⟩:=je1 s;have h1:=mk_nv (dr:=drZ (jal s)) ((jh9 _ _).imp id And.left) (jal s) false;unfold jas;rw[nv_app]
 have e:cntZ s 86=cntZ (jal s) 86+cntZ t 86:=by
  conv=>lhs;rw[h]
  exact jju ..
 have el:s.length=(jal s).length+t.length:=by
  conv=>lhs;rw[h]
  simp
 rcases ht with⟨rfl,hc⟩ | ⟨rfl | rfl,hc⟩
 ·rw[if_neg (by simp[hc])];have:cntZ [] 86=0:=rfl;have:nv []=0:=rfl;simp only[List.length_nil]at el;omega
 ·rw[if_pos hc];have:cntZ [67,82] 86=0:=by decide
  have:nv [115,115]=2:=by decide
  simp only[List.length_cons,List.length_nil]at el;omega
 ·rw[if_pos hc];have:cntZ [68,66] 86=0:=by decide
  have:nv [115,115]=2:=by decide
  simp only[List.length_cons,List.length_nil]at el;omega
theorem field_ok{s:J}(h:NumP s)(k:Nat)(n:Int):fdOK s ((s.length:Int)-cntZ s 86) k n=true:=by
 have hnv:=jg9 s;have hw:(s.length:Int)-cntZ s 86=nv (jas s):=by omega
 rw[hw];unfold fdOK;cases hb:fdBl s (nv (jas s)) k n with
 | true=>rfl
 | false=>
  rw[Bool.false_or];cases h0:(fdDr s==0)with
  | true=>rfl
  | false=>
   rw[Bool.false_or,jae,jej,jg0];have h0:fdDr s≠0:=by simpa using h0
   unfold fdDr at h0;cases hq:(!hasZ s 90&& (!hasZ s 42&&hasZ (jas s) 99))with
   | false=>rw[hq]at h0;exact absurd rfl h0
   | true=>
    rw[hq,cond_true]at h0;simp only[jaf,Bool.not_eq_true']at hq;obtain⟨q1,q2,q3⟩:=hq;rw[dr_body]at h0;obtain⟨t,ht,ht2⟩:=je1 s;have htm:(if crZ s=true then([115,115]:J)else [])=[]∨(if crZ s=true then([115,115]:J)else [])=[115,115]:=by split<;>simp
    have hld:=h.ld;have hdr:=h.dr;have hms:jas s=mkGo (drZ (jal s)) false (jal s)++(if crZ s=true then [115,115]else []):=rfl;generalize (if crZ s=true then([115,115]:J)else [])=tm at*
    have h99:99∈mkGo (drZ (jal s)) false (jal s):=by
     have:=ja8.1 q3;rw[hms,List.mem_append]at this;rcases this with h | h
     ·exact h
     ·rcases htm with rfl | rfl
      ·cases h
      ·exact absurd h (by decide)
    have hz:∀c∈jal s,hasZ [90,42] c=false:=by
     intro c hc;have hcs:c∈s:=by rw[ht];exact List.mem_append_left _ hc
     cases e:hasZ [90,42] c with
     | false=>rfl
     | true=>
      have:=ja8.1 e;rcases List.mem_cons.1 this with rfl | this
      ·rw[ja8.2 hcs]at q1;cases q1
      ·rcases List.mem_cons.1 this with rfl | this
       ·rw[ja8.2 hcs]at q2;cases q2
       ·cases this
    cases hbs:jal s with
    | nil=>rw[hbs]at h0;exact absurd rfl h0
    | cons c r=>
     rw[hbs]at h0 hms h99 hz hld hdr;have hv:=drifts_head hdr h0;have hsg:=(jh9 (c::r) (c::r)).resolve_left h0;have hsg:hasZ [36,83,43,45] (drZ (c::r))=true:=hsg.1;generalize drZ (c::r)=dr at*;rw[mkGo]at h99 hms hld;have hcz:=hz c (List.mem_cons_self ..);have h118:mk1 dr false c≠118:=fun e=>hv ((jld (.inr hsg) false c).1 e)
     have hn99:mk1 dr false c≠99:=by
      unfold mk1;rw[hcz];cases hasZ [57,89,84,73,82] c with
      | true=>rw[cond_true];decide
      | false=>cases dr !=0<;>cases c==dr<;>cases c==86<;>cases c==36<;>cases hasZ [83,43,45] c<;>decide
     have h99r:99∈mkGo dr (false || (dr !=0&&c==dr)) r:=by
      rcases List.mem_cons.1 h99 with e | e
      ·exact absurd e.symm hn99
      ·exact e
     have hn100:mk1 dr false c≠100:=by
      intro e;rw[e]at hld;generalize mkGo dr (false || (dr !=0&&c==dr)) r=R at*
      have key:(ldGo (100::R) false false false 0).1=false:=by
       rw[ldGo];exact jgr R false false (0+1) h99r
      unfold jdp at hld;rw[key]at hld;simp at hld
     have hm0:∀ds:J,((mk1 dr false c==118 || mk1 dr false c==100) || (mk1 dr false c==99&&ds.headD 0 !=48))=false:=by
      intro ds;simp[h118,hn100,hn99]
     have hnv1:1≤nv (jas s):=by
      rw[hms,List.cons_append,jet,if_neg h118];omega
     unfold fdLe endZ;rw[q3,Bool.not_true,cond_false];cases(!hasZ (jas s) 100&&decide (digZ n.natAbs k=rep1 48 k))with
     | true=>rw[cond_true];omega
     | false=>
      rw[cond_false];have g1:=jlj (jas s) (digZ n.natAbs k) 0;refine⟨?_,by omega⟩;rw[hms,List.cons_append,jea,hm0,cond_false];have:=(jlj (mkGo dr (false || (dr !=0&&c==dr)) r++tm) (bif mk1 dr false c==99 then(digZ n.natAbs k).tail else digZ n.natAbs k) (0+1)).1;omega
theorem jht{l:J}(hl:IsB (pS l)∧(pS l).length≤32)(h:pN l=true)(n:Int):IsB (pS l)∧(pS l).length≤32∧pdGo (jas (pS l))=pD l∧0≤pW l∧pW l≤32∧fdOK (pS l) (pW l) (pD l).toNat n=true:=by
 have hv:=jc4 h;have hnp:=jfx h;have hS:pS l=exZ l:=by rw[pS,if_pos hv]
 have hW:pW l=(exZ l).length-cntZ (exZ l) 86:=by rw[pW,if_pos hv,hnp.nch];rfl
 have hD:pD l=pdGo (jas (exZ l)):=by rw[pD,if_pos h]
 obtain⟨g1,g2⟩:=hl;have hc:=jio (exZ l) 86;rw[hS]at g1 g2 ⊢;rw[hW];exact⟨g1,g2,hD.symm,by omega,by omega,field_ok hnp _ _⟩
def G12:Env:=(((Env.nil.add 209 (sp1 s29)).add 201 (sp1 s69)).add 143 (sp1 s30)).add 210 (sp2 s66)
theorem ok_G12:jax Tryz.prog G12:=jak (jak (jak (jak jan ok29) ok69) ok30) ok66
def edE(l:J)(q:Int):Int:=if pN l=true then(if 0≤q∧q≤9 then 0 else 1)else 30
def edS(l:J)(n q:Int):J:=if pN l=true∧0≤q∧q≤9 then jdk (pS l) (pW l) (pD l).toNat (cuN n q (pQ l) (pD l) (pG l))else []
def edF(l:J)(n q:Int):Bool:=if pN l=true∧0≤q∧q≤9 then cuF n q (pQ l) (pD l) (pG l)else false
def rdD(c:Int):Int:=bif unK c then unD c else bif decide (c≥48) &&decide (c≤57)then c-48 else 0
def rdGo:J→J→Int→Int
 | [],_,a=>a
 | m::r,s,a=>bif m==118 then rdGo r s a else rdGo r s.tail (bif m==100 || m==99 then a*10+rdD (s.headD 0)else a)
theorem jl2(c:Int):0≤rdD c∧rdD c≤9:=by
 unfold rdD;cases h:unK c with
 | true=>
  have e:unD c=idxZ punchedZ c%10:=by rw[unD,h,if_pos rfl]
  rw[cond_true,e];omega
 | false=>
  rw[cond_false];cases h1:decide (c≥48) <;>cases h2:decide (c≤57) <;>simp at h1 h2<;>simp<;>omega
theorem pu_rng(d:Int)(m:Bool):0≤puZ d m∧puZ d m<256:=by
 unfold puZ;split
 ·have:∀x∈punchedZ,0≤x∧x<256:=by decide
  rw[List.getD_eq_getElem?_getD];cases h:punchedZ[(if m=true then d+10 else d).toNat]? with
  | none=>simp
  | some x=>exact this x (List.mem_of_getElem? h)
 ·simp
theorem hd_isB{l:J}(h:IsB l):0≤l.headD 0∧l.headD 0<256:=by
 cases l with
 | nil=>simp
 | cons a r=>exact h a (List.mem_cons_self ..)
theorem jhi{l:J}(h:IsB l):IsB l.tail:=fun x hx=>h x (List.mem_of_mem_tail hx)
theorem jhf{a:Int}{l:J}(ha:0≤a∧a<256)(h:IsB l):IsB (a::l):=fun x hx=>by
 rcases List.mem_cons.1 hx with rfl | hx
 ·exact ha
 ·exact h x hx
theorem fm_rng{c d:Int}(m:Bool)(h:0≤d∧d<256):0≤fmZ c d m∧fmZ c d m<256:=by
 unfold fmZ;split
 ·omega
 ·split
  ·exact pu_rng _ _
  ·exact h
theorem sg_rng(c:Int)(m:Bool):0≤sgZ c m∧sgZ c m<256:=by
 unfold sgZ;split
 ·omega
 ·split
  ·split<;>omega
  ·split<;>omega
theorem ss_rng{c:Int}(dr:Int)(m:Bool)(h:0≤c∧c<256):0≤ssZ c dr m∧ssZ c dr m<256:=by
 unfold ssZ;have:=sg_rng c m;cases(dr !=0&&c==dr) <;>cases hasZ [67,82,68,66] c<;>cases m<;>simp<;>omega
theorem jim{le fill dr:Int}{neg:Bool}(hf:0≤fill∧fill<256):∀(ms sp ds:J)(o:Int),IsB sp→IsB ds→IsB (fdGo le fill dr neg ms sp ds o)
 | [],_,_,_,_,_=>IsB.nil
 | m::r,sp,ds,o,hs,hd=>by
  rw[fdGo];have h1:=hd_isB hs;have h2:=hd_isB hd;cases m==100 with
  | true=>exact jhf (fm_rng _ h2) (jim hf _ _ _ _ (jhi hs) (jhi hd))
  | false=>
   cases m==99 with
   | true=>exact jhf (by cases decide (o<le) <;>simp only[cond_true,cond_false] <;>omega) (jim hf _ _ _ _ (jhi hs) (jhi hd))
   | false=>
    cases m==105 with
    | true=>exact jhf (by cases sp.headD 0==66<;>cases decide (o<le) <;>simp only[cond_true,cond_false] <;>omega) (jim hf _ _ _ _ (jhi hs) hd)
    | false=>
     cases m !=118 with
     | true=>exact jhf (ss_rng _ _ h1) (jim hf _ _ _ _ (jhi hs) hd)
     | false=>exact jim hf _ _ _ _ (jhi hs) hd
theorem fl_rng(sp:J):0≤fdFl sp∧fdFl sp<256:=by unfold fdFl;split<;>omega
theorem jh3{sp:J}(h:IsB sp)(w:Int)(k:Nat)(n:Int):IsB (jdk sp w k n):=by
 have h1:IsB (jej sp w k n):=jim (fl_rng sp) _ _ _ _ h (jg1 (jdc _ _));unfold jdk;cases fdBl sp w k n with
 | true=>exact rep_isB _ _ (fl_rng sp)
 | false=>
  cases fdDr sp !=0 with
  | true=>
   intro x hx;rcases List.mem_or_eq_of_mem_set hx with hx | rfl
   ·exact h1 x hx
   ·exact sg_rng _ _
  | false=>exact h1
theorem jf8:∀(ms s:J)(a:Int)(k:Nat),0≤a→a<tenZ k→(k:Int)+pdGo ms≤9→0≤rdGo ms s a∧rdGo ms s a<1000000000
 | [],s,a,k,h0,h1,h2=>by
  have:=jit (n:=k) (by simp only[pdGo]at h2;omega);rw[rdGo];omega
 | m::r,s,a,k,h0,h1,h2=>by
  have nn:=pd_nn r;rw[pdGo]at h2;rw[rdGo];cases h:(m==118)with
  | true=>
   have q:isP 118=false:=by decide
   rw[eq_of_beq h,q,cond_false,Int.zero_add]at h2;exact jf8 r s a k h0 h1 h2
  | false=>
   rw[cond_false];cases hP:(m==100 || m==99)with
   | true=>
    have hP:isP m=true:=hP;rw[hP,cond_true]at h2;have rr:=jl2 (s.headD 0);have tp:tenZ (k+1)=tenZ k*10:=by rw[tenZ_add];rfl
    rw[cond_true];exact jf8 r _ _ (k+1) (by omega) (by omega) (by omega)
   | false=>
    have hP:isP m=false:=hP;rw[hP,cond_false,Int.zero_add]at h2;exact jf8 r _ a k h0 h1 h2
def rdA(l t:J):Int:=rdGo (jas (pS l)) t 0
def fdN(l:J)(n:Int):J:=jdk (pS l) (pW l) (pD l).toNat n
def rdV(l t:J):Int×Int:=if pN l=true then(if(t.length:Int)=pW l then(if fdN l (rdA l t)=t then(rdA l t,0)else if pG l=true∧rdA l t>0∧fdN l (0-rdA l t)=t then(0-rdA l t,0)else(0,31))else(0,31))else(0,30)
theorem jm1{l:J}(h:pN l=true):pW l=nv (jas (pS l)):=by
 have h1:=jg9 (pS l);have h2:pS l=exZ l:=by rw[pS,if_pos (jc4 h)]
 have hW:pW l=(exZ l).length-cntZ (exZ l) 86:=by rw[pW,if_pos (jc4 h),(jfx h).nch];rfl
 rw[h2]at h1 ⊢;rw[hW];omega
def onGo:J→J→Bool
 | _,[]=>true
 | [],_::_=>false
 | c::r,b::s=>oneZ c b&&onGo r s
def hoZ(l t:J):Bool:=if vOK l=true then(if pN l=true then decide ((rdV l t).2=0)else(decide ((t.length:Int)=pW l) &&onGo (pS l) t))else false
def zeS(l:J):J:=if vOK l=true then(if pN l=true then fdN l 0 else rep1 32 (pW l).toNat)else []
theorem pCh{l:J}(h:vOK l=true)(hn:pN l=false):pW l=(pS l).length:=by
 have hc:jez (exZ l)=true:=by
  simp only[vOK,jaf,Bool.or_eq_true]at h;simp only[pN]at hn;rcases h with⟨h1,h2 | h2⟩
  ·exact h2
  ·rw[h1,h2]at hn;cases hn
 rw[pW,pS,if_pos h,if_pos h,hc];rfl
theorem jj1{s:Y}:0≤pW (bz s)∧pW (bz s)≤32:=by
 have:=jh4 s;have hc:=jio (exZ (bz s)) 86;unfold pW;split
 ·split<;>omega
 ·omega
def V23_0:Y×Y×Bool×Int×Int×Int×Bool×Int×Y×Int×Int→E:=fun(s,z,zb,z1,z2,z3,zg,a,ms,o,i)=> [S s,.pointer (some ⟨7,0,some 0⟩),I a,S ms,I o,I i]
def B23_0:Y×Y×Bool×Int×Int×Int×Bool×Int×Y×Int×Int→O:=fun(s,z,zb,z1,z2,z3,zg,a,ms,o,i)=> [some ⟨[S z,B zb,I z1,I z2,I z3,B zg],131,true⟩]
def S23_0:LSpec (Y×Y×Bool×Int×Int×Int×Bool×Int×Y×Int×Int) where
 live:=[1,6,8,9,10,11]
 mid:=[7]
 n:=120
 dec vs bs:=match vs,bs with | [.string s,.pointer (some ⟨7,0,some 0⟩),.int .i64 a,.string ms,.int .i64 o,.int .i64 i],[some ⟨[.string z,.bool zb,.int .i64 z1,.int .i64 z2,.int .i64 z3,.bool zg],131,true⟩]=>some (s,z,zb,z1,z2,z3,zg,a,ms,o,i) | _,_=>none
 pre:=fun(s,z,zb,z1,z2,z3,zg,a,ms,o,i)=>decide (0≤i∧i≤ms.size∧ms.size≤1000∧0≤o∧o+nv ((bz ms).drop i.toNat)≤s.size∧s.size≤1000∧0≤a∧pdGo ((bz ms).drop i.toNat)≤9∧a<tenZ (9-pdGo ((bz ms).drop i.toNat)).toNat)
 fin:=fun(s,z,zb,z1,z2,z3,zg,a,ms,o,i) Z=>∀o',Z (.exit 0) [S s,.pointer (some ⟨7,0,some 0⟩),I (rdGo ((bz ms).drop i.toNat) ((bz s).drop o.toNat) a),S ms,I o',I ms.size] [some ⟨[S z,B zb,I z1,I z2,I z3,B zg],131,true⟩]
def jv(a:Int):Value:= .int .i64 (IntKind.i64.wrap a)
theorem r23_0(s:Y)(z:Y)(zb:Bool)(z1:Int)(z2:Int)(z3:Int)(zg:Bool)(a:Int)(ms:Y)(o:Int)(i:Int)(jk:Tmps)(R:Exit→E→O→Prop):(jbv Tryz.prog G12 noL Tryz.f149.ntmps (ja9 Tryz.f149 0) (tl S23_0.live (V23_0 (s,z,zb,z1,z2,z3,zg,a,ms,o,i)) jk) (ml S23_0.mid (B23_0 (s,z,zb,z1,z2,z3,zg,a,ms,o,i))) S23_0.n fun e t' m' _=>R e (List.map t' S23_0.live) (List.map m' S23_0.mid))=(ez (bp ms i) R i (aq ms) [go zb zg z z1 z2 z3] (ax s (ak a::S ms::bw o i) (av 7)) 0 (bif au ms i 118 then R .normal (ax s (ak a::S ms::bv o i) (av 7)) [go zb zg z z1 z2 z3]else i7 (bp ms i) (au ms i 100 || bp ms i&&true) (au ms i 100 || au ms i 99) (ju (unK (bu s o)) s o (R .normal (ax s (I (d8 (IntKind.i64.wrap (a*10)) (unD (bu s o)))::S ms::j5 o i) (av 7)) [go zb zg z z1 z2 z3]) (bif j7 (decide (bu s o≥48)) true s s o o then bif fq (bu s o) 48 57 then b9 (bp s o) R [go zb zg z z1 z2 z3] (ax s (I (j8 s a 10 o)::S ms::j5 o i) (av 7))else R .normal (ax s (jv (a*10)::S ms::j5 o i) (av 7)) [go zb zg z z1 z2 z3]else False)) (R .normal (ax s (ak a::S ms::j5 o i) (av 7)) [go zb zg z z1 z2 z3]))):=by kernel_rfl
theorem l23_0:LOKf Tryz.prog (oneL 0 S23_0.h) Tryz.f149:=by
 refine jbo (h:=S23_0.h) (by kernel_rfl) (jbl ok_G12 hmix (by kernel_rfl) (ja7 _) S23_0 V23_0 B23_0 (fun(s,z,zb,z1,z2,z3,zg,a,ms,o,i)=>(ms.size-i).toNat) ?_ ?_ ?_)
 ·intro vs bs s h;simp only[S23_0]at h;split at h
  all_goals first | (cases h;exact⟨rfl,rfl⟩) | cases h
 ·exact fun _ _ _ h=>h
 ·intro⟨s,z,zb,z1,z2,z3,zg,a,ms,o,i⟩ jk Z hp hf;rw[r23_0];delta cq b7 ez ar i7 ak go ax dv av aw ay j5 aq bp ju jv b9 dx mq j8 fq bu bk j7 d8 au bv bw;simp only[S23_0]at hp hf;simp only[jae]at hp;apply cond_intro<;>intro h
  ·have h:=jab h;obtain⟨hi0,p2,p3,p4,p5,p6,p7,p8,p9⟩:=hp;have g1:decide (0≤i∧i<(ms.size:Int))=true:=jaa (by omega);rw[jb7 hi0 h,jet]at p5;rw[jb7 hi0 h,pdGo]at p8 p9;rw[jb7 hi0 h,rdGo]at hf;have nn:=pd_nn ((bz ms).drop (i+1).toNat);have eo:o.toNat+1=(o+1).toNat:=by omega
   have fin:∀(o2 a2:Int),0≤o2→o2+nv ((bz ms).drop (i+1).toNat)≤s.size→0≤a2→a2<tenZ (9-pdGo ((bz ms).drop (i+1).toNat)).toNat→pdGo ((bz ms).drop (i+1).toNat)≤9→
     (∀o':Int,Z (.exit 0) [S s,.pointer (some ⟨7,0,some 0⟩),I (rdGo ((bz ms).drop (i+1).toNat) ((bz s).drop o2.toNat) a2),S ms,I o',I ms.size] [some ⟨[S z,B zb,I z1,I z2,I z3,B zg],131,true⟩])→
     S23_0.step V23_0 B23_0 (fun(s,z,zb,z1,z2,z3,zg,a,ms,o,i)=>(ms.size-i).toNat) (s,z,zb,z1,z2,z3,zg,a,ms,o,i) Z Exit.normal
      [S s,.pointer (some ⟨7,0,some 0⟩),I a2,S ms,I o2,I (IntKind.wrap .i64 (i+1))] [some ⟨[S z,B zb,I z1,I z2,I z3,B zg],131,true⟩]:=by
    intro o2 a2 q1 q2 q3 q4 q5 q6;rw[w64 (n:=i+1) (by omega)];exact⟨(s,z,zb,z1,z2,z3,zg,a2,ms,o2,i+1),rfl,rfl,by simp only[S23_0,jae];exact⟨by omega,by omega,p3,q1,q2,p6,q3,q5,q4⟩,by simp only;omega,q6⟩
   refine c_t g1 (cond_intro (fun b=> ?_) (fun b=>c_t (by rw[g1];cases jaj ms i.toNat==100<;>rfl) ?_))
   ·have q:isP 118=false:=by decide
    rw[b,cond_true]at hf;rw[eq_of_beq b]at p5 p8 p9;rw[if_pos rfl]at p5;rw[q,cond_false,Int.zero_add]at p8 p9;exact fin o a p4 (by omega) p7 p9 p8 hf
   ·have hne:jaj ms i.toNat≠118:=by simpa using b
    rw[b,cond_false,List.tail_drop,eo]at hf;rw[if_neg hne]at p5;have o1:o<s.size:=by omega
    have g3:decide (0≤o∧o<(s.size:Int))=true:=jaa (by omega);rw[w64 (n:=o+1) (by omega)];refine cond_intro (fun c=>c_t g3 ?_) (fun c=> ?_)
    ·have hP:isP (jaj ms i.toNat)=true:=c;rw[hP,cond_true]at p8 p9;rw[c,cond_true,jb7 p4 o1,List.headD_cons]at hf;have rr:=jl2 (jaj s o.toNat)
     have tp:tenZ (9-pdGo ((bz ms).drop (i+1).toNat)).toNat=tenZ (9-(1+pdGo ((bz ms).drop (i+1).toNat))).toNat*10:=by
      rw[show(9-pdGo ((bz ms).drop (i+1).toNat)).toNat=(9-(1+pdGo ((bz ms).drop (i+1).toNat))).toNat+1 by omega,tenZ_add];rfl
     have t9:=jit (n:=(9-(1+pdGo ((bz ms).drop (i+1).toNat))).toNat) (by omega);have F:=fin (o+1) (a*10+rdD (jaj s o.toNat)) (by omega) (by omega) (by omega) (by omega) (by omega) hf;rw[w64 (n:=a*10) (by omega)];refine cond_intro (fun d=> ?_) (fun d=>c_t (by rw[g3];cases decide (jaj s o.toNat≥48) <;>rfl) (cond_intro (fun e=>c_t g3 ?_) (fun e=> ?_)))
     ·have er:rdD (jaj s o.toNat)=unD (jaj s o.toNat):=by rw[rdD,d,cond_true]
      rw[er]at F rr;rw[w64 (by omega)];exact F
     ·have er:rdD (jaj s o.toNat)=jaj s o.toNat-48:=by rw[rdD,d,cond_false,e,cond_true]
      rw[er]at F rr;rw[w8 (by omega),w64 (n:=jaj s o.toNat-48) (by omega),w64 (by omega)];exact F
     ·have er:rdD (jaj s o.toNat)=0:=by rw[rdD,d,cond_false,e,cond_false]
      rw[er,Int.add_zero]at F;exact F
    ·have hP:isP (jaj ms i.toNat)=false:=c;rw[hP,cond_false,Int.zero_add]at p8 p9;rw[c,cond_false]at hf;exact fin (o+1) a (by omega) (by omega) p7 p9 p8 hf
  ·have h:=jac h;rw[jcq (s:=ms) (by omega),rdGo]at hf;obtain rfl:i=ms.size:=by omega
   exact hf _
def s23(s:Y)(t:Y):Bool×Value:=(decide (s.size≤9223372036854775807∧t.size≤9223372036854775807),.tuple ⟨[.int .i64 (rdV (bz s) (bz t)).1,.int .i64 (rdV (bz s) (bz t)).2]⟩)
theorem fn23:Fn1 Tryz.prog 149 Tryz.f149:= .m Tryz.func149
def gp(a:Y):Y:=sz (pS (bz a))
def ma(a b:Y):Int:=rdGo (ij (sz (jas (bz (gp a))))) (bq b 0) 0
def qx(a:Y)(b:Int):Bool:=decide ((gp a).size≤900∧0≤pD (bz a)∧pD (bz a)≤900∧pdGo (jas (bz (gp a)))≤pD (bz a)∧0≤pW (bz a)∧pW (bz a)≤900∧ -(9223372036854775808:Int)≤b∧b≤9223372036854775807∧fdOK (bz (gp a)) (pW (bz a)) (pD (bz a)).toNat b=true)
theorem v23(s:Y)(t:Y)(R:Value→Prop):ja1 Tryz.prog G12 (oneL 0 S23_0.h) Tryz.f149 [Enc.enc s,Enc.enc t] (fun _=>none) 0 (fun v _ _=>R v)=(bif cm s then az (pE (bz s) !=0) true (pE (bz s) !=0 || !pN (bz s)) (R (al (d7 0 30))) (bif aq t !=pW (bz s)then R (al (d7 0 31))else bif ft (gp s)then bif S23_0.pre (t,(gp s,(pN (bz s),(pW (bz s),(pD (bz s),(pQ (bz s),(pG (bz s),((0:Int),(sz (jas (bz (gp s))),((0:Int),(0:Int)))))))))))then Int→kp (qx s (ma s t)) (bif d4 (sz (jdk (bz (gp s)) (pW (bz s)) (pD (bz s)).toNat (ma s t))) t then R (al [I (ma s t),ak 0])else gu (pG (bz s)) (bk (decide (ma s t>0)) (qx s (b8 0 (ma s t)) &&true) true) true (pG (bz s) && (decide (ma s t>0) &&d4 (sz (jdk (bz (gp s)) (pW (bz s)) (pD (bz s)).toNat (b8 0 (ma s t)))) t)) (R (al [I (b8 0 (ma s t)),ak 0])) (R (al (d7 0 31)))) False else False else False)else False):=by kernel_rfl
theorem ok23:jao Tryz.prog 149 (sp2 s23):=by
 refine jct ok_G12 hmix fn23 l23_0 jag fun s t hc=> ?_
 rw[ja2,v23];delta ar az kp gu al ak d7 b8 bq ij gp ma d4 bk qx ft aq cm;have hc:(s.size≤9223372036854775807∧t.size≤9223372036854775807):=jab hc
 try dsimp only[s23]
 rw[jnd,pN_or];refine c_t (jaa hc.1) (c_t (by simp) (cond_intro (fun h=> ?_) (fun h=> ?_)))
 ·have h:pN (bz s)=false:=by simpa using h
  simp[rdV,h]
 have h:pN (bz s)=true:=by simpa using h
 have hd:=jd5 h;have hnv:=jm1 h;apply cond_intro<;>intro h2
 ·have h2:¬(t.size:Int)=pW (bz s):=by simpa using h2
  simp[rdV,h,h2,jap]
 have h2:(t.size:Int)=pW (bz s):=by simpa using h2
 obtain⟨g1,g2,g3,g4,g5,g6⟩:=jht (jdv s) h (rdA (bz s) (bz t));obtain⟨-,-,-,-,-,g7⟩:=jht (jdv s) h (0-rdA (bz s) (bz t));have hmB:=jfa (pS (bz s));have hml:=jeg (pS (bz s));have hr:0≤rdA (bz s) (bz t)∧rdA (bz s) (bz t)<1000000000:=jf8 _ _ 0 0 (by omega) (by decide) (by omega);have er:rdGo (jas (pS (bz s))) (bz t) 0=rdA (bz s) (bz t):=rfl;rw[jdd g1,jcr,jdd hmB,jdm,jdm,er,w64 (n:=0-rdA (bz s) (bz t)) (by omega),jcd,jcd,jdd (jh3 g1 _ _ _),jdd (jh3 g1 _ _ _)];have eF:∀n,jdk (pS (bz s)) (pW (bz s)) (pD (bz s)).toNat n=fdN (bz s) n:=fun _=>rfl
 rw[eF,eF]
 have e1:rdV (bz s) (bz t)=if fdN (bz s) (rdA (bz s) (bz t))=bz t then(rdA (bz s) (bz t),0)else if pG (bz s)=true∧rdA (bz s) (bz t)>0∧fdN (bz s) (0-rdA (bz s) (bz t))=bz t then(0-rdA (bz s) (bz t),0)else(0,31):=by
  rw[rdV,if_pos h,if_pos (by rw[jap];exact h2)]
 refine c_t (jaa (by omega)) (c_t ?_ (fun o' _=>c_t (jaa ⟨by omega,by omega,by omega,by omega,by omega,by omega,by omega,by omega,g6⟩) (cond_intro (fun a=> ?_) (fun a=>c_t ?_ (cond_intro (fun b=> ?_) (fun b=> ?_))))))
 ·simp only[S23_0,jae,jcr,jdd hmB,Int.toNat_zero,List.drop_zero];refine⟨by omega,by omega,by omega,by omega,by omega,by omega,by omega,by omega,?_⟩;have:=tenZ_le (n:=(9-pdGo (jas (pS (bz s)))).toNat) (by omega);omega
 ·rw[e1,if_pos (jab a)]
 ·cases pG (bz s)with
  | false=>rfl
  | true=>
   cases decide (rdA (bz s) (bz t)>0)with
   | false=>rfl
   | true=>
    show(decide _&&true)=true;rw[Bool.and_true];exact jaa ⟨by omega,by omega,by omega,by omega,by omega,by omega,by omega,by omega,g7⟩
 ·simp only[jaf,jae]at b;rw[e1,if_neg (jac a),if_pos b]
 ·have b:¬(pG (bz s)=true∧rdA (bz s) (bz t)>0∧fdN (bz s) (0-rdA (bz s) (bz t))=bz t):=by
   rintro ⟨b1,b2,b3⟩;rw[b1,jaa b2,jaa b3]at b;cases b
  rw[e1,if_neg (jac a),if_neg b]
def G13:Env:=((Env.nil.add 150 (sp2 s72)).add 143 (sp1 s30)).add 149 (sp2 s23)
theorem ok_G13:jax Tryz.prog G13:=jak (jak (jak jan ok72) ok30) ok23
def V25_0:Bool×Y×Y×Bool×Int×Int×Int×Bool×Int→E:=fun(r,t,z,zb,z1,z2,z3,zg,i)=> [B r,S t,.pointer (some ⟨6,0,some 0⟩),I i]
def B25_0:Bool×Y×Y×Bool×Int×Int×Int×Bool×Int→O:=fun(r,t,z,zb,z1,z2,z3,zg,i)=> [some ⟨[S z,B zb,I z1,I z2,I z3,B zg],131,true⟩]
def S25_0:LSpec (Bool×Y×Y×Bool×Int×Int×Int×Bool×Int) where
 live:=[4,1,5,7]
 mid:=[6]
 n:=120
 dec vs bs:=match vs,bs with | [.bool r,.string t,.pointer (some ⟨6,0,some 0⟩),.int .i64 i],[some ⟨[.string z,.bool zb,.int .i64 z1,.int .i64 z2,.int .i64 z3,.bool zg],131,true⟩]=>some (r,t,z,zb,z1,z2,z3,zg,i) | _,_=>none
 pre:=fun(r,t,z,zb,z1,z2,z3,zg,i)=>decide (0≤i∧i≤t.size∧t.size=z.size∧t.size≤1000)
 fin:=fun(r,t,z,zb,z1,z2,z3,zg,i) Z=>(bif onGo ((bz z).drop i.toNat) ((bz t).drop i.toNat)then Z (.exit 0) [B r,S t,.pointer (some ⟨6,0,some 0⟩),I t.size] [some ⟨[S z,B zb,I z1,I z2,I z3,B zg],131,true⟩]else(∀i',Z .ret [B false,S t,.pointer (some ⟨6,0,some 0⟩),I i'] [some ⟨[S z,B zb,I z1,I z2,I z3,B zg],131,true⟩]))
theorem r25_0(r:Bool)(t:Y)(z:Y)(zb:Bool)(z1:Int)(z2:Int)(z3:Int)(zg:Bool)(i:Int)(jk:Tmps)(R:Exit→E→O→Prop):(jbv Tryz.prog G13 noL Tryz.f75.ntmps (ja9 Tryz.f75 0) (tl S25_0.live (V25_0 (r,t,z,zb,z1,z2,z3,zg,i)) jk) (ml S25_0.mid (B25_0 (r,t,z,zb,z1,z2,z3,zg,i))) S25_0.n fun e t' m' _=>R e (List.map t' S25_0.live) (List.map m' S25_0.mid))=(ez (bp z i) R i (aq t) [go zb zg z z1 z2 z3] (B r::ax t [ak i] (av 6)) 0 (ju (cl (bu t i) 256) t i (ko (!oneZ (bu z i) (bu t i)) R [go zb zg z z1 z2 z3] (B false::ax t [ak i] (av 6)) (B r::ax t [ay i] (av 6))) False)):=by kernel_rfl
theorem l25_0:LOKf Tryz.prog (oneL 0 S25_0.h) Tryz.f75:=by
 refine jbo (h:=S25_0.h) (by kernel_rfl) (jbl ok_G13 hmix (by kernel_rfl) (ja7 _) S25_0 V25_0 B25_0 (fun(r,t,z,zb,z1,z2,z3,zg,i)=>(t.size-i).toNat) ?_ ?_ ?_)
 ·intro vs bs s h;simp only[S25_0]at h;split at h
  all_goals first | (cases h;exact⟨rfl,rfl⟩) | cases h
 ·exact fun _ _ _ h=>h
 ·intro⟨r,t,z,zb,z1,z2,z3,zg,i⟩ jk Z hp hf;rw[r25_0];delta cq b7 ez ar aq bp ju ko ax dv av aw ay ak go bu cl;simp only[S25_0]at hp hf;simp only[jae]at hp;apply cond_intro<;>intro h
  ·have h:=jab h;have hz:i<(z.size:Int):=by omega
   have hb:=jd1 t (jaj t i.toNat) (List.mem_of_mem_drop (by rw[jb7 hp.1 h];exact List.mem_cons_self ..));rw[jb7 hp.1 h,jb7 hp.1 hz,onGo]at hf;refine c_t (jaa (by omega)) (c_t (jaa (by omega)) (c_t (jaa hb) (cond_intro (fun a=> ?_) (fun a=> ?_))))
   ·have a:oneZ (jaj z i.toNat) (jaj t i.toNat)=false:=by simpa using a
    rw[a,Bool.false_and,cond_false]at hf;exact hf _
   ·have a:oneZ (jaj z i.toNat) (jaj t i.toNat)=true:=by simpa using a
    rw[a,Bool.true_and]at hf;rw[w64 (by omega)];exact⟨(r,t,z,zb,z1,z2,z3,zg,i+1),rfl,rfl,by simp only[S25_0,jae];omega,by simp only;omega,hf⟩
  ·have h:=jac h;rw[jcq (s:=t) (by omega),onGo,cond_true]at hf;obtain rfl:i=t.size:=by omega
   exact hf
def s25(s:Y)(t:Y):Bool×Value:=(decide (s.size≤9223372036854775807∧t.size≤9223372036854775807),.bool (hoZ (bz s) (bz t)))
theorem fn25:Fn1 Tryz.prog 75 Tryz.f75:= .m Tryz.func75
def iy(c:Y)(a b d:Nat):Bool:=decide (a≤b∧c.size≤d)
def kr(a b:Y):Bool:=iy a b.size 9223372036854775807 9223372036854775807
theorem v25(s:Y)(t:Y)(R:Value→Prop):ja1 Tryz.prog G13 (oneL 0 S25_0.h) Tryz.f75 [Enc.enc s,Enc.enc t] (fun _=>none) 0 (fun v _ _=>R v)=(du (pE (bz s) !=0) s (fk R) (bif pN (bz s)then cu (kr t s) (B ((rdV (bz s) (bz t)).snd==0)) R else bif aq t !=pW (bz s)then fk R else ib (S25_0.pre (false,(t,(gp s,(pN (bz s),(pW (bz s),(pD (bz s),(pQ (bz s),(pG (bz s),(0:Int)))))))))) (onGo (ij (gp s)) (bq t 0)) (Tmps→R (B true)) (fu (fk R)))):=by kernel_rfl
theorem ok25:jao Tryz.prog 75 (sp2 s25):=by
 refine jct ok_G13 hmix fn25 l25_0 jag fun s t hc=> ?_
 rw[ja2,v25];delta ar cm du ib fu fk bq ij gp aq cu iy kr;have hc:(s.size≤9223372036854775807∧t.size≤9223372036854775807):=jab hc
 try dsimp only[s25]
 obtain⟨g1,g2⟩:=jdv s;rw[jnd,jdd g1];refine c_t (jaa hc.1) (cond_intro (fun h=> ?_) (fun h=> ?_))
 ·have h:vOK (bz s)=false:=by simpa using h
  simp[hoZ,h]
 have h:vOK (bz s)=true:=by simpa using h
 refine cond_intro (fun hn=>c_t (jaa hc) ?_) (fun hn=> ?_)
 ·have e:((rdV (bz s) (bz t)).2==0)=decide ((rdV (bz s) (bz t)).2=0):=by rw[Bool.eq_iff_iff];simp
  rw[e];simp[hoZ,h,hn]
 have hw:=pCh h hn;apply cond_intro<;>intro a
 ·have a:¬(t.size:Int)=pW (bz s):=by simpa using a
  simp[hoZ,h,hn,jap,a]
 have a:(t.size:Int)=pW (bz s):=by simpa using a
 refine c_t ?_ (cond_intro (fun b _=> ?_) (fun b _ _=> ?_))
 ·simp only[S25_0,jae,jcr];omega
 ·rw[jdm,jdm]at b;simp[hoZ,h,hn,jap,a,b]
 ·rw[jdm,jdm]at b;simp[hoZ,h,hn,jap,a,b]
end Go.Px
end
noncomputable section
namespace Go.Px
open Go Go.Ab Go.Proofs
inductive Rw where
 | nil
 | own (d:E) (m cap:Nat)
def Rw.v(q:Nat):Rw→Value
 | .nil=> .slice none 0 0
 | .own _ m cap=> .slice (some ⟨q,0,some 1⟩) m cap
def Rw.b:Rw→Option Blk
 | .nil=>none
 | .own d _ _=>some ⟨d,5,true⟩
def Rw.z:Rw→J
 | .nil=> []
 | .own d m _=>zc d m
def Rw.ok:Rw→Bool
 | .nil=>true
 | .own d m cap=>jci d m cap
def Rw.is:Rw→Bool
 | .nil=>false
 | .own _ _ _=>true
def G15:Env:=Env.nil
theorem ok_G15:jax Tryz.prog G15:=jan
theorem w32{n:Int}(h: -2147483648≤n∧n≤2147483647):IntKind.wrap .i32 n=n:=by
 rw[IntKind.wrap_i32];omega
def rpZ(n c:Int):Int×Bool:=if c<48∨c>57∨(n=0∧c=48)then(0,false)else(10*n+(c-48),decide (10*n+(c-48)≤32))
def s113(n:Int)(c:R32):Bool×Value:=(decide (0≤n∧n≤32∧0≤c.n∧c.n≤2147483647),.tuple ⟨[.int .i64 (rpZ n c.n).1,.bool (rpZ n c.n).2]⟩)
theorem fn113:Fn1 Tryz.prog 234 Tryz.f234:= .m Tryz.func234
theorem v113(n:Int)(c:R32)(R:Value→Prop):ja1 Tryz.prog G15 noL Tryz.f234 [Enc.enc n,Enc.enc c] (fun _=>none) 0 (fun v _ _=>R v)=(pq (decide (R32.n c>57)) (n==0 || true) (n==0&&R32.n c==48) (R32.n c) 48 (mq 10 n (R32.n c) .i32) (B false) (B (decide (mq 10 n (R32.n c) .i32≤32))) R):=by kernel_rfl
theorem ok113:jao Tryz.prog 234 (sp2 s113):=by
 refine jct ok_G15 hmix fn113 jai jag fun n c hc=> ?_
 rw[ja2,v113];delta ar az al ak b7 pq dx mq;have hc:(0≤n∧n≤32∧0≤c.n∧c.n≤2147483647):=jab hc
 try dsimp only[s113]
 obtain⟨c⟩:=c;simp only at hc ⊢;refine c_t (by simp) (cond_intro (fun h=> ?_) (fun h=> ?_))
 ·have h:c<48∨c>57∨(n=0∧c=48):=by simpa using h
  simp[rpZ,h]
 ·have h:¬(c<48∨c>57∨(n=0∧c=48)):=by
   intro q;have:(decide (c<48) || (decide (c>57) || n==0&&c==48))=true:=by simpa using q
   rw[this]at h;cases h
  rw[w64 (n:=10*n) (by omega),w32 (n:=c-48) (by omega),w64 (n:=c-48) (by omega),w64 (by omega)];simp[rpZ,h]
def G16:Env:=Env.nil.add 272 (sp2 s141)
theorem ok_G16:jax Tryz.prog G16:=jak jan ok141
def V114_0:Blk×Int×Int×Rw×Int→E:=fun(b,c,n,o,i)=> [o.v 400,.int .i32 c,I n,I i]
def B114_0:Blk×Int×Int×Rw×Int→O:=fun(b,c,n,o,i)=> [some b,o.b]
def S114_0:LSpecA (Blk×Int×Int×Rw×Int) where
 live:=[0,1,31,32]
 mid:=[7,400]
 n:=420
 ap:=[(.tmp 0,400)]
 dec vs bs:=match vs,bs with
  | [.slice none 0 0,.int .i32 c,.int .i64 n,.int .i64 i],[some b,none]=>some (b,c,n,.nil,i)
  | [.slice (some ⟨400,0,some 1⟩) m cap,.int .i32 c,.int .i64 n,.int .i64 i],[some b,some ⟨d,5,true⟩]=>some (b,c,n,.own d m cap,i)
  | _,_=>none
 pre:=fun(b,c,n,o,i)=>o.ok&& ((o.is || decide (i<n)) && (ja5 b.c&&decide (0≤i∧i≤n∧n≤32∧0≤c∧c<128∧o.z.length+(n-i).toNat≤1000)))
 fin:=fun(b,c,n,o,i) Z=>∀d' m' cap',jci d' m' cap'=true→zc d' m'=o.z++rep1 c (n-i).toNat→Z (.exit 0) [.slice (some ⟨400,0,some 1⟩) m' cap',.int .i32 c,I n,I n] [some b,some ⟨d',5,true⟩]
def ct(c:Bool)(a:E)(b:TypeId):Option Blk:=some (.mk a b c)
def jw:Value:= .slice none 0 0
theorem r114_0n(b:Blk)(c:Int)(n:Int)(i:Int)(jk:Tmps)(R:Exit→E→O→Prop):(jbv Tryz.prog G16 noL Tryz.f235.ntmps (ja9 Tryz.f235 0) (tl S114_0.live (V114_0 (b,c,n,.nil,i)) jk) (ml S114_0.mid (B114_0 (b,c,n,.nil,i))) S114_0.n fun e t' m' _=>S114_0.out R e t' m')=(bif b7 i n then∀a:Nat,∀d:E,cw d a 1→b9 (jav [(425,400)] b.c&& (jav [(425,400)] (jz c::d) &&true) &&true) R [ct b.own (rlbL [(425,400)] b.c) b.ty,ie [(425,400)] (jz c::d)] (a9 400 1 a:: .int .i32 c::bv n i)else bif jav [] b.c&&true&&true then R (.exit 0) (jw:: .int .i32 c::bw n i) [ct b.own (rlbL [] b.c) b.ty,none]else False):=by kernel_rfl
theorem r114_0o(b:Blk)(c:Int)(n:Int)(d:E)(m:Nat)(cap:Nat)(i:Int)(jk:Tmps)(R:Exit→E→O→Prop):(jbv Tryz.prog G16 noL Tryz.f235.ntmps (ja9 Tryz.f235 0) (tl S114_0.live (V114_0 (b,c,n,.own d m cap,i)) jk) (ml S114_0.mid (B114_0 (b,c,n,.own d m cap,i))) S114_0.n fun e t' m' _=>S114_0.out R e t' m')=(d5 (b7 i n) (gn d cap m 1) (jav [(400,400)] b.c&& (jav [(400,400)] d&&true) &&true) (∀a:Nat,∀e:E,cw e a (m+1)→b9 (jav [(425,400)] b.c&&nh (IntKind.u8.wrap c) d e 425 400 m&&true) R (ct b.own (rlbL [(425,400)] b.c) b.ty::mb (IntKind.u8.wrap c) d e 425 400 m) (a9 400 (m+1) a:: .int .i32 c::bv n i)) False (R (.exit 0) (a9 400 m cap:: .int .i32 c::bw n i) [ct b.own (rlbL [(400,400)] b.c) b.ty,ie [(400,400)] d])):=by kernel_rfl
theorem l114_0:LOKf Tryz.prog (oneL 0 S114_0.hA) Tryz.f235:=by
 refine jbo (h:=S114_0.hA) (by kernel_rfl) (jbr ok_G16 hmix (by kernel_rfl) (ja7 _) S114_0 V114_0 B114_0 (fun(b,c,n,o,i)=>(n-i).toNat) ?_ ?_ ?_)
 ·intro vs bs s h;simp only[S114_0]at h;split at h
  all_goals first | (cases h;exact⟨rfl,rfl⟩) | cases h | (split at h<;>first | (rename_i hq;cases h;have hq:=jah hq;subst hq;exact⟨rfl,rfl⟩) | cases h)
 ·exact fun⟨b,c,n,o,i⟩ hp=>by
   simp only[S114_0,jaf]at hp;cases o with
   | nil=>simp[V114_0,B114_0,S114_0,ja0,jbz,idsL,ids,Rw.v,Rw.b,jaq hp.2.2.1]
   | own d m cap=>simp[V114_0,B114_0,S114_0,ja0,jbz,idsL,ids,Rw.v,Rw.b,jaq hp.2.2.1,jaq (jat.1 hp.1).plain]
 ·intro⟨b,c,n,o,i⟩ jk Z hp hf;simp only[S114_0]at hp hf;cases o with
  | nil=>
   rw[r114_0n];delta ct ak bw jw b9 aw ay bv dv a9 ie jz cw b7;simp only[jaf,jae]at hp;obtain⟨-,hi,hb,hp⟩:=hp;have hi:i<n:=jab hi;simp only[Rw.z,List.length_nil]at hp;have eb:∀ps,rlbL ps b.c=b.c:=fun ps=>rlbL_plain ps hb
   have gb:∀ps,jav ps b.c=true:=fun ps=>goodL_plain hb
   refine c_t (jaa hi) (fun cap1 tail ht=> ?_);rw[w8 (n:=c) (by omega)];have hh:=jgl [c] ht;have h1:RowP (.int .u8 c::tail) 1 cap1:=hh.1;have h2:zc (.int .u8 c::tail) 1=[c]:=hh.2;refine c_t (by simp[h1.good,gb]) ?_;rw[h1.rlb,eb,w64 (by omega)];refine⟨(b,c,n,.own _ 1 cap1,i+1),rfl,rfl,by simp only[S114_0,jaf,jae];exact⟨jat.2 h1,rfl,hb,by omega,by omega,by omega,by omega,by omega,by simp only[Rw.z,h2,List.length_cons,List.length_nil];omega⟩,by simp only;omega,?_⟩;intro d' m' cap' g1 g2;refine hf d' m' cap' g1 ?_;rw[g2];simp only[Rw.z];rw[h2,show(n-i).toNat=(n-(i+1)).toNat+1 by omega,←jhq];rfl
  | own d m cap=>
   rw[r114_0o];delta cq ar d5 ie ct ak bw dv a9 b9 aw ay bv ao gq mb nh cw iq gn b7;simp only[jaf,jae]at hp;obtain⟨hr,-,hb,hp⟩:=hp;simp only[Rw.z]at hp;have eb:∀ps,rlbL ps b.c=b.c:=fun ps=>rlbL_plain ps hb
   have gb:∀ps,jav ps b.c=true:=fun ps=>goodL_plain hb
   have hr:=jat.1 hr;have hzl:=jba hr;apply cond_intro<;>intro h
   ·have h:=jab h;rw[w8 (n:=c) (by omega)];refine c_t (hr.ask (k:=1) (by omega)) (fun cap1 tail ht=> ?_);obtain⟨h1,h2⟩:=hr.app1 c ht;refine c_t (by rw[h1.good,gb];rfl) ?_;rw[h1.rlb,eb,w64 (by omega)];have hl1:(zc (List.take (m*1) d++ [Value.int IntKind.u8 c]++tail) (m+1)).length=m+1:=jba h1;refine⟨(b,c,n,.own _ (m+1) cap1,i+1),rfl,rfl,by simp only[S114_0,jaf,jae];exact⟨jat.2 h1,rfl,hb,by omega,by omega,by omega,by omega,by omega,by simp only[Rw.z,hl1];omega⟩,by simp only;omega,?_⟩;intro d' m' cap' g1 g2;refine hf d' m' cap' g1 ?_;rw[g2];simp only[Rw.z];rw[h2,show(n-i).toNat=(n-(i+1)).toNat+1 by omega,←jhq,List.append_assoc]
   ·have h:=jac h;refine c_t (by rw[hr.good,gb];rfl) ?_;rw[hr.rlb,eb];obtain rfl:i=n:=by omega
    exact hf d m cap (jat.2 hr) (by simp[Rw.z,rep1])
theorem fn114:Fn1 Tryz.prog 235 Tryz.f235:= .m Tryz.func235
def G17:Env:=(Env.nil.add 234 (sp2 s113)).addG 235 (inlQ Tryz.prog G16 (oneL 0 S114_0.hA) Tryz.f235)
theorem ok_G17:jax Tryz.prog G17:=jam (jak jan ok113) (jar ok_G16 hmix fn114 l114_0)
theorem dec_cases{s:Y}{p:Int}(h0:0≤p)(h:p<s.size):(jaj s p.toNat<128→decO s p.toNat=((jaj s p.toNat).toNat,1))∧(128≤jaj s p.toNat→128≤(decO s p.toNat).1∧(decO s p.toNat).1≤2147483647∧1≤(decO s p.toNat).2):=by
 rw[decO_eq];have hs:p.toNat<s.size:=by omega
 have e:jaj s p.toNat=((s[p.toNat]'hs).toNat:Int):=by
  have hl:p.toNat<s.data.toList.length:=by rw[Array.length_toList];exact hs
  simp only[jaj,List.getElem?_eq_getElem hl];rfl
 rw[e];refine⟨fun h=> ?_,fun h=> ?_⟩
 ·rw[decode_ascii s _ hs (by omega)];rfl
 ·have:=decode_high s _ hs (by omega);exact⟨this.1,decode_le s _,this.2⟩
theorem jl8{c:Int}(h:hasZ kL c=true):0≤c∧c<128:=by
 have:∀x∈kL,0≤x∧x<128:=by decide
 exact this c (ja8.1 h)
theorem jjy:∀(l:J)(n m:Int)(out:J),xpGo l 0 n out=xpGo l 0 m out
 | [],_,_,_=>rfl
 | c::r,n,m,out=>by
  simp only[xpGo];rfl
theorem xp_high{c:Int}(h:128≤c)(r:J)(st n:Int)(out:J):xpGo (c::r) st n out=([],false):=by
 have hu:upZ c=c:=by unfold upZ;rw[if_neg (by omega)]
 have hk:¬hasZ kL c=true:=fun q=>by have:=jl8 q;omega
 have hd:¬je3 c=true:=fun q=>by have:=jab q;omega
 rw[xpGo];split
 ·rw[if_neg (by omega),if_neg (fun q=>hd q.1)]
 ·rw[if_neg (by omega),if_neg (by omega),hu,if_neg (fun q=>hk q.1)]
theorem dec_step{s:Y}{p:Int}(h0:0≤p)(h:p<s.size):0≤((decO s p.toNat).1:Int)∧((decO s p.toNat).1:Int)≤2147483647∧1≤((decO s p.toNat).2:Int)∧
  ∀st n out,xpGo ((bz s).drop p.toNat) st n out=xpGo (((decO s p.toNat).1:Int)::(bz s).drop (p+((decO s p.toNat).2:Int)).toNat) st n out:=by
 obtain⟨h1,h2⟩:=dec_cases h0 h;have hb:=jfs s p.toNat;by_cases hc:jaj s p.toNat<128
 ·have e:=h1 hc;rw[e];simp only;rw[Int.toNat_of_nonneg hb.1];refine⟨hb.1,by omega,by omega,fun st n out=> ?_⟩;rw[jb7 h0 h];rfl
 ·obtain⟨q1,q2,q3⟩:=h2 (by omega);refine⟨by omega,by omega,by omega,fun st n out=> ?_⟩;rw[jb7 h0 h,xp_high (by omega),xp_high (by omega)]
theorem x1{c st n:Int}{r out:J}(h:st=1)(hc:c=41)(hn:0<n):xpGo (c::r) st n out=xpGo r 2 n out:=by rw[xpGo,if_pos h,if_pos hc,if_pos hn]
theorem x2{c st n:Int}{r out:J}(h:st=1)(hc:c=41)(hn:¬0<n):xpGo (c::r) st n out=([],false):=by rw[xpGo,if_pos h,if_pos hc,if_neg hn]
theorem x34{c st n:Int}{r out:J}(h:st=1)(hc:¬c=41):xpGo (c::r) st n out=if(rpZ n c).2=true then xpGo r 1 (rpZ n c).1 out else([],false):=by
 rw[xpGo,if_pos h,if_neg hc,rpZ];by_cases q:c<48∨c>57∨(n=0∧c=48)
 ·rw[if_pos q,if_neg,if_neg (by simp)];simp only[je3,jae];omega
 ·rw[if_neg q];simp only[je3,jae];by_cases q2:10*n+(c-48)≤32
  ·rw[if_pos (by omega),if_pos q2]
  ·rw[if_neg (by omega),if_neg q2]
theorem rp_rng{n c:Int}(hn:0≤n)(h:(rpZ n c).2=true):0≤(rpZ n c).1∧(rpZ n c).1≤32:=by
 unfold rpZ at h ⊢;split at h
 ·cases h
 ·rename_i q;rw[if_neg q];simp only[jae]at h ⊢;omega
theorem x5{c st n:Int}{r out:J}(h:¬st=1)(hc:c=41∨st=2∧c=40):xpGo (c::r) st n out=([],false):=by rw[xpGo,if_neg h,if_pos hc]
theorem x6{c st n:Int}{r out:J}(h:¬st=1)(hc:¬(c=41∨st=2∧c=40))(h2:c=40):xpGo (c::r) st n out=xpGo r 1 0 out:=by rw[xpGo,if_neg h,if_neg hc,if_pos h2]
theorem x7{c st n:Int}{r out:J}(h:¬st=1)(hc:¬(c=41∨st=2∧c=40))(h2:¬c=40):xpGo (c::r) st n out=if hasZ kL (upZ c)=true∧(out.length:Int)+(if st=2 then n else 1)≤32 then xpGo r 0 0 (out++rep1 (upZ c) (if st=2 then n else 1).toNat)else([],false):=by rw[xpGo,if_neg h,if_neg hc,if_neg h2]
theorem put_gate{u k:Int}{L:Nat}(hu:0≤u∧u≤2147483647)(hk:1≤k∧k≤32)(hL:L≤32):
  (decide (u≥128) || decide (0≤IntKind.wrap IntKind.u8 u∧IntKind.wrap IntKind.u8 u<256) && (decide (idxZ (bz (ByteArray.mk #[57,86,90,42,89,84,73,82,83,43,45,36,44,46,47,66,67,68,65,88])) (IntKind.wrap IntKind.u8 u)<0) || true))=true∧
  (decide (u≥128) || (decide (idxZ (bz (ByteArray.mk #[57,86,90,42,89,84,73,82,83,43,45,36,44,46,47,66,67,68,65,88])) (IntKind.wrap IntKind.u8 u)<0) || decide (IntKind.wrap IntKind.i64 (natO L+k)>32)))= !(decide (hasZ kL u=true∧(L:Int)+k≤32)):=by
 have eb:bz (ByteArray.mk #[57,86,90,42,89,84,73,82,83,43,45,36,44,46,47,66,67,68,65,88])=kL:=by kernel_rfl
 rw[eb,jb6,w64 (by omega)];by_cases h:u≥128
 ·have hh:¬(hasZ kL u=true∧(L:Int)+k≤32):=fun q=>by have:=jl8 q.1;omega
  rw[jaa h,jad hh];exact⟨rfl,rfl⟩
 ·rw[w8 (by omega),jad h,jaa (show 0≤u∧u<256 by omega)];refine⟨by simp,?_⟩;have hi:=jgs u kL;rw[←ja8]at hi;by_cases h1:hasZ kL u=true
  ·rw[h1]at hi ⊢;have hi:=hi.2.2 rfl;rw[jad (show¬idxZ kL u<0 by omega)];by_cases h2:(L:Int)+k≤32
   ·rw[jad (show¬(L:Int)+k>32 by omega),jaa ⟨rfl,h2⟩];rfl
   ·rw[jaa (show(L:Int)+k>32 by omega),jad (fun q=>h2 q.2)];rfl
  ·have hn:idxZ kL u<0:=by
    have:¬0≤idxZ kL u:=fun q=>h1 (hi.2.1 q)
    omega
   rw[jaa hn,jad (show¬(hasZ kL u=true∧(L:Int)+k≤32)from fun q=>h1 q.1)];rfl
theorem ji2{u k:Int}{p:Int}{s:Y}(hu:0≤u∧u≤2147483647)(hk:1≤k∧k≤32){A:Prop}{Q:Nat→Nat→E→Prop}
  (h1:¬(hasZ kL u=true∧((([]:J).length:Nat):Int)+k≤32)→A)
  (h2:hasZ kL u=true∧((([]:J).length:Nat):Int)+k≤32→ ∀d' m' cap',RowP d' m' cap'→zc d' m'=[]++rep1 u k.toNat→Q m' cap' d'):
  bif decide (u≥128) || decide (0≤IntKind.wrap IntKind.u8 u∧IntKind.wrap IntKind.u8 u<256) && (decide (idxZ (bz (ByteArray.mk #[57,86,90,42,89,84,73,82,83,43,45,36,44,46,47,66,67,68,65,88])) (IntKind.wrap IntKind.u8 u)<0) || true)then
   bif decide (u≥128) || (decide (idxZ (bz (ByteArray.mk #[57,86,90,42,89,84,73,82,83,43,45,36,44,46,47,66,67,68,65,88])) (IntKind.wrap IntKind.u8 u)<0) || decide (IntKind.wrap IntKind.i64 (natO 0+k)>32))then A
   else
    bif LSpec.pre (LSpecA.toLSpec S114_0) (Blk.mk [Value.string s,Value.int IntKind.i64 p] 4611686018427387904 true,u,k,Rw.nil,0)then
     ∀(d':E)(m' cap':Nat),jci d' m' cap'=true→zc d' m'=Rw.z Rw.nil++rep1 u (Int.toNat (k-0))→
      bif ja0 420 d'&&true then∀(_:Tmps),bif jav [(400,200)] d'&&true&&true then Q m' cap' d' else False else False
    else False
  else False:=by
 obtain⟨g1,g2⟩:=put_gate (L:=0) hu hk (by omega);refine c_t g1 ?_;rw[g2];by_cases hq:hasZ kL u=true∧((0:Nat):Int)+k≤32
 ·rw[jaa hq];have hkl:=jl8 hq.1;refine c_f rfl (c_t ?_ fun d' m' cap' r1 r2=> ?_)
  ·simp only[S114_0,jaf,jae,Rw.ok,Rw.is,Rw.z,List.length_nil,Bool.false_or,true_and,ja5,plain];exact⟨by omega,jaa (by omega)⟩
  ·have r1:=jat.1 r1;refine c_t (by rw[jbi r1.plain];rfl) fun x=>c_t (by rw[r1.good];rfl) ?_
   exact h2 hq d' m' cap' r1 (by rw[r2,Int.sub_zero];rfl)
 ·rw[jad hq];exact c_t rfl (h1 hq)
theorem ji1{u k:Int}{p:Int}{s:Y}{d:E}{m cap:Nat}(hr:RowP d m cap)(hm:m≤32)(hu:0≤u∧u≤2147483647)(hk:1≤k∧k≤32){A:Prop}{Q:Nat→Nat→E→Prop}
  (h1:¬(hasZ kL u=true∧((zc d m).length:Int)+k≤32)→A)
  (h2:hasZ kL u=true∧((zc d m).length:Int)+k≤32→ ∀d' m' cap',RowP d' m' cap'→zc d' m'=zc d m++rep1 u k.toNat→Q m' cap' d'):
  bif decide (u≥128) || decide (0≤IntKind.wrap IntKind.u8 u∧IntKind.wrap IntKind.u8 u<256) && (decide (idxZ (bz (ByteArray.mk #[57,86,90,42,89,84,73,82,83,43,45,36,44,46,47,66,67,68,65,88])) (IntKind.wrap IntKind.u8 u)<0) || true)then
   bif decide (u≥128) || (decide (idxZ (bz (ByteArray.mk #[57,86,90,42,89,84,73,82,83,43,45,36,44,46,47,66,67,68,65,88])) (IntKind.wrap IntKind.u8 u)<0) || decide (IntKind.wrap IntKind.i64 (natO m+k)>32))then
    bif jav [] d&&true&&true then A else False
   else
    bif jav [(200,400)] d&&true&&true&& (ja0 420 d&&true)then
     bif LSpec.pre (LSpecA.toLSpec S114_0) (Blk.mk [Value.string s,Value.int IntKind.i64 p] 4611686018427387904 true,u,k,Rw.own d m cap,0)then
      ∀(d':E)(m' cap':Nat),jci d' m' cap'=true→zc d' m'=Rw.z (Rw.own d m cap)++rep1 u (Int.toNat (k-0))→
       bif ja0 420 d'&&true then∀(_:Tmps),bif jav [(400,200)] d'&&true&&true then Q m' cap' d' else False else False
     else False
    else False
  else False:=by
 obtain⟨g1,g2⟩:=put_gate (L:=m) hu hk (by omega);rw[jba hr]at h1 h2;have hzl:=jba hr;refine c_t g1 ?_;rw[g2,hr.good,hr.good,jbi hr.plain];by_cases hq:hasZ kL u=true∧(m:Int)+k≤32
 ·rw[jaa hq];have hkl:=jl8 hq.1;refine c_f rfl (c_t rfl (c_t ?_ fun d' m' cap' r1 r2=> ?_))
  ·simp only[S114_0,jaf,jae,Rw.ok,Rw.is,Rw.z,Bool.true_or,true_and,ja5,plain];exact⟨jat.2 hr,jaa (by omega)⟩
  ·have r1:=jat.1 r1;refine c_t (by rw[jbi r1.plain];rfl) fun x=>c_t (by rw[r1.good];rfl) ?_
   exact h2 hq d' m' cap' r1 (by rw[r2,Int.sub_zero];rfl)
 ·rw[jad hq];exact c_t rfl (c_t rfl (h1 hq))
def V80_0:Y×Bool×Rw×Int×Int×Bool×Y×Int→E:=fun(r,rb,o,st,n,f,s,p)=> [.string r,.bool rb,o.v 200,.int .i64 st,.int .i64 n,.bool f,.pointer (some ⟨7,0,some 0⟩)]
def B80_0:Y×Bool×Rw×Int×Int×Bool×Y×Int→O:=fun(r,rb,o,st,n,f,s,p)=> [some ⟨[.string s,.int .i64 p],itTy,true⟩,o.b]
def S80_0:LSpecA (Y×Bool×Rw×Int×Int×Bool×Y×Int) where
 live:=[2,3,4,5,6,7,11]
 mid:=[7,200]
 n:=210
 ap:=[(.tmp 4,200)]
 dec vs bs:=match vs,bs with
  | [.string r,.bool rb,.slice none 0 0,.int .i64 st,.int .i64 n,.bool f,.pointer (some ⟨7,0,some 0⟩)],[some ⟨[.string s,.int .i64 p],ty,true⟩,none]=>match Nat.beq ty itTy with | true=>some (r,rb,.nil,st,n,f,s,p) | false=>none
  | [.string r,.bool rb,.slice (some ⟨200,0,some 1⟩) m cap,.int .i64 st,.int .i64 n,.bool f,.pointer (some ⟨7,0,some 0⟩)],[some ⟨[.string s,.int .i64 p],ty,true⟩,some ⟨d,5,true⟩]=>match Nat.beq ty itTy with | true=>some (r,rb,.own d m cap,st,n,f,s,p) | false=>none
  | _,_=>none
 pre:=fun(r,rb,o,st,n,f,s,p)=>o.ok&& (f&&decide (0≤p∧s.size≤9223372036854775807∧(st=0∨st=1∨(st=2∧0<n))∧0≤n∧n≤32∧o.z.length≤32))
 fin:=fun(r,rb,o,st,n,f,s,p) Z=>(xpGo ((bz s).drop p.toNat) st n o.z=([],false)→(∀st' n' f' p',Z .ret [.string ⟨#[]⟩,.bool false,.slice none 0 0,.int .i64 st',.int .i64 n',.bool f',.pointer (some ⟨7,0,some 0⟩)] [some ⟨[.string s,.int .i64 p'],itTy,true⟩,none])∧(∀d' m' cap' st' n' f' p',jci d' m' cap'=true→Z .ret [.string ⟨#[]⟩,.bool false,.slice (some ⟨200,0,some 1⟩) m' cap',.int .i64 st',.int .i64 n',.bool f',.pointer (some ⟨7,0,some 0⟩)] [some ⟨[.string s,.int .i64 p'],itTy,true⟩,some ⟨d',5,true⟩])∧(∀d' st' n' f' p',ja5 d'=true→Z .ret [.string ⟨#[]⟩,.bool false,.slice none 0 0,.int .i64 st',.int .i64 n',.bool f',.pointer (some ⟨7,0,some 0⟩)] [some ⟨[.string s,.int .i64 p'],itTy,true⟩,some ⟨d',5,true⟩]))∧(∀st' n' f' p',xpGo ((bz s).drop p.toNat) st n o.z=([],decide (st'=0))→Z (.exit 0) [.string r,.bool rb,.slice none 0 0,.int .i64 st',.int .i64 n',.bool f',.pointer (some ⟨7,0,some 0⟩)] [some ⟨[.string s,.int .i64 p'],itTy,true⟩,none])∧(∀d' m' cap' st' n' f' p',jci d' m' cap'=true→xpGo ((bz s).drop p.toNat) st n o.z=(zc d' m',decide (st'=0))→Z (.exit 0) [.string r,.bool rb,.slice (some ⟨200,0,some 1⟩) m' cap',.int .i64 st',.int .i64 n',.bool f',.pointer (some ⟨7,0,some 0⟩)] [some ⟨[.string s,.int .i64 p'],itTy,true⟩,some ⟨d',5,true⟩])
def gy(a:Y)(b:Int):Int:=((decO a b.toNat).fst:Int)
def py(c:Y)(a b d:Int)(e f g h i:Prop):Prop:=bif a==1 then cq (ll 0 b 32 0 (gy c d) 2147483647) e else f8 (gy c d==41) (a==2 || true) (gy c d==41 || a==2&&gy c d==40) f (bif gy c d==40 then g else ar (a==2) h i)
def qs(a c:Int)(b:Nat):Bool:=decide (a≥128) || (a7 (idxZ l9 (IntKind.u8.wrap a)) 0 || decide (d8 (natO b) c>32))
def qt(a:Int):Bool:=decide (a≥128) || cl (IntKind.u8.wrap a) 256&& (a7 (idxZ l9 (IntKind.u8.wrap a)) 0 || true)
def o9(a:Y)(b c:Int)(d:Nat)(e f g:Prop):Prop:=bif jc (gy a b) 97 then bif fq (gy a b) 97 122 then bif qt (dx (gy a b-32) .i32)then ar (qs (dx (gy a b-32) .i32) c d) e f else False else bif qt (gy a b)then ar (qs (gy a b) c d) e g else False else False
def lm(a:Y)(b:Int):Blk:= .mk [.string a,.int .i64 (b+((decO a b.toNat).snd:Int))] 4611686018427387904 true
def mr(k:Bool)(d j:Y)(i:Exit→E→O→Prop)(e f g l m:Int)(h:Px.Rw):Prop:=bif S114_0.toLSpec.pre (lm d e,(f,(g,(h,(0:Int)))))then∀a:E,∀b:Nat,∀c:Nat,jci a b c=true→zc a b=Rw.z h++rep1 f (kl g)→ik a 420 (b9 (f9 a 400 200) i [some (lm d e),ie [(400,200)] a] [.string j,.bool k,a9 200 b c,ak l,ak m,.bool true,av 7])else False
def ni(c:Bool)(a:Int)(b:Value):E:=[.bool false,jw,ak a,b,.bool c,av 7]
def pz(a g:Bool)(c h:Y)(b:Exit→E→O→Prop)(d e:Int)(f:Value):Prop:=ko (!a) b [some (lm c d),none] (d9::ni a e f) (dq g h [ak e,f,.bool a,av 7] jw)
theorem r80_0n(r:Y)(rb:Bool)(st:Int)(n:Int)(f:Bool)(s:Y)(p:Int)(jk:Tmps)(R:Exit→E→O→Prop):(jbv Tryz.prog G17 noL Tryz.f188.ntmps (ja9 Tryz.f188 0) (tl S80_0.live (V80_0 (r,rb,.nil,st,n,f,s,p)) jk) (ml S80_0.mid (B80_0 (r,rb,.nil,st,n,f,s,p))) S80_0.n fun e t' m' _=>S80_0.out R e t' m')=(bif decide (0≤p)then bif a7 p (aq s)then az (st==1) true (st==1&&gy s p==41) (pz (dy n 0) rb s r R p 2 (ak n)) (py s st n p (pz (rpZ n (gy s p)).snd rb s r R p st (I (rpZ n (gy s p)).fst)) (R .ret (d9::ni false st (ak n)) [some (lm s p),none]) (pz f rb s r R p 1 (ak 0)) (o9 s p n 0 (R .ret (d9::ni false 0 (ak n)) [some (lm s p),none]) (mr rb s r R p (dx (gy s p-32) .i32) n 0 n Rw.nil) (mr rb s r R p (gy s p) n 0 n Rw.nil)) (o9 s p 1 0 (R .ret (d9::ni false st (ak n)) [some (lm s p),none]) (mr rb s r R p (dx (gy s p-32) .i32) 1 st n Rw.nil) (mr rb s r R p (gy s p) 1 st n Rw.nil)))else R (.exit 0) (dq rb r [ak st,ak n,B f,av 7] jw) [ct true (ax s [] (ak p)) 4611686018427387904,none]else False):=by kernel_rfl
def ip(a:E):Bool:=jav [] a&&true&&true
def qy(i:Bool)(a j:Y)(f:Exit→E→O→Prop)(b c g h:Int)(e:E)(d k:Nat):Prop:=o9 a b c d (bif ip e then f .ret (d9::ni false g (ak h)) [some (lm a b),ie [] e]else False) (bif f9 e 200 400&&gm (rlbL [(200,400)] e) 420 then mr i a j f b (dx (gy a b-32) .i32) c g h (Rw.own (rlbL [(200,400)] e) d k)else False) (bif f9 e 200 400&&gm (rlbL [(200,400)] e) 420 then mr i a j f b (gy a b) c g h (Rw.own (rlbL [(200,400)] e) d k)else False)
def lp(a b:Bool)(c:Exit→E→O→Prop)(i:O)(g m:E)(h:Option Blk)(d e f j k l:Value):Prop:=bif a then bif b then c .ret (d::e::f::g) (h::i)else False else b9 b c (h::i) (j::k::l::m)
def p0(a k:Bool)(f j:Y)(c:Exit→E→O→Prop)(d g:Int)(b:E)(h i:Nat)(e:Value):Prop:=lp (!a) (f9 b 200 200) c (ic b) [ak d,e,.bool a,av 7] [ak d,e,.bool a,av 7] (some (lm f g)) d9 (.bool false) (a9 200 h i) (.string j) (.bool k) (a9 200 h i)
theorem r80_0o(r:Y)(rb:Bool)(d:E)(m:Nat)(cap:Nat)(st:Int)(n:Int)(f:Bool)(s:Y)(p:Int)(jk:Tmps)(R:Exit→E→O→Prop):(jbv Tryz.prog G17 noL Tryz.f188.ntmps (ja9 Tryz.f188 0) (tl S80_0.live (V80_0 (r,rb,.own d m cap,st,n,f,s,p)) jk) (ml S80_0.mid (B80_0 (r,rb,.own d m cap,st,n,f,s,p))) S80_0.n fun e t' m' _=>S80_0.out R e t' m')=(bif decide (0≤p)then bif a7 p (aq s)then az (st==1) true (st==1&&gy s p==41) (p0 (dy n 0) rb s r R 2 p d m cap (ak n)) (py s st n p (p0 (rpZ n (gy s p)).snd rb s r R st p d m cap (I (rpZ n (gy s p)).fst)) (bif f9 d 200 200 then R .ret [d9,B false,a9 200 m cap,ak st,ak n,B false,av 7] (some (lm s p)::ic d)else False) (p0 f rb s r R 1 p d m cap (ak 0)) (qy rb s r R p n 0 n d m cap) (qy rb s r R p 1 st n d m cap))else bif f9 d 200 200 then R (.exit 0) (dq rb r [ak st,ak n,B f,av 7] (a9 200 m cap)) (ct true (ax s [] (ak p)) 4611686018427387904::ic d)else False else False):=by kernel_rfl
theorem l80_0:LOKf Tryz.prog (oneL 0 S80_0.hA) Tryz.f188:=by
 refine jbo (h:=S80_0.hA) (by kernel_rfl) (jbr ok_G17 hmix (by kernel_rfl) (ja7 _) S80_0 V80_0 B80_0 (fun(r,rb,o,st,n,f,s,p)=>(s.size-p).toNat) ?_ ?_ ?_)
 ·intro vs bs s h;simp only[S80_0]at h;split at h
  all_goals first | (cases h;exact⟨rfl,rfl⟩) | cases h | (split at h<;>first | (rename_i hq;cases h;have hq:=jah hq;subst hq;exact⟨rfl,rfl⟩) | cases h)
 ·exact fun⟨r,rb,o,st,n,f,s,p⟩ hp=>by
   simp only[S80_0,jaf]at hp;cases o with
   | nil=>simp[V80_0,B80_0,S80_0,ja0,jbz,idsL,ids,Rw.v,Rw.b]
   | own d m cap=>simp[V80_0,B80_0,S80_0,ja0,jbz,idsL,ids,Rw.v,Rw.b,jaq (jat.1 hp.1).plain]
 ·intro⟨r,rb,o,st,n,f,s,p⟩ jk Z hp hf;simp only[S80_0]at hp hf;cases o with
  | nil=>
   rw[r80_0n];delta ct ax ak dq jw dv av ar az f8 gy cq ll py d8 a7 l9 qs cl qt dx fq jc o9 gm ik b9 a9 ie lm f9 kl mr ni a8 d9 ko pz dy aq;simp only[jaf,jae]at hp;obtain⟨-,rfl,hp⟩:=hp;simp only[Rw.z]at hp hf;refine c_t (jaa hp.1) (cond_intro (fun h=> ?_) (fun h=> ?_))
   ·have h:=jab h;obtain⟨k1,k2,k3,k4⟩:=dec_step hp.1 h;simp only[k4]at hf;clear k4;generalize ((decO s p.toNat).1:Int)=c at k1 k2 hf ⊢;generalize ((decO s p.toNat).2:Int)=k at k3 hf ⊢;have mu:(s.size-(p+k)).toNat<(s.size-p).toNat:=by omega
    refine c_t (by simp) (cond_intro (fun a=> ?_) (fun a=> ?_))
    ·have a:st=1∧c=41:=by simpa using a
     apply cond_intro<;>intro b
     ·have b:¬0<n:=by simpa using b
      exact(hf.1 (x2 a.1 a.2 b)).1 _ _ _ _
     ·have b:0<n:=by simpa using b
      rw[x1 a.1 a.2 b]at hf;rw[jaa b];exact⟨(r,rb,.nil,2,n,true,s,p+k),rfl,rfl,by simp only[S80_0,jaf,jae];exact⟨rfl,trivial,by omega,hp.2.1,.inr (.inr ⟨trivial,b⟩),by omega,by omega,Nat.zero_le _⟩,mu,hf⟩
    ·refine cond_intro (fun b=>c_t (jaa ⟨by omega,by omega,k1,k2⟩) ?_) (fun b=> ?_)
     ·have b:st=1:=by simpa using b
      have a:¬c=41:=fun q=>by rw[b,q]at a;cases a
      rw[x34 b a]at hf;apply cond_intro<;>intro g
      ·have g:(rpZ n c).2=false:=by simpa using g
       rw[if_neg (by rw[g];simp)]at hf;exact(hf.1 rfl).1 _ _ _ _
      ·have g:(rpZ n c).2=true:=by simpa using g
       have gr:=rp_rng hp.2.2.2.1 g;rw[if_pos g]at hf;rw[g,b];exact⟨(r,rb,.nil,1,(rpZ n c).1,true,s,p+k),rfl,rfl,by simp only[S80_0,jaf,jae];exact⟨rfl,trivial,by omega,hp.2.1,.inr (.inl trivial),by omega,by omega,Nat.zero_le _⟩,mu,hf⟩
     ·have b:¬st=1:=by simpa using b
      have hst:st=0∨st=2∧0<n:=by omega
      refine c_t (by simp) (cond_intro (fun g=> ?_) (fun g=> ?_))
      ·have g:c=41∨st=2∧c=40:=by simpa using g
       exact(hf.1 (x5 b g)).1 _ _ _ _
      ·have g:¬(c=41∨st=2∧c=40):=by
        intro q;have:(c==41 || st==2&&c==40)=true:=by simpa using q
        rw[this]at g;cases g
       refine cond_intro (fun q=>c_f rfl (?_)) (fun q=> ?_)
       ·have q:c=40:=by simpa using q
        rw[x6 b g q]at hf;exact⟨(r,rb,.nil,1,0,true,s,p+k),rfl,rfl,by simp only[S80_0,jaf,jae];exact⟨rfl,trivial,by omega,hp.2.1,.inr (.inl trivial),by omega,by omega,Nat.zero_le _⟩,mu,hf⟩
       ·have q:¬c=40:=by simpa using q
        rw[x7 b g q]at hf;apply cond_intro<;>intro v
        ·have v:st=2:=by simpa using v
         rw[if_pos v]at hf;refine c_t (by simp) (cond_intro (fun y=> ?_) (fun y=> ?_))
         ·have y:97≤c∧c≤122:=by simpa using y
          have hu:upZ c=c-32:=by unfold upZ;rw[if_pos y]
          rw[hu]at hf;rw[w32 (by omega)];refine ji2 ?_ ?_ (fun e=> ?_) (fun e d' m' cap' r1 r2=> ?_)
          ·omega
          ·omega
          ·rw[if_neg e]at hf;exact(hf.1 rfl).1 _ _ _ _
          ·rw[r1.rlb];rw[if_pos e,←r2,jjy _ 0 n]at hf;have hl:=jba r1;have hl2:=congrArg List.length r2;simp only[List.length_append,rep1,List.length_replicate]at hl2;simp only[List.length_nil]at e hl2;exact⟨(r,rb,.own d' m' cap',0,n,true,s,p+k),rfl,rfl,by simp only[S80_0,jaf,jae];exact⟨jat.2 r1,trivial,by omega,hp.2.1,.inl trivial,hp.2.2.2.1,hp.2.2.2.2.1,by simp only[Rw.z,hl];omega⟩,mu,hf⟩
         ·have y:¬(97≤c∧c≤122):=by
           intro q;have:(decide (c≥97) &&decide (c≤122))=true:=by simpa using q
           rw[this]at y;cases y
          have hu:upZ c=c:=by unfold upZ;rw[if_neg y]
          rw[hu]at hf;refine ji2 ?_ ?_ (fun e=> ?_) (fun e d' m' cap' r1 r2=> ?_)
          ·omega
          ·omega
          ·rw[if_neg e]at hf;exact(hf.1 rfl).1 _ _ _ _
          ·rw[r1.rlb];rw[if_pos e,←r2,jjy _ 0 n]at hf;have hl:=jba r1;have hl2:=congrArg List.length r2;simp only[List.length_append,rep1,List.length_replicate]at hl2;simp only[List.length_nil]at e hl2;exact⟨(r,rb,.own d' m' cap',0,n,true,s,p+k),rfl,rfl,by simp only[S80_0,jaf,jae];exact⟨jat.2 r1,trivial,by omega,hp.2.1,.inl trivial,hp.2.2.2.1,hp.2.2.2.2.1,by simp only[Rw.z,hl];omega⟩,mu,hf⟩
        ·have v:¬st=2:=by simpa using v
         have v0:st=0:=by omega
         rw[if_neg v]at hf;refine c_t (by simp) (cond_intro (fun y=> ?_) (fun y=> ?_))
         ·have y:97≤c∧c≤122:=by simpa using y
          have hu:upZ c=c-32:=by unfold upZ;rw[if_pos y]
          rw[hu]at hf;rw[w32 (by omega),v0];refine ji2 ?_ ?_ (fun e=> ?_) (fun e d' m' cap' r1 r2=> ?_)
          ·omega
          ·omega
          ·rw[if_neg e]at hf;exact(hf.1 rfl).1 _ _ _ _
          ·rw[r1.rlb];rw[if_pos e,←r2,jjy _ 0 n]at hf;have hl:=jba r1;have hl2:=congrArg List.length r2;simp only[List.length_append,rep1,List.length_replicate]at hl2;simp only[List.length_nil]at e hl2;exact⟨(r,rb,.own d' m' cap',0,n,true,s,p+k),rfl,rfl,by simp only[S80_0,jaf,jae];exact⟨jat.2 r1,trivial,by omega,hp.2.1,.inl trivial,hp.2.2.2.1,hp.2.2.2.2.1,by simp only[Rw.z,hl];omega⟩,mu,hf⟩
         ·have y:¬(97≤c∧c≤122):=by
           intro q;have:(decide (c≥97) &&decide (c≤122))=true:=by simpa using q
           rw[this]at y;cases y
          have hu:upZ c=c:=by unfold upZ;rw[if_neg y]
          rw[hu]at hf;rw[v0];refine ji2 ?_ ?_ (fun e=> ?_) (fun e d' m' cap' r1 r2=> ?_)
          ·omega
          ·omega
          ·rw[if_neg e]at hf;exact(hf.1 rfl).1 _ _ _ _
          ·rw[r1.rlb];rw[if_pos e,←r2,jjy _ 0 n]at hf;have hl:=jba r1;have hl2:=congrArg List.length r2;simp only[List.length_append,rep1,List.length_replicate]at hl2;simp only[List.length_nil]at e hl2;exact⟨(r,rb,.own d' m' cap',0,n,true,s,p+k),rfl,rfl,by simp only[S80_0,jaf,jae];exact⟨jat.2 r1,trivial,by omega,hp.2.1,.inl trivial,hp.2.2.2.1,hp.2.2.2.2.1,by simp only[Rw.z,hl];omega⟩,mu,hf⟩
   ·have h:=jac h;rw[jcq (by omega)]at hf;exact hf.2.1 st n _ p rfl
  | own d m cap=>
   rw[r80_0o];delta ie ic ct ax ak dq dv a9 av f9 ar az f8 gy cq ll py d8 a7 l9 qs cl qt dx fq jc o9 gm ik b9 lm kl mr jw ni a8 d9 ip qy lp p0 dy aq;simp only[jaf,jae]at hp;obtain⟨hR,rfl,hp⟩:=hp;have hr:=jat.1 hR;have hzl:=jba hr;simp only[Rw.z]at hp hf;have hL:(Rw.own d m cap).z.length≤32:=by simp only[Rw.z];exact hp.2.2.2.2.2
   have hm:m≤32:=by have:=hp.2.2.2.2.2;omega
   simp only[hr.rlb];have hg:∀ps,(jav ps d&&true&&true)=true:=fun ps=>by rw[hr.good];rfl
   refine c_t (jaa hp.1) (cond_intro (fun h=> ?_) (fun h=> ?_))
   ·have h:=jab h;obtain⟨k1,k2,k3,k4⟩:=dec_step hp.1 h;simp only[k4]at hf;clear k4;generalize ((decO s p.toNat).1:Int)=c at k1 k2 hf ⊢;generalize ((decO s p.toNat).2:Int)=k at k3 hf ⊢;have mu:(s.size-(p+k)).toNat<(s.size-p).toNat:=by omega
    refine c_t (by simp) (cond_intro (fun a=> ?_) (fun a=> ?_))
    ·have a:st=1∧c=41:=by simpa using a
     refine cond_intro (fun b=>c_t (hg _) ?_) (fun b=>c_t (hg _) ?_)
     ·have b:¬0<n:=by simpa using b
      exact(hf.1 (x2 a.1 a.2 b)).2.1 d m cap _ _ _ _ hR
     ·have b:0<n:=by simpa using b
      rw[x1 a.1 a.2 b]at hf;rw[jaa b];exact⟨(r,rb,.own d m cap,2,n,true,s,p+k),rfl,rfl,by simp only[S80_0,jaf,jae];exact⟨hR,trivial,by omega,hp.2.1,.inr (.inr ⟨trivial,b⟩),by omega,by omega,hL⟩,mu,hf⟩
    ·refine cond_intro (fun b=>c_t (jaa ⟨by omega,by omega,k1,k2⟩) ?_) (fun b=> ?_)
     ·have b:st=1:=by simpa using b
      have a:¬c=41:=fun q=>by rw[b,q]at a;cases a
      rw[x34 b a]at hf;refine cond_intro (fun g=>c_t (hg _) ?_) (fun g=>c_t (hg _) ?_)
      ·have g:(rpZ n c).2=false:=by simpa using g
       rw[if_neg (by rw[g];simp)]at hf;exact(hf.1 rfl).2.1 d m cap _ _ _ _ hR
      ·have g:(rpZ n c).2=true:=by simpa using g
       have gr:=rp_rng hp.2.2.2.1 g;rw[if_pos g]at hf;rw[g,b];exact⟨(r,rb,.own d m cap,1,(rpZ n c).1,true,s,p+k),rfl,rfl,by simp only[S80_0,jaf,jae];exact⟨hR,trivial,by omega,hp.2.1,.inr (.inl trivial),by omega,by omega,hL⟩,mu,hf⟩
     ·have b:¬st=1:=by simpa using b
      have hst:st=0∨st=2∧0<n:=by omega
      refine c_t (by simp) (cond_intro (fun g=>c_t (hg _) ?_) (fun g=> ?_))
      ·have g:c=41∨st=2∧c=40:=by simpa using g
       exact(hf.1 (x5 b g)).2.1 d m cap _ _ _ _ hR
      ·have g:¬(c=41∨st=2∧c=40):=by
        intro q;have:(c==41 || st==2&&c==40)=true:=by simpa using q
        rw[this]at g;cases g
       refine cond_intro (fun q=>c_f rfl (c_t (hg _) ?_)) (fun q=> ?_)
       ·have q:c=40:=by simpa using q
        rw[x6 b g q]at hf;exact⟨(r,rb,.own d m cap,1,0,true,s,p+k),rfl,rfl,by simp only[S80_0,jaf,jae];exact⟨hR,trivial,by omega,hp.2.1,.inr (.inl trivial),by omega,by omega,hL⟩,mu,hf⟩
       ·have q:¬c=40:=by simpa using q
        rw[x7 b g q]at hf;apply cond_intro<;>intro v
        ·have v:st=2:=by simpa using v
         rw[if_pos v]at hf;refine c_t (by simp) (cond_intro (fun y=> ?_) (fun y=> ?_))
         ·have y:97≤c∧c≤122:=by simpa using y
          have hu:upZ c=c-32:=by unfold upZ;rw[if_pos y]
          rw[hu]at hf;rw[w32 (by omega)];refine ji1 hr hm ?_ ?_ (fun e=> ?_) (fun e d' m' cap' r1 r2=> ?_)
          ·omega
          ·omega
          ·rw[if_neg e]at hf;exact(hf.1 rfl).2.2 d _ _ _ _ hr.plain
          ·rw[r1.rlb];rw[if_pos e,←r2,jjy _ 0 n]at hf;have hl:=jba r1;have hl2:=congrArg List.length r2;simp only[List.length_append,rep1,List.length_replicate]at hl2;simp only[hzl]at e hl2;exact⟨(r,rb,.own d' m' cap',0,n,true,s,p+k),rfl,rfl,by simp only[S80_0,jaf,jae];exact⟨jat.2 r1,trivial,by omega,hp.2.1,.inl trivial,hp.2.2.2.1,hp.2.2.2.2.1,by simp only[Rw.z,hl];omega⟩,mu,hf⟩
         ·have y:¬(97≤c∧c≤122):=by
           intro q;have:(decide (c≥97) &&decide (c≤122))=true:=by simpa using q
           rw[this]at y;cases y
          have hu:upZ c=c:=by unfold upZ;rw[if_neg y]
          rw[hu]at hf;refine ji1 hr hm ?_ ?_ (fun e=> ?_) (fun e d' m' cap' r1 r2=> ?_)
          ·omega
          ·omega
          ·rw[if_neg e]at hf;exact(hf.1 rfl).2.2 d _ _ _ _ hr.plain
          ·rw[r1.rlb];rw[if_pos e,←r2,jjy _ 0 n]at hf;have hl:=jba r1;have hl2:=congrArg List.length r2;simp only[List.length_append,rep1,List.length_replicate]at hl2;simp only[hzl]at e hl2;exact⟨(r,rb,.own d' m' cap',0,n,true,s,p+k),rfl,rfl,by simp only[S80_0,jaf,jae];exact⟨jat.2 r1,trivial,by omega,hp.2.1,.inl trivial,hp.2.2.2.1,hp.2.2.2.2.1,by simp only[Rw.z,hl];omega⟩,mu,hf⟩
        ·have v:¬st=2:=by simpa using v
         have v0:st=0:=by omega
         rw[if_neg v]at hf;refine c_t (by simp) (cond_intro (fun y=> ?_) (fun y=> ?_))
         ·have y:97≤c∧c≤122:=by simpa using y
          have hu:upZ c=c-32:=by unfold upZ;rw[if_pos y]
          rw[hu]at hf;rw[w32 (by omega),v0];refine ji1 hr hm ?_ ?_ (fun e=> ?_) (fun e d' m' cap' r1 r2=> ?_)
          ·omega
          ·omega
          ·rw[if_neg e]at hf;exact(hf.1 rfl).2.2 d _ _ _ _ hr.plain
          ·rw[r1.rlb];rw[if_pos e,←r2,jjy _ 0 n]at hf;have hl:=jba r1;have hl2:=congrArg List.length r2;simp only[List.length_append,rep1,List.length_replicate]at hl2;simp only[hzl]at e hl2;exact⟨(r,rb,.own d' m' cap',0,n,true,s,p+k),rfl,rfl,by simp only[S80_0,jaf,jae];exact⟨jat.2 r1,trivial,by omega,hp.2.1,.inl trivial,hp.2.2.2.1,hp.2.2.2.2.1,by simp only[Rw.z,hl];omega⟩,mu,hf⟩
         ·have y:¬(97≤c∧c≤122):=by
           intro q;have:(decide (c≥97) &&decide (c≤122))=true:=by simpa using q
           rw[this]at y;cases y
          have hu:upZ c=c:=by unfold upZ;rw[if_neg y]
          rw[hu]at hf;rw[v0];refine ji1 hr hm ?_ ?_ (fun e=> ?_) (fun e d' m' cap' r1 r2=> ?_)
          ·omega
          ·omega
          ·rw[if_neg e]at hf;exact(hf.1 rfl).2.2 d _ _ _ _ hr.plain
          ·rw[r1.rlb];rw[if_pos e,←r2,jjy _ 0 n]at hf;have hl:=jba r1;have hl2:=congrArg List.length r2;simp only[List.length_append,rep1,List.length_replicate]at hl2;simp only[hzl]at e hl2;exact⟨(r,rb,.own d' m' cap',0,n,true,s,p+k),rfl,rfl,by simp only[S80_0,jaf,jae];exact⟨jat.2 r1,trivial,by omega,hp.2.1,.inl trivial,hp.2.2.2.1,hp.2.2.2.2.1,by simp only[Rw.z,hl];omega⟩,mu,hf⟩
   ·have h:=jac h;rw[jcq (by omega)]at hf;exact c_t (hg _) (hf.2.2 d m cap st n _ p hR rfl)
def s80(s:Y):Bool×Value:=(decide (s.size≤9223372036854775807),.tuple ⟨[.string (sz (xpGo (bz s) 0 0 []).1),.bool (exOK (bz s))]⟩)
theorem fn80:Fn1 Tryz.prog 188 Tryz.f188:= .m Tryz.func188
theorem v80(s:Y)(R:Value→Prop):ja1 Tryz.prog G17 (oneL 0 S80_0.hA) Tryz.f188 [Enc.enc s] (fun _=>none) 0 (fun v _ _=>R v)=(j9 (S80_0.toLSpec.pre (a8,(false,(Rw.nil,((0:Int),((0:Int),(true,(s,(0:Int))))))))) (xpGo (bq s 0) 0 0 (Rw.z Rw.nil)=(([]:J),false)→(Int→Int→Bool→fu (R (al (d9::fv))))∧(∀a:E,∀b:Nat,∀c:Nat,Int→Int→Bool→Int→jci a b c=true→jj (gm a 210) (al (d9::fv)) R)∧(∀a:E,Int→Int→Bool→Int→ja5 a=true→jj (gm a 210) (al (d9::fv)) R)) ((∀a:Int,Int→Bool→Int→xpGo (bq s 0) 0 0 (Rw.z Rw.nil)=(([]:J),decide (a=0))→Tmps→cu (a==0 || true) (al (ax (bif a==0 then ByteArray.empty else ByteArray.empty) [] (B (a==0&&decide (natO 0>0))))) R)∧(∀a:E,∀b:Nat,∀c:Nat,∀d:Int,Int→Bool→Int→jci a b c=true→xpGo (bq s 0) 0 0 (Rw.z Rw.nil)=(zc a b,decide (d=0))→ik a 210 (cu (jbf a 0 b&& (d==0 || true)) (al (ax (bif d==0 then jbb a 0 b else jbb a 0 b) [] (B (d==0&&decide (natO b>0))))) R)))):=by kernel_rfl
theorem ok80:jao Tryz.prog 188 (sp1 s80):=by
 refine jb8 ok_G17 hmix fn80 l80_0 jag fun s hc=> ?_
 rw[ja2,v80];delta j9 gm ik cu al ax bq jj fv a8 d9 fu;have hc:(s.size≤9223372036854775807):=jab hc
 try dsimp only[s80]
 refine c_t ?_ ⟨fun h=> ?_,fun st' n' f' p' h x=> ?_,fun d' m' cap' st' n' f' p' hr h=> ?_⟩
 ·simp only[S80_0,Rw.ok,Rw.z,Bool.true_and];exact jaa ⟨by omega,by omega,.inl trivial,by omega,by omega,by simp⟩
 ·have h:xpGo (bz s) 0 0 []=([],false):=h;have e:exOK (bz s)=false:=by simp[exOK,h]
  rw[h,e];exact⟨fun _ _ _ _ _=>rfl,fun d' m' cap' _ _ _ _ hr=>c_t (by rw[jbi (jat.1 hr).plain];rfl) fun _=>rfl,fun d' _ _ _ _ hp=>c_t (by rw[jbi hp];rfl) fun _=>rfl⟩
 ·have h:xpGo (bz s) 0 0 []=([],decide (st'=0)):=h;have e:exOK (bz s)=false:=by simp[exOK,h]
  rw[h,e];refine c_t (by simp) ?_;rw[jb6];have e1:(bif st'==0 then ByteArray.empty else ByteArray.empty)=sz []:=by cases st'==0<;>rfl
  have e2:(st'==0&&decide (((0:Nat):Int)>0))=false:=by simp
  rw[e1,e2]
 ·have h:xpGo (bz s) 0 0 []=(zc d' m',decide (st'=0)):=h;have hr:=jat.1 hr;have hl:=jba hr;refine c_t (by rw[jbi hr.plain];rfl) fun x=>c_t (by rw[hr.str.1];simp) ?_
  rw[hr.str.2,jb6];have e1:(bif st'==0 then sz (zc d' m')else sz (zc d' m'))=sz (zc d' m'):=by cases st'==0<;>rfl
  have e2:exOK (bz s)=(st'==0&&decide ((m':Int)>0)):=by
   rw[exOK,h];simp only;rw[Bool.eq_iff_iff];simp only[jaf,jae,beq_iff_eq,Bool.not_eq_true',List.isEmpty_eq_false_iff];constructor
   ·rintro ⟨a,b⟩;have:=List.length_pos_iff.2 b;exact⟨a,by omega⟩
   ·rintro ⟨a,b⟩;exact⟨a,fun q=>by rw[q]at hl;simp at hl;omega⟩
  rw[e1,e2,h]
def G18:Env:=Env.nil.add 188 (sp1 s80)
theorem ok_G18:jax Tryz.prog G18:=jak jan ok80
def s44(s:Y):Bool×Value:=(decide (s.size≤9223372036854775807),.tuple ⟨[.string (sz (exZ (bz s))),.int .i64 (eE (bz s))]⟩)
theorem fn44:Fn1 Tryz.prog 128 Tryz.f128:= .m Tryz.func128
def il(a:Y):Y:=sz (xpGo (bz a) 0 0 []).fst
theorem v44(s:Y)(R:Value→Prop):ja1 Tryz.prog G18 noL Tryz.f128 [Enc.enc s] (fun _=>none) 0 (fun v _ _=>R v)=(du (!exOK (bz s)) s (R (.tuple ⟨g8 30 []⟩)) (R (al (ax (il s) [] (ak 0))))):=by kernel_rfl
theorem ok44:jao Tryz.prog 128 (sp1 s44):=by
 refine jb8 ok_G18 hmix fn44 jai jag fun s hc=> ?_
 rw[ja2,v44];delta ar cm du al ax ak il e8 g8;have hc:(s.size≤9223372036854775807):=jab hc
 try dsimp only[s44]
 refine c_t (jaa hc) (cond_intro (fun h=> ?_) (fun h=> ?_))
 ·have h:exOK (bz s)=false:=by simpa using h
  simp[exZ,eE,h,jhj]
 ·have h:exOK (bz s)=true:=by simpa using h
  simp[exZ,eE,h]
end Go.Px
end
noncomputable section
namespace Go.Px
open Go Go.Ab Go.Proofs Go.Shelf
theorem c280:jbw Tryz.prog 280:=cal Tryz.func280 (by kernel_rfl) (by kernel_rfl)
def jck:J→Int→Int
 | [],_=> -1
 | b::l,c=>if jck l c= -1 then(if b=c then 0 else -1)else jck l c+1
theorem jeh(c:Int):∀l:J,(jck l c= -1∧ ∀j,j<l.length→l.getD j 0≠c)∨(∃i:Nat,i<l.length∧jck l c=i∧l.getD i 0=c∧ ∀j,i<j→j<l.length→l.getD j 0≠c)
 | []=> .inl ⟨rfl,fun j h=>by simp at h⟩
 | b::l=>by
  rcases jeh c l with⟨e,h⟩ | ⟨i,hi,e,hc,h⟩
  ·simp only[jck,e,if_true];by_cases hb:b=c
   ·rw[if_pos hb];refine .inr ⟨0,by simp,rfl,by simpa using hb,fun j h1 h2=> ?_⟩;obtain⟨j,rfl⟩:∃k,j=k+1:=⟨j-1,by omega⟩
    simpa using h j (by simpa using h2)
   ·rw[if_neg hb];refine .inl ⟨rfl,fun j h1=> ?_⟩;cases j with
    | zero=>simpa using hb
    | succ j=>simpa using h j (by simpa using h1)
  ·simp only[jck];rw[if_neg (by omega),e];refine .inr ⟨i+1,by simpa using hi,by omega,by simpa using hc,fun j h1 h2=> ?_⟩;obtain⟨j,rfl⟩:∃k,j=k+1:=⟨j-1,by omega⟩
   simpa using h j (by omega) (by simpa using h2)
theorem last_zl(s:Y)(c:Int):Lib.lastIndexByte s c=jck (bz s) c:=by
 have hd:∀j,j<s.size→((s.data[j]!).toNat:Int)=(bz s).getD j 0:=fun j hj=>by
  have hj':j<s.data.size:=hj;rw[getElem!_pos s.data j hj'];simp only[bz,List.getD_eq_getElem?_getD,List.getElem?_map,Array.getElem?_toList];rw[Array.getElem?_eq_getElem hj'];rfl
 rcases Lib.lastIndexByte_spec s c with⟨e,h⟩ | ⟨i,hi,e,hc,h⟩ <;>rcases jeh c (bz s)with⟨e',h'⟩ | ⟨i',hi',e',hc',h'⟩
 ·rw[e,e']
 ·rw[jap]at hi';exact absurd hc' (by rw[←hd i' hi'];exact h i' hi')
 ·rw[hd i hi]at hc;exact absurd hc (h' i (by rw[jap];exact hi))
 ·rw[jap]at hi' h';rw[hd i hi]at hc;rw[e,e'];rcases Nat.lt_trichotomy i i' with q | q | q
  ·exact absurd hc' (by rw[←hd i' hi'];exact h i' q hi')
  ·rw[q]
  ·exact absurd hc (h' i q hi)
theorem ji4(l:J)(c:Int): -1≤jck l c∧jck l c<l.length:=by
 rcases jeh c l with⟨e,_⟩ | ⟨i,hi,e,_⟩ <;>omega
def s280(s:Y)(c:U8):Bool×Value:=(decide (s.size≤1000),.int .i64 (jck (bz s) c.n))
theorem ok280:jao Tryz.prog 280 (sp2 s280):=jdu c280 fun s c hc w _=>by
 refine(Any.strings_LastIndexByte Tryz.lays149 s c.n (by have:s.size≤1000:=jab hc;omega) w).mono fun e w' ⟨h1,h2⟩=>⟨?_,jcp h2⟩
 rw[h1,last_zl];rfl
end Go.Px
end
